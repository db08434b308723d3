/- The program's IsBreaking and the reference's answer the same for every measure and lists. No conditions beyond those of the statement's reading. -/
import Derived.Test.YtnkpblbofjchaaaPBreaking
import Derived.Test.YtnkpblbofjchaaaPInts
import Derived.Test.YtnkpblbofjchaaaPMeasure
import Derived.Test.YtnkpblbofjchaaaQ35
namespace Go.Proofs.Ytnkpblbofjchaaa.Pure
open Go.RowKit Go.Proofs.Ytnkpblbofjchaaa.Q Go.Proofs.YtnkpblbofjchaaaW.PrintWords Go.Proofs.YtnkpblbofjchaaaW.PrintLast Go.Proofs.YtnkpblbofjchaaaW.PrintMore
set_option linter.unusedVariables false
set_option linter.unusedSimpArgs false
theorem FnExactIsBreaking : laws_FnExactIsBreaking.Pure := by
  intro a b c l ls wa wb wc hm hw hm2 hw2
  by_cases hlen : (l.length : Int) > 1048576
  · exact ⟨0, by simp only [laws_FnExactIsBreaking.f, if_pos hlen]⟩
  by_cases hlen2 : (ls.length : Int) > 1048576
  · exact ⟨0, by simp only [laws_FnExactIsBreaking.f, if_neg hlen, if_pos hlen2]⟩
  obtain ⟨K1, h1⟩ := toIntS_ev l (by omega)
  obtain ⟨K2, h2⟩ := spec_IsBreaking_ev a b c l ls (by omega) (by omega) hw2
  obtain ⟨K3, h3⟩ := impl_IsBreaking_ev a b c l ls (by omega)
  obtain ⟨K4, h4⟩ := eqIntS_ev l l (by omega)
  obtain ⟨K5, h5⟩ := toIntS_ev ls (by omega)
  obtain ⟨K6, h6⟩ := eqIntS_ev ls ls (by omega)
  generalize hK : K1 + K2 + K3 + K4 + K5 + K6 = K
  have g1 := fun j => h1 (K + j) (by omega)
  have g2 := fun j => h2 (K + j) (by omega)
  have g3 := fun j => h3 (K + j) (by omega)
  have g4 := fun j => h4 (K + j) (by omega)
  have g5 := fun j => h5 (K + j) (by omega)
  have g6 := fun j => h6 (K + j) (by omega)
  refine ⟨K + 9, ?_⟩
  simp only [laws_FnExactIsBreaking.f, if_neg hlen, if_neg hlen2, toMeasure_eq, g1, g2, g3, g4, g5, g6, Option.bind_some, if_true, bne_self_eq_false, Bool.false_eq_true, if_false, decide_true]
end Go.Proofs.Ytnkpblbofjchaaa.Pure
