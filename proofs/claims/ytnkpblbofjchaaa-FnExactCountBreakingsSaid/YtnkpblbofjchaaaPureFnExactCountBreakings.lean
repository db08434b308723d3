/- The program's CountBreakings and the reference's answer the same for every measure and list. No conditions beyond those of the statement's reading. -/
import Derived.Test.YtnkpblbofjchaaaPInts
import Derived.Test.YtnkpblbofjchaaaPMeasure
import Derived.Test.YtnkpblbofjchaaaPWays
import Derived.Test.YtnkpblbofjchaaaQ52
namespace Go.Proofs.Ytnkpblbofjchaaa.Pure
open Go.RowKit Go.Proofs.Ytnkpblbofjchaaa.Q Go.Proofs.YtnkpblbofjchaaaW.PrintWords Go.Proofs.YtnkpblbofjchaaaW.PrintLast Go.Proofs.YtnkpblbofjchaaaW.PrintMore
set_option linter.unusedVariables false
set_option linter.unusedSimpArgs false
theorem FnExactCountBreakings : laws_FnExactCountBreakings.Pure := by
  intro a b c l wa wb wc hm hw
  by_cases hlen : (l.length : Int) > 1048576
  · exact ⟨0, by simp only [laws_FnExactCountBreakings.f, if_pos hlen]⟩
  obtain ⟨K1, h1⟩ := toIntS_ev l (by omega)
  obtain ⟨K2, h2⟩ := spec_CountBreakings_ev a b c l (by omega)
  obtain ⟨K3, h3⟩ := impl_CountBreakings_ev a b c l
  obtain ⟨K4, h4⟩ := eqIntS_ev l l (by omega)
  generalize hK : K1 + K2 + K3 + K4 = K
  have g1 := fun j => h1 (K + j) (by omega)
  have g2 := fun j => h2 (K + j) (by omega)
  have g3 := fun j => h3 (K + j) (by omega)
  have g4 := fun j => h4 (K + j) (by omega)
  refine ⟨K + 9, ?_⟩
  simp only [laws_FnExactCountBreakings.f, if_neg hlen, toMeasure_eq, g1, g2, g3, g4, Option.bind_some, if_true, decide_true]
end Go.Proofs.Ytnkpblbofjchaaa.Pure
