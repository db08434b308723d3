/- The program's CountFitting and the reference's answer the same for every measure and lists. No conditions beyond those of the statement's reading. -/
import Derived.Test.YtnkpblbofjchaaaPFitting
import Derived.Test.YtnkpblbofjchaaaPInts
import Derived.Test.YtnkpblbofjchaaaPMeasure
import Derived.Test.YtnkpblbofjchaaaQ6
namespace Go.Proofs.Ytnkpblbofjchaaa.Pure
open Go.RowKit Go.Proofs.Ytnkpblbofjchaaa.Q Go.Proofs.YtnkpblbofjchaaaW.PrintWords Go.Proofs.YtnkpblbofjchaaaW.PrintLast Go.Proofs.YtnkpblbofjchaaaW.PrintMore
set_option linter.unusedVariables false
set_option linter.unusedSimpArgs false
theorem FnExactCountFitting : laws_FnExactCountFitting.Pure := by
  intro a b c l m wa wb wc h1 _ h2 _
  by_cases c1 : (l.length : Int) > 1048576
  · exact ⟨0, by simp only [laws_FnExactCountFitting.f, if_pos c1]⟩
  by_cases c2 : (m.length : Int) > 1048576
  · exact ⟨0, by simp only [laws_FnExactCountFitting.f, if_neg c1, if_pos c2]⟩
  obtain ⟨K1, f1⟩ := toIntS_ev l (by omega)
  obtain ⟨K2, f2⟩ := toIntS_ev m (by omega)
  obtain ⟨K3, f3⟩ := spec_CountFitting_ev a b c l m (by omega) (by omega)
  obtain ⟨K4, f4⟩ := impl_CountFitting_ev a b c l m (by omega)
  obtain ⟨K5, f5⟩ := eqIntS_ev l l (by omega)
  obtain ⟨K6, f6⟩ := eqIntS_ev m m (by omega)
  refine ⟨K1 + K2 + K3 + K4 + K5 + K6, ?_⟩
  generalize hK : K1 + K2 + K3 + K4 + K5 + K6 = K
  simp only [laws_FnExactCountFitting.f, if_neg c1, if_neg c2, toMeasure_eq, f1 K (by omega), f2 K (by omega), f3 K (by omega), f4 K (by omega), f5 K (by omega), f6 K (by omega), Option.bind_some, decide_true, if_true]
end Go.Proofs.Ytnkpblbofjchaaa.Pure
