/- The program's LettersOf and the reference's answer the same for every font and list of matrices. No conditions beyond those of the statement's reading. -/
import Derived.Test.YtilbngklgjjblaaPFont
import Derived.Test.YtilbngklgjjblaaPLetters
import Derived.Test.YtilbngklgjjblaaPMats
import Derived.Test.YtilbngklgjjblaaQ8
namespace Go.Proofs.Ytilbngklgjjblaa.Pure
open Go.RowKit Go.Proofs.Ytilbngklgjjblaa.Q Go.Proofs.YtilbngklgjjblaaW.PrintWords Go.Proofs.YtilbngklgjjblaaW.PrintLast Go.Proofs.YtilbngklgjjblaaW.PrintMore
set_option linter.unusedVariables false
set_option linter.unusedSimpArgs false
theorem FnExactLettersOf : laws_FnExactLettersOf.Pure := by
  intro a ws cs l h1 h2 _ h3 _ h4 _
  obtain ⟨t, ht, hlt⟩ := szFont_ok a ws cs h1 h2 h3
  by_cases hneg : t < 0
  · exact ⟨0, by simp only [laws_FnExactLettersOf.f, ht, Option.bind_some, if_pos hneg]⟩
  · obtain ⟨lt, _, l2, l3⟩ := hlt hneg
    obtain ⟨u, hu, _, hu2⟩ := szMatrixS_ok l t (by omega) lt h4
    by_cases hneg2 : u < 0
    · exact ⟨0, by simp only [laws_FnExactLettersOf.f, ht, Option.bind_some, if_neg hneg, hu, if_pos hneg2]⟩
    · have l4 := hu2 hneg2
      obtain ⟨K1, f1⟩ := toFont_ev a ws cs (by omega) (by omega)
      obtain ⟨K2, f2⟩ := eqFont_ev a ws cs (by omega) (by omega)
      obtain ⟨K3, f3⟩ := spec_LettersOf_ev a ws cs (l.map conv) (by rw [List.length_map]; omega) (by omega)
      obtain ⟨K4, f4⟩ := impl_LettersOf_ev a ws cs (l.map conv) (by rw [List.length_map]; omega) (by omega)
      obtain ⟨K5, f5⟩ := toMatrixS_ev l (by omega)
      obtain ⟨K6, f6⟩ := eqMatrixS_ev (l.map conv) (by rw [List.length_map]; omega)
      refine ⟨K1 + K2 + K3 + K4 + K5 + K6, ?_⟩
      generalize hK : K1 + K2 + K3 + K4 + K5 + K6 = K
      simp only [laws_FnExactLettersOf.f, ht, Option.bind_some, if_neg hneg, hu, if_neg hneg2, f1 K (by omega), f2 K (by omega), f3 K (by omega), f4 K (by omega), f5 K (by omega), f6 K (by omega), if_true]
end Go.Proofs.Ytilbngklgjjblaa.Pure
