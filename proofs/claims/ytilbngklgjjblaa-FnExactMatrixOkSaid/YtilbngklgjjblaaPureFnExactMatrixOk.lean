/- The program's MatrixOk and the reference's answer the same for every font and matrix. No conditions beyond those of the statement's reading. -/
import Derived.Test.YtilbngklgjjblaaPFont
import Derived.Test.YtilbngklgjjblaaPMatrix
import Derived.Test.YtilbngklgjjblaaQ5
import Derived.Test.YtilbngklgjjblaaQ6
namespace Go.Proofs.Ytilbngklgjjblaa.Pure
open Go.RowKit Go.Proofs.Ytilbngklgjjblaa.Q Go.Proofs.YtilbngklgjjblaaW.PrintWords Go.Proofs.YtilbngklgjjblaaW.PrintLast Go.Proofs.YtilbngklgjjblaaW.PrintMore
set_option linter.unusedVariables false
set_option linter.unusedSimpArgs false
theorem FnExactMatrixOk : laws_FnExactMatrixOk.Pure := by
  intro a ws cs kind teeth h1 h2 _ h3 _ _ _
  obtain ⟨t, ht, hlt⟩ := szFont_ok a ws cs h1 h2 h3
  by_cases hneg : t < 0
  · exact ⟨0, by simp only [laws_FnExactMatrixOk.f, ht, Option.bind_some, if_pos hneg]⟩
  · obtain ⟨_, _, l2, l3⟩ := hlt hneg
    obtain ⟨K1, f1⟩ := toFont_ev a ws cs (by omega) (by omega)
    obtain ⟨K2, f2⟩ := eqFont_ev a ws cs (by omega) (by omega)
    obtain ⟨K3, f3⟩ := spec_MatrixOk_ev a ws cs kind teeth (by omega)
    obtain ⟨K4, f4⟩ := impl_MatrixOk_ev a ws cs kind teeth (by omega)
    refine ⟨K1 + K2 + K3 + K4, ?_⟩
    generalize hK : K1 + K2 + K3 + K4 = K
    simp only [laws_FnExactMatrixOk.f, laws_toMatrix.f, ht, Option.bind_some, if_neg hneg, f1 K (by omega), f2 K (by omega), f3 K (by omega), f4 K (by omega), bne_self_eq_false, Bool.false_eq_true, if_false, if_true]
end Go.Proofs.Ytilbngklgjjblaa.Pure
