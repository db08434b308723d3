/- The letters of matrices: what the program's and the reference's LettersOf give. Conditions: those that each lemma names. -/
import Derived.Test.YtilbngklgjjblaaPMatrix
namespace Go.Proofs.Ytilbngklgjjblaa.Q
open Go.RowKit Go.Proofs.YtilbngklgjjblaaW.PrintWords Go.Proofs.YtilbngklgjjblaaW.PrintLast Go.Proofs.YtilbngklgjjblaaW.PrintMore
set_option linter.unusedVariables false
set_option linter.unusedSimpArgs false
theorem matB_range (a : ByteArray) (cs : List Int) (kind teeth : Int) (h : matB a cs kind teeth = true) : 0 ≤ kind ∧ kind < a.size := by
  unfold matB at h
  simp only [Bool.and_eq_true, decide_eq_true_eq] at h
  exact ⟨h.1.1.1, h.1.1.2⟩
end Go.Proofs.Ytilbngklgjjblaa.Q
