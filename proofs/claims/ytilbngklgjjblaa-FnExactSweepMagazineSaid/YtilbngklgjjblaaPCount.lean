/- Strays and worn matrices: what the program's and the reference's functions count. Conditions: those that each lemma names. -/
import Derived.Test.YtilbngklgjjblaaPFont
import Derived.Test.YtilbngklgjjblaaPLetters
import Derived.Test.YtilbngklgjjblaaPMagazine
import Derived.Test.YtilbngklgjjblaaQ0
namespace Go.Proofs.Ytilbngklgjjblaa.Q
open Go.RowKit Go.Proofs.YtilbngklgjjblaaW.PrintWords Go.Proofs.YtilbngklgjjblaaW.PrintLast Go.Proofs.YtilbngklgjjblaaW.PrintMore
set_option linter.unusedVariables false
set_option linter.unusedSimpArgs false
theorem mag_rows (a : ByteArray) (ws cs : List Int) (m : List (List S30)) (h : magazineOk a ws cs m = true) : m.length ≤ 40 ∧ cs.length = a.size ∧ ∀ ch ∈ m, ch.length ≤ 20 ∧ ∀ x ∈ ch, 0 ≤ x.f0 ∧ x.f0 < a.size := by
  unfold magazineOk at h
  rw [Bool.and_eq_true, Bool.and_eq_true, decide_eq_true_eq] at h
  obtain ⟨⟨h1, h2⟩, h3⟩ := h
  obtain ⟨_, l2, _, l4⟩ := fontB_len a ws cs h1
  refine ⟨by omega, l4, fun ch hc => ?_⟩
  have h4 := List.all_eq_true.1 h3 ch hc
  unfold chanB at h4
  rw [Bool.and_eq_true, decide_eq_true_eq] at h4
  exact ⟨h4.1, fun x hx => matB_range a cs _ _ (List.all_eq_true.1 h4.2 x hx)⟩
end Go.Proofs.Ytilbngklgjjblaa.Q
