/- Copies of magazines; what the exact laws over magazines have in common. Conditions: those that each lemma names. -/
import Derived.Test.YtilbngklgjjblaaPMarkS
import Derived.Test.YtilbngklgjjblaaPMats
import Derived.Test.YtilbngklgjjblaaQ0
import Derived.Test.YtilbngklgjjblaaQ3
import Derived.Test.YtilbngklgjjblaaQ9
namespace Go.Proofs.Ytilbngklgjjblaa.Q
open Go.RowKit Go.Proofs.YtilbngklgjjblaaW.PrintWords Go.Proofs.YtilbngklgjjblaaW.PrintLast Go.Proofs.YtilbngklgjjblaaW.PrintMore
set_option linter.unusedVariables false
set_option linter.unusedSimpArgs false
theorem rows_common (o : List (List S30)) (h1 : o.length ≤ 10000) (h2 : ∀ r ∈ o, r.length ≤ 10000) :
    ∃ y l K, ¬ y < 0 ∧ ∀ k, K ≤ k → laws_eqMatrixSS.f k o o = some true ∧ laws_markMatrixSS.f k o 1 = some (y, l) ∧ laws_heldMatrixSS.f k l 1 = some y := by
  have hs := sumL_le 10000 (o.map List.length) (fun n hn => by
    obtain ⟨q, hq, rfl⟩ := List.mem_map.1 hn
    exact h2 q hq)
  rw [List.length_map] at hs
  have h6 : o.length * 10000 ≤ 10000 * 10000 := Nat.mul_le_mul_right _ h1
  obtain ⟨K1, f1⟩ := eqMatrixSS_ev o (by omega) (fun r hr => by have := h2 r hr; omega)
  obtain ⟨K2, f2⟩ := markMatrixSS_ev o 1 (by omega) (by omega) (by omega)
  obtain ⟨K3, f3⟩ := heldMatrixSS_ev (o.map List.length) 1 (by omega) (by omega) (by rw [List.length_map]; omega)
  exact ⟨_, _, K1 + K2 + K3, by omega, fun k hk => ⟨f1 k (by omega), f2 k (by omega), f3 k (by omega)⟩⟩
end Go.Proofs.Ytilbngklgjjblaa.Q
