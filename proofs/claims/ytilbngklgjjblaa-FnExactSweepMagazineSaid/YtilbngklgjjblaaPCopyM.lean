/- Copies of magazines; what the exact laws over magazines have in common. Conditions: those that each lemma names. -/
import Derived.Test.YtilbngklgjjblaaPCount
import Derived.Test.YtilbngklgjjblaaPFont
import Derived.Test.YtilbngklgjjblaaPKinds
import Derived.Test.YtilbngklgjjblaaPMagazine
import Derived.Test.YtilbngklgjjblaaPMarkS
import Derived.Test.YtilbngklgjjblaaPMats
import Derived.Test.YtilbngklgjjblaaQ0
import Derived.Test.YtilbngklgjjblaaQ1
import Derived.Test.YtilbngklgjjblaaQ2
import Derived.Test.YtilbngklgjjblaaQ4
import Derived.Test.YtilbngklgjjblaaQ5
namespace Go.Proofs.Ytilbngklgjjblaa.Q
open Go.RowKit Go.Proofs.YtilbngklgjjblaaW.PrintWords Go.Proofs.YtilbngklgjjblaaW.PrintLast Go.Proofs.YtilbngklgjjblaaW.PrintMore
set_option linter.unusedVariables false
set_option linter.unusedSimpArgs false
theorem mag_common (a : ByteArray) (ws cs : List Int) (m : List (List S48)) (l1 : a.size ≤ 1048576) (l2 : ws.length ≤ 1048576) (l3 : cs.length ≤ 1048576) (l4 : m.length ≤ 1048576) (l5 : ∀ r ∈ m, r.length ≤ 1048576) (l6 : sumL ((m.map (List.map conv)).map List.length) ≤ 1099511627776) :
    ∃ x l1' l2' y l3' K, ¬ y < 0 ∧ ∀ k, K ≤ k → laws_toFont.f k a ws cs = some (a, ws, cs) ∧ laws_toMatrixSS.f k m = some (m.map (List.map conv)) ∧ laws_eqFont.f k a ws cs a ws cs = some true ∧ laws_eqMatrixSS.f k (m.map (List.map conv)) (m.map (List.map conv)) = some true ∧
      laws_markFont.f k a ws cs 1 = some (x, l1', l2') ∧ laws_markMatrixSS.f k (m.map (List.map conv)) x = some (y, l3') := by
  have lm : (m.map (List.map conv)).length ≤ 1048576 := by rw [List.length_map]; omega
  obtain ⟨K1, f1⟩ := toFont_ev a ws cs (by omega) (by omega)
  obtain ⟨K2, f2⟩ := toMatrixSS_ev m (by omega) (fun r hr => by have := l5 r hr; omega)
  obtain ⟨K6, f6⟩ := eqFont_ev a ws cs (by omega) (by omega)
  obtain ⟨K7, f7⟩ := eqMatrixSS_ev (m.map (List.map conv)) (by omega) (fun r hr => by
    obtain ⟨q, hq, rfl⟩ := List.mem_map.1 hr
    have := l5 q hq
    rw [List.length_map]; omega)
  obtain ⟨K8, f8⟩ := markFont_ev a ws cs 1 (by omega) (by omega) (by omega) (by omega)
  obtain ⟨K9, f9⟩ := markMatrixSS_ev (m.map (List.map conv)) (1 + ws.length + cs.length) (by omega) (by omega) (by omega)
  exact ⟨_, _, _, _, _, K1 + K2 + K6 + K7 + K8 + K9, by omega, fun k hk => ⟨f1 k (by omega), f2 k (by omega), f6 k (by omega), f7 k (by omega), f8 k (by omega), f9 k (by omega)⟩⟩
theorem rows_common (o : List (List S30)) (h1 : o.length ≤ 10000) (h2 : ∀ r ∈ o, r.length ≤ 10000) :
    ∃ y l K, ¬ y < 0 ∧ ∀ k, K ≤ k → laws_eqMatrixSS.f k o o = some true ∧ laws_markMatrixSS.f k o 1 = some (y, l) ∧ laws_heldMatrixSS.f k l 1 = some y := by
  have hs := sumL_le 10000 (o.map List.length) (fun n hn => by
    obtain ⟨q, hq, rfl⟩ := List.mem_map.1 hn
    exact h2 q hq)
  rw [List.length_map] at hs
  have h6 : o.length * 10000 ≤ 10000 * 10000 := Nat.mul_le_mul_right _ h1
  obtain ⟨K1, f1⟩ := eqMatrixSS_ev o (by omega) (fun r hr => by have := h2 r hr; omega)
  obtain ⟨K2, f2⟩ := markMatrixSS_ev o 1 (by omega) (by omega) (by omega)
  obtain ⟨K3, f3⟩ := heldMatrixSS_ev (o.map List.length) 1 (by omega) (by omega) (by rw [List.length_map]; omega)
  exact ⟨_, _, K1 + K2 + K3, by omega, fun k hk => ⟨f1 k (by omega), f2 k (by omega), f3 k (by omega)⟩⟩
theorem mag_rows2 (a : ByteArray) (ws cs : List Int) (m : List (List S30)) (h : magazineOk a ws cs m = true) : m.length ≤ 40 ∧ m.length = a.size ∧ cs.length = a.size ∧ (∀ ch ∈ m, ch.length ≤ 20) := by
  obtain ⟨h1, h2, h3⟩ := mag_rows a ws cs m h
  exact ⟨h1, mag_len a ws cs m h, h2, fun ch hc => (h3 ch hc).1⟩
end Go.Proofs.Ytilbngklgjjblaa.Q
