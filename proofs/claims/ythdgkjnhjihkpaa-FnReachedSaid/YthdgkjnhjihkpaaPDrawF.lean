/- The draw of a bar and a set: that it gives something. Conditions: the list is no longer than 2^40. -/
import Derived.Test.YthdgkjnhjihkpaaP0
import Derived.Test.YthdgkjnhjihkpaaPDraw
import Derived.Test.YthdgkjnhjihkpaaPDrawA
import Derived.Test.YthdgkjnhjihkpaaQ7
namespace Go.Proofs.Ythdgkjnhjihkpaa.Q
open Go.RowKit Go.Proofs.YthdgkjnhjihkpaaW.PrintWords Go.Proofs.YthdgkjnhjihkpaaW.PrintLast Go.Proofs.YthdgkjnhjihkpaaW.PrintMore
set_option linter.unusedVariables false
set_option linter.unusedSimpArgs false
theorem drawFallOf_ok (l : List Int) (hl : l.length ≤ 1099511627776) : ∃ r s, Ev (fun k => spec_DrawFallOf.f k l) (r, s) ∧ r.length ≤ 42 := by
  obtain ⟨h, ⟨K, hn⟩⟩ := new_ok l hl
  obtain ⟨r, i1, h1, ⟨K1, hr⟩, q1, c1⟩ := anyBar_ok l 0 h ⟨by omega, by omega, hl⟩
  obtain ⟨s, i2, h2, ⟨K2, hs⟩, c2⟩ := teeth_ok l i1 h1 c1
  have hj : ∀ b : Bool, ∀ i h, (b = true → 0 < r.length) → Cur l i → ∃ s', Ev (fun k => spec_DrawFallOf.j0 k r s b l i h) (r, s') := by
    intro b i h hb hc
    cases b with
    | true =>
      obtain ⟨x1, j1, g1, e1, a1, b1, d1⟩ := below_ok l i h (r.length : Int) hc (by have := hb rfl; omega) (by omega)
      obtain ⟨x2, j2, g2, e2, a2, b2, d2⟩ := below_ok l j1 g1 7 d1 (by omega) (by omega)
      refine ⟨Go.bits .andNot .i64 (rd r x1) (shl .i64 1 x2), ev_step1 (fun k => ?_)⟩
      simp only [spec_DrawFallOf.j0, e1, e2, Option.bind_some, if_true]
      rw [if_pos a1, if_pos b1, if_pos a2]
    | false => exact ⟨s, ev_step1 (fun k => by simp only [spec_DrawFallOf.j0, Bool.false_eq_true, if_false])⟩
  by_cases hp : (r.length : Int) > 0
  · obtain ⟨x3, i3, h3, e3, _, _, c3⟩ := below_ok l i2 h2 2 c2 (by omega) (by omega)
    obtain ⟨s', ⟨K3, hj3⟩⟩ := hj (x3 == 0) i3 h3 (fun _ => by omega) c3
    refine ⟨r, s', ⟨K + K1 + K2 + K3, fun k hk => ?_⟩, q1⟩
    simp only [spec_DrawFallOf.f, hn k (by omega), hr k (by omega), hs k (by omega), spec_l01Once.f, e3, Option.bind_some]
    rw [if_pos hp]
    exact hj3 k (by omega)
  · obtain ⟨s', ⟨K3, hj3⟩⟩ := hj false i2 h2 (fun h => by cases h) c2
    refine ⟨r, s', ⟨K + K1 + K2 + K3, fun k hk => ?_⟩, q1⟩
    simp only [spec_DrawFallOf.f, hn k (by omega), hr k (by omega), hs k (by omega), Option.bind_some]
    rw [if_neg hp]
    exact hj3 k (by omega)
end Go.Proofs.Ythdgkjnhjihkpaa.Q
