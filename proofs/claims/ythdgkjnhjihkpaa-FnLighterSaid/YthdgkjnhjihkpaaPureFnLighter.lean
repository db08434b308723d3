/- A set with a tooth less falls no later; no teeth fall at once. No conditions beyond those of the statement's reading. -/
import Derived.Test.YthdgkjnhjihkpaaP0
import Derived.Test.YthdgkjnhjihkpaaPBar
import Derived.Test.YthdgkjnhjihkpaaPDraw
import Derived.Test.YthdgkjnhjihkpaaPDrawA
import Derived.Test.YthdgkjnhjihkpaaPFallOf
import Derived.Test.YthdgkjnhjihkpaaPTeeth
import Derived.Test.YthdgkjnhjihkpaaQ1
import Derived.Test.YthdgkjnhjihkpaaQ2
import Derived.Test.YthdgkjnhjihkpaaQ7
import Derived.Test.YthdgkjnhjihkpaaQ8
namespace Go.Proofs.Ythdgkjnhjihkpaa.Pure
open Go.RowKit Go.Proofs.Ythdgkjnhjihkpaa.Q Go.Proofs.YthdgkjnhjihkpaaW.PrintWords Go.Proofs.YthdgkjnhjihkpaaW.PrintLast Go.Proofs.YthdgkjnhjihkpaaW.PrintMore
set_option linter.unusedVariables false
set_option linter.unusedSimpArgs false
theorem drawFallOf_ok (l : List Int) (hl : l.length ≤ 1099511627776) : ∃ r s, Ev (fun k => spec_DrawFallOf.f k l) (r, s) ∧ r.length ≤ 42 := by
  obtain ⟨h, ⟨K, hn⟩⟩ := new_ok l hl
  obtain ⟨r, i1, h1, ⟨K1, hr⟩, q1, c1⟩ := anyBar_ok l 0 h ⟨by omega, by omega, hl⟩
  obtain ⟨s, i2, h2, ⟨K2, hs⟩, c2⟩ := teeth_ok l i1 h1 c1
  have hj : ∀ b : Bool, ∀ i h, (b = true → 0 < r.length) → Cur l i → ∃ s', Ev (fun k => spec_DrawFallOf.j0 k r s b l i h) (r, s') := by
    intro b i h hb hc
    cases b with
    | true =>
      obtain ⟨x1, j1, g1, e1, a1, b1, d1⟩ := below_ok l i h (r.length : Int) hc (by have := hb rfl; omega) (by omega)
      obtain ⟨x2, j2, g2, e2, a2, b2, d2⟩ := below_ok l j1 g1 7 d1 (by omega) (by omega)
      refine ⟨Go.bits .andNot .i64 (rd r x1) (shl .i64 1 x2), ev_step1 (fun k => ?_)⟩
      simp only [spec_DrawFallOf.j0, e1, e2, Option.bind_some, if_true]
      rw [if_pos a1, if_pos b1, if_pos a2]
    | false => exact ⟨s, ev_step1 (fun k => by simp only [spec_DrawFallOf.j0, Bool.false_eq_true, if_false])⟩
  by_cases hp : (r.length : Int) > 0
  · obtain ⟨x3, i3, h3, e3, _, _, c3⟩ := below_ok l i2 h2 2 c2 (by omega) (by omega)
    obtain ⟨s', ⟨K3, hj3⟩⟩ := hj (x3 == 0) i3 h3 (fun _ => by omega) c3
    refine ⟨r, s', ⟨K + K1 + K2 + K3, fun k hk => ?_⟩, q1⟩
    simp only [spec_DrawFallOf.f, hn k (by omega), hr k (by omega), hs k (by omega), spec_l01Once.f, e3, Option.bind_some]
    rw [if_pos hp]
    exact hj3 k (by omega)
  · obtain ⟨s', ⟨K3, hj3⟩⟩ := hj false i2 h2 (fun h => by cases h) c2
    refine ⟨r, s', ⟨K + K1 + K2 + K3, fun k hk => ?_⟩, q1⟩
    simp only [spec_DrawFallOf.f, hn k (by omega), hr k (by omega), hs k (by omega), Option.bind_some]
    rw [if_neg hp]
    exact hj3 k (by omega)
theorem lighter_loop (bar : List Int) (s : Int) (hb : isBar bar = true) (h0 : 0 ≤ s) (h1 : s ≤ 127) : ∀ d i : Nat, i + d = 7 → Ev (fun k => laws_FnLighter.l0 k bar s (fallN bar s : Int) (i : Int)) true := by
  obtain ⟨b1, b2, b3⟩ := (isBar_iff bar).1 hb
  have hn := fallN_le bar s
  have hset : isSetB s = true := (isSetB_iff s).2 ⟨h0, h1⟩
  intro d
  induction d with
  | zero =>
    intro i hi
    obtain rfl : i = 7 := by omega
    have hf := impl_FallOf_ev bar 0 (by omega)
    have hz : fallOf bar 0 = 0 := by
      rw [fallOf, if_pos hb, if_pos ((isSetB_iff 0).2 ⟨by omega, by omega⟩), fallN]
      cases bar with
      | nil => simp at b1
      | cons x r =>
        have hx := b3 x List.mem_cons_self
        have h := part_zero_all x.toNat (by omega)
        rw [Int.toNat_of_nonneg hx.1] at h
        rw [List.findIdx_cons, h]; rfl
    rw [hz] at hf
    obtain ⟨K1, hf⟩ := hf
    obtain ⟨K2, ht⟩ := teeth_ev s h0 h1
    refine ⟨K1 + K2 + 1, fun k hk => ?_⟩
    obtain ⟨k, rfl⟩ : ∃ m, k = m + 1 := ⟨k - 1, by omega⟩
    simp only [laws_FnLighter.l0, hf k (by omega), ht k (by omega), impl_CountTeeth_eq, countT, if_pos hset, Option.bind_some]
    rw [if_neg (by omega), if_pos trivial]
    simp
  | succ d ih =>
    intro i hi
    have h := ih (i + 1) (by omega)
    have hr := less_all i (by omega) s.toNat (by omega)
    rw [Int.toNat_of_nonneg h0] at hr
    have hf := impl_FallOf_ev bar (Go.bits .andNot .i64 s (shl .i64 1 (i : Int))) (by omega)
    rw [fallOf, if_pos hb, if_pos ((isSetB_iff _).2 hr)] at hf
    have hle : fallN bar (Go.bits .andNot .i64 s (shl .i64 1 (i : Int))) ≤ fallN bar s := by
      refine findIdx_mono _ _ bar (fun x hx hp => ?_)
      have hx3 := b3 x hx
      have h := part_less_all i (by omega) s.toNat (by omega) x.toNat (by omega)
      rw [Int.toNat_of_nonneg h0, Int.toNat_of_nonneg hx3.1] at h
      exact h hp
    refine Ev.step (f := fun k => (impl_FallOf.f k bar (Go.bits .andNot .i64 s (shl .i64 1 (i : Int)))).bind fun t => if t < 0 then some false else if t > (fallN bar s : Int) then some false else if (fallN bar s : Int) > (bar.length : Int) then some false else laws_FnLighter.l0 k bar s (fallN bar s : Int) ((i + 1 : Nat) : Int)) (fun k => ?_) (Ev.bind (f := fun k t => if t < 0 then some false else if t > (fallN bar s : Int) then some false else if (fallN bar s : Int) > (bar.length : Int) then some false else laws_FnLighter.l0 k bar s (fallN bar s : Int) ((i + 1 : Nat) : Int)) hf ?_)
    · simp only [laws_FnLighter.l0]
      rw [if_pos (by omega), if_pos (by omega), w1 i (by omega)]
    · refine ev_eq h (fun k => ?_)
      rw [if_neg (by omega), if_neg (by omega), if_neg (by omega)]
theorem FnLighter : laws_FnLighter.Pure := by
  intro l hm hm2 hw
  by_cases hlen : (l.length : Int) > 1048576
  · exact ⟨0, by simp only [laws_FnLighter.f, if_pos hlen]⟩
  obtain ⟨r, s, ⟨K1, h1⟩, hr⟩ := drawFallOf_ok l (by omega)
  obtain ⟨K2, h2⟩ := impl_FallOf_ev r s (by omega)
  obtain ⟨K3, h3⟩ := spec_IsBar_ev r (by omega)
  obtain ⟨K4, h4⟩ := spec_CountTeeth_ev s
  by_cases hb : isBar r = true
  · by_cases hs : isSetB s = true
    · obtain ⟨s0, s1⟩ := (isSetB_iff s).1 hs
      obtain ⟨K5, h5⟩ := lighter_loop r s hb s0 s1 7 0 rfl
      generalize hK : K1 + K2 + K3 + K4 + K5 = K
      have g1 := fun j => h1 (K + j) (by omega)
      have g2 := fun j => h2 (K + j) (by omega)
      have g3 := fun j => h3 (K + j) (by omega)
      have g4 := fun j => h4 (K + j) (by omega)
      have g5 := fun j => h5 (K + j) (by omega)
      refine ⟨K + 9, ?_⟩
      simp only [laws_FnLighter.f, if_neg hlen, g1, g2, g3, g4, Option.bind_some, hb, if_true, countT, if_pos hs, fallOf]
      rw [decide_eq_false (by omega)]
      simp only [laws_FnLighter.j0, Bool.false_eq_true, if_false]
      exact g5 8
    · generalize hK : K1 + K2 + K3 + K4 = K
      have g1 := fun j => h1 (K + j) (by omega)
      have g2 := fun j => h2 (K + j) (by omega)
      have g3 := fun j => h3 (K + j) (by omega)
      have g4 := fun j => h4 (K + j) (by omega)
      refine ⟨K + 9, ?_⟩
      simp only [laws_FnLighter.f, if_neg hlen, g1, g2, g3, g4, Option.bind_some, hb, if_true, countT, if_neg hs, fallOf]
      rw [decide_eq_true (by omega)]
      simp only [laws_FnLighter.j0, if_true]
      rfl
  · generalize hK : K1 + K2 + K3 = K
    have g1 := fun j => h1 (K + j) (by omega)
    have g2 := fun j => h2 (K + j) (by omega)
    have g3 := fun j => h3 (K + j) (by omega)
    refine ⟨K + 9, ?_⟩
    simp only [laws_FnLighter.f, if_neg hlen, g1, g2, g3, Option.bind_some, if_neg hb, fallOf]
    simp only [laws_FnLighter.j0, if_true]
    rfl
end Go.Proofs.Ythdgkjnhjihkpaa.Pure
