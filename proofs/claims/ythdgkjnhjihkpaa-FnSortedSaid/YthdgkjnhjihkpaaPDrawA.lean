/- Drawn bars: that the reference's draws give something. Conditions: the cursor stands within its list. -/
import Derived.Test.YthdgkjnhjihkpaaP0
import Derived.Test.YthdgkjnhjihkpaaPBar
import Derived.Test.YthdgkjnhjihkpaaPDraw
import Derived.Test.YthdgkjnhjihkpaaPDrawO
import Derived.Test.YthdgkjnhjihkpaaPDup
import Derived.Test.YthdgkjnhjihkpaaQ1
import Derived.Test.YthdgkjnhjihkpaaQ4
import Derived.Test.YthdgkjnhjihkpaaQ6
import Derived.Test.YthdgkjnhjihkpaaQ7
import Derived.Test.YthdgkjnhjihkpaaQ8
namespace Go.Proofs.Ythdgkjnhjihkpaa.Q
open Go.RowKit Go.Proofs.YthdgkjnhjihkpaaW.PrintWords Go.Proofs.YthdgkjnhjihkpaaW.PrintLast Go.Proofs.YthdgkjnhjihkpaaW.PrintMore
set_option linter.unusedVariables false
set_option linter.unusedSimpArgs false
theorem or3_all : ∀ x : Nat, x < 5 → ∀ y : Nat, y < 5 → ∀ z : Nat, z < 5 → 0 ≤ Go.bits .or .i64 (Go.bits .or .i64 (shl .i64 1 (x : Int)) (shl .i64 1 (y : Int))) (shl .i64 1 (z : Int)) ∧ Go.bits .or .i64 (Go.bits .or .i64 (shl .i64 1 (x : Int)) (shl .i64 1 (y : Int))) (shl .i64 1 (z : Int)) ≤ 127 := by decide +kernel
/-- What is drawn so far: distinct sets, or anything for the last kind; not none once one was drawn. -/
def Good (x3 : Int) (l : List Int) : Prop := x3 = 4 ∨ l = [] ∨ (isBar l = true ∧ dupFrom l 0 l = false)
theorem single_good (s : Int) (h0 : 0 ≤ s) (h1 : s ≤ 127) : isBar [s] = true ∧ dupFrom [s] 0 [s] = false := by
  constructor
  · rw [isBar_iff]
    refine ⟨by simp, by simp, fun x hx => ?_⟩
    rw [List.mem_singleton] at hx
    subst hx
    exact ⟨h0, h1⟩
  · simp [dupFrom]
theorem draw_loop_ok (c : List Int) (x3 : Int) : ∀ d (l : List Int) (i h : Int), (d ≤ 12) → l.length + d ≤ 12 → Good x3 l → (l ≠ [] ∨ 0 < d) → Cur c i →
    ∃ r i' h', Ev (fun k => spec_l1Draw.l0 k x3 l (d : Int) c i h) (r, i', h') ∧ 1 ≤ r.length ∧ r.length ≤ 12 ∧ Cur c i' := by
  intro d
  induction d with
  | zero =>
    intro l i h hd hl hg hne hc
    have hl1 : 1 ≤ l.length := by
      rcases hne with h | h
      · cases l with
        | nil => exact absurd rfl h
        | cons a t => simp
      · omega
    by_cases h4 : x3 < 4
    · rcases hg with h | h | ⟨h1, h2⟩
      · omega
      · subst h; simp at hl1
      · obtain ⟨r, hr, hr2⟩ := orderBar_ok l h1 h2
        refine ⟨r, i, h, ?_, by omega, by omega, hc⟩
        refine Ev.step (f := fun k => (spec_OrderBar.f k l).bind fun bt => some (bt.1, i, h)) (fun k => ?_) (Ev.bind (f := fun _ bt => some (bt.1, i, h)) hr (Ev.now _))
        simp only [spec_l1Draw.l0]
        rw [if_neg (by omega), if_pos h4]
    · refine ⟨l, i, h, ev_step1 (fun k => ?_), hl1, by omega, hc⟩
      simp only [spec_l1Draw.l0]
      rw [if_neg (by omega), if_neg h4]
  | succ d ih =>
    intro l i h hd hl hg hne hc
    have eD : wrap64 (((d + 1 : Nat) : Int) - 1) = (d : Int) := by rw [wrap_id _ (by omega) (by omega)]; omega
    -- one more set s
    have add : ∀ (s i1 h1 : Int), 0 ≤ s → s ≤ 127 → Cur c i1 → ∃ r i' h', Ev (fun k => if x3 = 4 then spec_l1Draw.l0 k x3 (([] : List Int) ++ l ++ [s]) (d : Int) c i1 h1 else ((spec_l1Sets.f k (([] : List Int) ++ l ++ [s])).bind fun t => if t = true then spec_l1Draw.l0 k x3 (([] : List Int) ++ l ++ [s]) (d : Int) c i1 h1 else spec_l1Draw.l0 k x3 l (d : Int) c i1 h1)) (r, i', h') ∧ 1 ≤ r.length ∧ r.length ≤ 12 ∧ Cur c i' := by
      intro s i1 h1 hs0 hs1 hc1
      have hlen : (([] : List Int) ++ l ++ [s]).length = l.length + 1 := by simp
      have hne2 : ([] : List Int) ++ l ++ [s] ≠ [] := by simp
      by_cases h4 : x3 = 4
      · simp only [if_pos h4]
        exact ih _ i1 h1 (by omega) (by omega) (Or.inl h4) (Or.inl hne2) hc1
      · simp only [if_neg h4]
        have hs := spec_l1Sets_ev (([] : List Int) ++ l ++ [s]) (by omega)
        by_cases ht : (!dupFrom (([] : List Int) ++ l ++ [s]) 0 (([] : List Int) ++ l ++ [s]) && isBar (([] : List Int) ++ l ++ [s])) = true
        · rw [ht] at hs
          obtain ⟨t1, t2⟩ : dupFrom (([] : List Int) ++ l ++ [s]) 0 (([] : List Int) ++ l ++ [s]) = false ∧ isBar (([] : List Int) ++ l ++ [s]) = true := by
            rw [Bool.and_eq_true, Bool.not_eq_true'] at ht
            exact ht
          obtain ⟨r, i', h', hr, p1, p2, p3⟩ := ih _ i1 h1 (by omega) (by omega) (Or.inr (Or.inr ⟨t2, t1⟩)) (Or.inl hne2) hc1
          exact ⟨r, i', h', Ev.bind (f := fun k t => if t = true then spec_l1Draw.l0 k x3 (([] : List Int) ++ l ++ [s]) (d : Int) c i1 h1 else spec_l1Draw.l0 k x3 l (d : Int) c i1 h1) hs (by simp only [if_true]; exact hr), p1, p2, p3⟩
        · have hf : (!dupFrom (([] : List Int) ++ l ++ [s]) 0 (([] : List Int) ++ l ++ [s]) && isBar (([] : List Int) ++ l ++ [s])) = false := by simpa using ht
          rw [hf] at hs
          have hln : l ≠ [] := fun e => by
            subst e
            obtain ⟨q1, q2⟩ := single_good s hs0 hs1
            apply ht
            rw [show ([] : List Int) ++ [] ++ [s] = [s] from rfl, q1, q2]
            rfl
          obtain ⟨r, i', h', hr, p1, p2, p3⟩ := ih l i1 h1 (by omega) (by omega) hg (Or.inl hln) hc1
          exact ⟨r, i', h', Ev.bind (f := fun k t => if t = true then spec_l1Draw.l0 k x3 (([] : List Int) ++ l ++ [s]) (d : Int) c i1 h1 else spec_l1Draw.l0 k x3 l (d : Int) c i1 h1) hs (by simp only [Bool.false_eq_true, if_false]; exact hr), p1, p2, p3⟩
    have j1 : ∀ (s i1 h1 : Int), 0 ≤ s → s ≤ 127 → Cur c i1 → ∃ r i' h', Ev (fun k => spec_l1Draw.j1 k x3 l ((d + 1 : Nat) : Int) s c i1 h1) (r, i', h') ∧ 1 ≤ r.length ∧ r.length ≤ 12 ∧ Cur c i' := by
      intro s i1 h1 hs0 hs1 hc1
      by_cases h2 : x3 = 2
      · obtain ⟨x, i2, h2', e2, p1, p2, c2⟩ := below_ok c i1 h1 8 hc1 (by omega) (by omega)
        obtain ⟨r, i', h', hr, q1, q2, q3⟩ := add x i2 h2' (by omega) (by omega) c2
        refine ⟨r, i', h', Ev.step (fun k => ?_) hr, q1, q2, q3⟩
        simp only [spec_l1Draw.j1, e2, Option.bind_some, eD]
        rw [if_pos h2, if_pos (by simp only [List.length_nil]; omega), if_pos (by simp only [List.length_append, List.length_nil]; omega)]
      · obtain ⟨r, i', h', hr, q1, q2, q3⟩ := add s i1 h1 hs0 hs1 hc1
        refine ⟨r, i', h', Ev.step (fun k => ?_) hr, q1, q2, q3⟩
        simp only [spec_l1Draw.j1, Option.bind_some, eD]
        rw [if_neg h2, if_pos (by simp only [List.length_nil]; omega), if_pos (by simp only [List.length_append, List.length_nil]; omega)]
    obtain ⟨x1, i1, h1, e1, r1, s1, c1⟩ := below_ok c i h 128 hc (by omega) (by omega)
    by_cases h2 : x3 < 2
    · obtain ⟨y1, k1, g1, f1, a1, b1, d1⟩ := below_ok c i1 h1 5 c1 (by omega) (by omega)
      obtain ⟨y2, k2, g2, f2, a2, b2, d2⟩ := below_ok c k1 g1 5 d1 (by omega) (by omega)
      obtain ⟨y3, k3, g3, f3, a3, b3, d3⟩ := below_ok c k2 g2 5 d2 (by omega) (by omega)
      have ho := or3_all y1.toNat (by omega) y2.toNat (by omega) y3.toNat (by omega)
      rw [Int.toNat_of_nonneg a1, Int.toNat_of_nonneg a2, Int.toNat_of_nonneg a3] at ho
      obtain ⟨r, i', h', hr, q1, q2, q3⟩ := j1 _ k3 g3 ho.1 ho.2 d3
      refine ⟨r, i', h', Ev.step (fun k => ?_) hr, q1, q2, q3⟩
      simp only [spec_l1Draw.l0, e1, f1, f2, f3, Option.bind_some]
      rw [if_pos (by omega), if_pos h2, if_pos a1, if_pos a2, if_pos a3]
    · obtain ⟨r, i', h', hr, q1, q2, q3⟩ := j1 x1 i1 h1 r1 (by omega) c1
      refine ⟨r, i', h', Ev.step (fun k => ?_) hr, q1, q2, q3⟩
      simp only [spec_l1Draw.l0, e1, Option.bind_some]
      rw [if_pos (by omega), if_neg h2]
theorem draw_ok (c : List Int) (i h : Int) (hc : Cur c i) : ∃ r i' h', Ev (fun k => spec_l1Draw.f k c i h) (r, i', h') ∧ 1 ≤ r.length ∧ r.length ≤ 12 ∧ Cur c i' := by
  obtain ⟨x1, i1, h1, e1, r1, s1, c1⟩ := below_ok c i h 5 hc (by omega) (by omega)
  obtain ⟨x2, i2, h2, e2, r2, s2, c2⟩ := below_ok c i1 h1 11 c1 (by omega) (by omega)
  obtain ⟨r, i', h', hr, q1, q2, q3⟩ := draw_loop_ok c x1 (1 + x2).toNat [] i2 h2 (by omega) (by simp only [List.length_nil]; omega) (Or.inr (Or.inl rfl)) (Or.inr (by omega)) c2
  refine ⟨r, i', h', ev_eq hr (fun k => ?_), q1, q2, q3⟩
  simp only [spec_l1Draw.f, e1, e2, Option.bind_some]
  rw [wrap_id (1 + x2) (by omega) (by omega), Int.toNat_of_nonneg (by omega)]
theorem teeth_ok (c : List Int) (i h : Int) (hc : Cur c i) : ∃ x i' h', Ev (fun k => spec_l1Teeth.f k c i h) (x, i', h') ∧ Cur c i' := by
  obtain ⟨x1, i1, h1, e1, r1, s1, c1⟩ := below_ok c i h 12 hc (by omega) (by omega)
  have hj : ∀ b : Bool, ∃ x i' h', Ev (fun k => spec_l1Teeth.j0 k b c i1 h1) (x, i', h') ∧ Cur c i' := by
    intro b
    cases b with
    | true =>
      obtain ⟨y1, k1, g1, f1, a1, b1, d1⟩ := below_ok c i1 h1 7 c1 (by omega) (by omega)
      obtain ⟨y2, k2, g2, f2, a2, b2, d2⟩ := below_ok c k1 g1 7 d1 (by omega) (by omega)
      refine ⟨Go.bits .or .i64 (shl .i64 1 y1) (shl .i64 1 y2), k2, g2, ev_step1 (fun k => ?_), d2⟩
      simp only [spec_l1Teeth.j0, f1, f2, Option.bind_some, if_true]
      rw [if_pos a1, if_pos a2]
    | false =>
      obtain ⟨y1, k1, g1, f1, a1, b1, d1⟩ := below_ok c i1 h1 128 c1 (by omega) (by omega)
      refine ⟨y1, k1, g1, ev_step1 (fun k => ?_), d1⟩
      simp only [spec_l1Teeth.j0, f1, Option.bind_some, Bool.false_eq_true, if_false]
  by_cases h0 : x1 = 0
  · obtain ⟨y1, k1, g1, f1, _, d1⟩ := int_ok c i1 h1 [(-1), 128, 1099511627776, (-9223372036854775808), 0, 127] c1 (by decide) (by decide)
    refine ⟨y1, k1, g1, ev_const (fun k => ?_), d1⟩
    simp only [spec_l1Teeth.f, e1, f1, Option.bind_some]
    rw [if_pos h0]
  · by_cases k1 : x1 = 1
    · obtain ⟨x, i', h', hr, q⟩ := hj (x1 == 1)
      exact ⟨x, i', h', ev_eq hr (fun k => by simp only [spec_l1Teeth.f, e1, Option.bind_some]; rw [if_neg h0, if_pos k1]), q⟩
    · by_cases k2 : x1 = 2
      · obtain ⟨x, i', h', hr, q⟩ := hj (x1 == 2)
        exact ⟨x, i', h', ev_eq hr (fun k => by simp only [spec_l1Teeth.f, e1, Option.bind_some]; rw [if_neg h0, if_neg k1, if_pos k2]), q⟩
      · obtain ⟨x, i', h', hr, q⟩ := hj (x1 == 3)
        exact ⟨x, i', h', ev_eq hr (fun k => by simp only [spec_l1Teeth.f, e1, Option.bind_some]; rw [if_neg h0, if_neg k1, if_neg k2]), q⟩
theorem any_loop_ok (c : List Int) (i h : Int) (hc : Cur c i) : ∀ d (l : List Int), l.length ≤ 42 → 42 - l.length = d → ∃ r i' h', Ev (fun k => spec_l1Any.l0 k l c i h) (r, i', h') ∧ r.length ≤ 42 ∧ Cur c i' := by
  intro d
  induction d with
  | zero =>
    intro l hl hd
    obtain ⟨x1, i1, h1, e1, r1, s1, c1⟩ := below_ok c i h 4 hc (by omega) (by omega)
    have ew : wrap64 (39 + x1) = 39 + x1 := wrap_id _ (by omega) (by omega)
    refine ⟨l.take (39 + x1).toNat, i1, h1, ev_step1 (fun k => ?_), by rw [List.length_take]; omega, c1⟩
    simp only [spec_l1Any.l0, e1, Option.bind_some, ew]
    rw [if_neg (by omega), if_pos (by omega), if_pos (by omega)]
  | succ d ih =>
    intro l hl hd
    obtain ⟨r, i', h', hr, q1, q2⟩ := ih (l ++ [(l.length : Int)]) (by simp only [List.length_append, List.length_singleton]; omega) (by simp only [List.length_append, List.length_singleton]; omega)
    refine ⟨r, i', h', Ev.step (fun k => ?_) hr, q1, q2⟩
    simp only [spec_l1Any.l0]
    rw [if_pos (by omega), if_pos (by omega)]
theorem anyBar_ok (c : List Int) (i h : Int) (hc : Cur c i) : ∃ r i' h', Ev (fun k => spec_l1Any.f k c i h) (r, i', h') ∧ r.length ≤ 42 ∧ Cur c i' := by
  obtain ⟨r, i1, h1, ⟨K, hr⟩, q1, q2, c1⟩ := draw_ok c i h hc
  obtain ⟨x2, i2, h2, e2, _, _, c2⟩ := below_ok c i1 h1 14 c1 (by omega) (by omega)
  by_cases k0 : x2 = 0
  · obtain ⟨x3, i3, h3, e3, r3, s3, c3⟩ := below_ok c i2 h2 (r.length : Int) c2 (by omega) (by omega)
    obtain ⟨t, i4, h4, ⟨K2, ht⟩, c4⟩ := teeth_ok c i3 h3 c3
    refine ⟨r.set x3.toNat t, i4, h4, ⟨K + K2, fun k hk => ?_⟩, by rw [List.length_set]; omega, c4⟩
    simp only [spec_l1Any.f, hr k (by omega), e2, e3, ht k (by omega), Option.bind_some]
    rw [if_pos k0, if_pos r3, if_pos s3]
  · by_cases k1 : x2 = 1
    · refine ⟨[], i2, h2, ⟨K, fun k hk => ?_⟩, by simp, c2⟩
      simp only [spec_l1Any.f, hr k hk, e2, Option.bind_some]
      rw [if_neg k0, if_pos k1]
    · by_cases k2 : x2 = 2
      · obtain ⟨q, i', h', ⟨K2, hq⟩, p1, p2⟩ := any_loop_ok c i2 h2 c2 _ r (by omega) rfl
        refine ⟨q, i', h', ⟨K + K2, fun k hk => ?_⟩, p1, p2⟩
        simp only [spec_l1Any.f, hr k (by omega), e2, Option.bind_some]
        rw [if_neg k0, if_neg k1, if_pos k2]
        exact hq k (by omega)
      · refine ⟨r, i2, h2, ⟨K, fun k hk => ?_⟩, by omega, c2⟩
        simp only [spec_l1Any.f, hr k hk, e2, Option.bind_some]
        rw [if_neg k0, if_neg k1, if_neg k2]
end Go.Proofs.Ythdgkjnhjihkpaa.Q
