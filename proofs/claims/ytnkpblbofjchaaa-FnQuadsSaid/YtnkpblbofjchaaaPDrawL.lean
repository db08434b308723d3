/- Drawn lines: that the reference's draws give something. Conditions: the cursor stands within its list. -/
import Derived.Test.YtnkpblbofjchaaaP0
import Derived.Test.YtnkpblbofjchaaaPDraw
import Derived.Test.YtnkpblbofjchaaaQ7
import Derived.Test.YtnkpblbofjchaaaQ8
import Derived.Test.YtnkpblbofjchaaaQ9
namespace Go.Proofs.Ytnkpblbofjchaaa.Q
open Go.RowKit Go.Proofs.YtnkpblbofjchaaaW.PrintWords Go.Proofs.YtnkpblbofjchaaaW.PrintLast Go.Proofs.YtnkpblbofjchaaaW.PrintMore
set_option linter.unusedVariables false
set_option linter.unusedSimpArgs false
theorem measure_ok (c : List Int) (i h : Int) (hc : Cur c i) : ∃ a b t i' h', spec_l3Measure.f c i h = some (a, b, t, i', h') ∧ Cur c i' := by
  obtain ⟨x1, i1, h1, e1, _, _, c1⟩ := below_ok c i h 200 hc (by omega) (by omega)
  obtain ⟨x2, i2, h2, e2, _, _, c2⟩ := below_ok c i1 h1 6 c1 (by omega) (by omega)
  obtain ⟨x3, i3, h3, e3, _, _, c3⟩ := below_ok c i2 h2 12 c2 (by omega) (by omega)
  exact ⟨wrap64 (1 + x1), wrap64 (1 + x2), wrap64 (wrap64 (1 + x2) + x3), i3, h3, by simp only [spec_l3Measure.f, e1, e2, e3, Option.bind_some], c3⟩
theorem any_ok (c : List Int) (i h : Int) (hc : Cur c i) : ∃ a b t i' h', spec_l3Any.f c i h = some (a, b, t, i', h') ∧ Cur c i' := by
  obtain ⟨a, b, t, i1, h1, e1, c1⟩ := measure_ok c i h hc
  obtain ⟨x2, i2, h2, e2, _, _, c2⟩ := below_ok c i1 h1 16 c1 (by omega) (by omega)
  obtain ⟨y1, j1, g1, f1, _, d1⟩ := int_ok c i2 h2 [0, (-1), 2000, 2001, 4611686018427387904] c2 (by decide) (by decide)
  obtain ⟨y2, j2, g2, f2, _, d2⟩ := int_ok c i2 h2 [0, 100, 101, (-7)] c2 (by decide) (by decide)
  obtain ⟨y3, j3, g3, f3, _, d3⟩ := int_ok c i2 h2 [0, 100, 101, wrap64 (b - 1)] c2 (by simp) (by simp)
  simp only [spec_l3Any.f, e1, e2, f1, f2, f3, Option.bind_some]
  by_cases k0 : x2 = 0
  · exact ⟨y1, b, t, j1, g1, by rw [if_pos k0], d1⟩
  · by_cases k1 : x2 = 1
    · exact ⟨a, y2, y2, j2, g2, by rw [if_neg k0, if_pos k1], d2⟩
    · by_cases k2 : x2 = 2
      · exact ⟨a, b, y3, j3, g3, by rw [if_neg k0, if_neg k1, if_pos k2], d3⟩
      · exact ⟨a, b, t, i2, h2, by rw [if_neg k0, if_neg k1, if_neg k2], c2⟩
theorem line_loop_ok (c : List Int) (wd m0 m1 m2 : Int) (hw1 : 1 ≤ wd) (hw2 : wd ≤ 256) :
    ∀ d (acc : List Int) (left i h : Int), acc.length + d = 40 → Cur c i → ∃ r i' h', Ev (fun k => spec_l3Line.l0 k acc wd left c i h m0 m1 m2) (r, i', h') ∧ r.length ≤ 40 ∧ Cur c i' := by
  intro d
  induction d with
  | zero =>
    intro acc left i h hd hc
    exact ⟨acc, i, h, ev_step1 (fun k => by simp only [spec_l3Line.l0]; rw [if_neg (by omega)]), by omega, hc⟩
  | succ d ih =>
    intro acc left i h hd hc
    obtain ⟨x1, i1, h1, e1, _, _, c1⟩ := below_ok c i h 12 hc (by omega) (by omega)
    obtain ⟨x2, i2, h2, e2, _, _, c2⟩ := below_ok c i1 h1 wd c1 hw1 hw2
    obtain ⟨x3, i3, h3, e3, _, _, c3⟩ := below_ok c i2 h2 12 c2 (by omega) (by omega)
    have go : ∀ w : Int, ∃ r i' h', Ev (fun k => if wrap64 (left - mx w m1) < 0 then ((spec_l01Once.f c i2 h2 12).bind fun bt => if bt.1 = true then (if acc.length < 17592186044416 then spec_l3Line.l0 k (acc ++ [w]) wd (wrap64 (left - mx w m1)) c bt.2.1 bt.2.2 m0 m1 m2 else none) else some (acc, bt.2.1, bt.2.2)) else (if acc.length < 17592186044416 then spec_l3Line.l0 k (acc ++ [w]) wd (wrap64 (left - mx w m1)) c i2 h2 m0 m1 m2 else none)) (r, i', h') ∧ r.length ≤ 40 ∧ Cur c i' := by
      intro w
      by_cases hl : wrap64 (left - mx w m1) < 0
      · simp only [if_pos hl, spec_l01Once.f, e3, Option.bind_some]
        by_cases h0 : (x3 == 0) = true
        · simp only [if_pos h0]
          obtain ⟨r, i', h', hr, hr2, hc'⟩ := ih (acc ++ [w]) (wrap64 (left - mx w m1)) i3 h3 (by simp only [List.length_append, List.length_singleton]; omega) c3
          exact ⟨r, i', h', ev_eq hr (fun k => by rw [if_pos (by omega)]), hr2, hc'⟩
        · simp only [if_neg h0]
          exact ⟨_, _, _, Ev.now _, by omega, c3⟩
      · simp only [if_neg hl]
        obtain ⟨r, i', h', hr, hr2, hc'⟩ := ih (acc ++ [w]) (wrap64 (left - mx w m1)) i2 h2 (by simp only [List.length_append, List.length_singleton]; omega) c2
        exact ⟨r, i', h', ev_eq hr (fun k => by rw [if_pos (by omega)]), hr2, hc'⟩
    by_cases hz : x2 = 0
    · obtain ⟨r, i', h', hr, hr2, hc'⟩ := go 0
      refine ⟨r, i', h', Ev.step (fun k => ?_) hr, hr2, hc'⟩
      simp only [spec_l3Line.l0, e1, e2, Option.bind_some]
      rw [if_pos (by omega), if_pos hz]
    · obtain ⟨r, i', h', hr, hr2, hc'⟩ := go (wrap64 (1 + x1))
      refine ⟨r, i', h', Ev.step (fun k => ?_) hr, hr2, hc'⟩
      simp only [spec_l3Line.l0, e1, e2, Option.bind_some]
      rw [if_pos (by omega), if_neg hz]
theorem line_ok (c : List Int) (i h m0 m1 m2 : Int) (hc : Cur c i) : ∃ r i' h', Ev (fun k => spec_l3Line.f k c i h m0 m1 m2) (r, i', h') ∧ r.length ≤ 40 ∧ Cur c i' := by
  obtain ⟨x1, i1, h1, e1, r1, r2, c1⟩ := below_ok c i h 5 hc (by omega) (by omega)
  obtain ⟨x2, i2, h2, e2, _, _, c2⟩ := below_ok c i1 h1 12 c1 (by omega) (by omega)
  have hw := wrap_id (1 + x1) (by omega) (by omega)
  obtain ⟨r, i', h', hr, hr2, hc'⟩ := line_loop_ok c (1 + x1) m0 m1 m2 (by omega) (by omega) 40 [] (wrap64 (m0 - x2)) i2 h2 rfl c2
  exact ⟨r, i', h', ev_eq hr (fun k => by simp only [spec_l3Line.f, e1, e2, Option.bind_some, hw]), hr2, hc'⟩
theorem row_loop_ok (c : List Int) (n x i h : Int) (hn : n ≤ 200) : ∀ d (acc : List Int), acc.length ≤ 200 → (n - acc.length).toNat = d → ∃ r, Ev (fun k => spec_l3Row.l0 k acc n x c i h) (r, i, h) ∧ r.length ≤ 200 := by
  intro d
  induction d with
  | zero => intro acc ha hd; exact ⟨acc, ev_step1 (fun k => by simp only [spec_l3Row.l0]; rw [if_neg (by omega)]), ha⟩
  | succ d ih =>
    intro acc ha hd
    obtain ⟨r, hr, hr2⟩ := ih (acc ++ [x]) (by simp only [List.length_append, List.length_singleton]; omega) (by simp only [List.length_append, List.length_singleton]; omega)
    exact ⟨r, Ev.step (fun k => by simp only [spec_l3Row.l0]; rw [if_pos (by omega), if_pos (by omega)]) hr, hr2⟩
theorem row_ok (c : List Int) (i h m0 m1 m2 : Int) (hc : Cur c i) : ∃ r i' h', Ev (fun k => spec_l3Row.f k c i h m0 m1 m2) (r, i', h') ∧ r.length ≤ 200 ∧ Cur c i' := by
  obtain ⟨r, i1, h1, ⟨K, hr⟩, hr2, c1⟩ := line_ok c i h m0 m1 m2 hc
  obtain ⟨x2, i2, h2, e2, _, _, c2⟩ := below_ok c i1 h1 20 c1 (by omega) (by omega)
  by_cases k0 : x2 = 0
  · obtain ⟨y1, j1, g1, f1, _, d1⟩ := int_ok c i2 h2 [(-1), 61, 60, 4611686018427387904] c2 (by decide) (by decide)
    refine ⟨r ++ [y1], j1, g1, ⟨K, fun k hk => ?_⟩, by simp only [List.length_append, List.length_singleton]; omega, d1⟩
    simp only [spec_l3Row.f, hr k hk, e2, f1, Option.bind_some]
    rw [if_pos k0, if_pos (by omega)]
  · by_cases k1 : x2 = 1
    · obtain ⟨x3, i3, h3, e3, r3, s3, c3⟩ := below_ok c i2 h2 5 c2 (by omega) (by omega)
      obtain ⟨x4, i4, h4, e4, _, _, c4⟩ := below_ok c i3 h3 2 c3 (by omega) (by omega)
      have hw := wrap_id (118 + x3) (by omega) (by omega)
      obtain ⟨q, ⟨K2, hq⟩, hq2⟩ := row_loop_ok c (118 + x3) x4 i4 h4 (by omega) _ r (by omega) rfl
      refine ⟨q, i4, h4, ⟨K + K2, fun k hk => ?_⟩, hq2, c4⟩
      simp only [spec_l3Row.f, hr k (by omega), e2, e3, e4, Option.bind_some, hw]
      rw [if_neg k0, if_pos k1]
      exact hq k (by omega)
    · refine ⟨r, i2, h2, ⟨K, fun k hk => ?_⟩, by omega, c2⟩
      simp only [spec_l3Row.f, hr k hk, e2, Option.bind_some]
      rw [if_neg k0, if_neg k1]
end Go.Proofs.Ytnkpblbofjchaaa.Q
