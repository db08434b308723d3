/- Contracts of Go functions over this translation. Conditions: those that each theorem names. -/
import Derived.Test.YtilbngklgjjblaaQ0
import Derived.Test.YtilbngklgjjblaaQ2
namespace Go.Proofs.Ytilbngklgjjblaa.Q
open Go.RowKit Go.Proofs.YtilbngklgjjblaaW.PrintWords Go.Proofs.YtilbngklgjjblaaW.PrintLast Go.Proofs.YtilbngklgjjblaaW.PrintMore
attribute [local go_sem] max2_int min2_int max_two min_two max_three min_three max_four min_four
set_option linter.unusedVariables false
set_option linter.unusedSimpArgs false

mutual
def spec_FontOk.j0 : Nat → Int → Bool → ByteArray → List Int → List Int → Option (Bool)
  | 0, _, _, _, _, _ => none
  | k + 1, x3, x31, x111000, x111001, x111002 => if x31 = true then (some false) else (spec_FontOk.l0 k x3 0 x111000 x111001 x111002)
def spec_FontOk.l0 : Nat → Int → Int → ByteArray → List Int → List Int → Option (Bool)
  | 0, _, _, _, _, _ => none
  | k + 1, x3, x4, x111000, x111001, x111002 => if x4 < x3 then (if 0 ≤ x4 then (if x4 < (x111000.size : Int) then (if (bt x111000 x4) < 33 then (spec_FontOk.j2 k x3 x4 true x111000 x111001 x111002) else (if (bt x111000 x4) > 126 then (spec_FontOk.j2 k x3 x4 true x111000 x111001 x111002) else (if x4 < (x111001.length : Int) then ((spec_l1In.f (rd x111001 x4) 1 60).bind fun t114 => (spec_FontOk.j2 k x3 x4 (!t114) x111000 x111001 x111002)) else (none)))) else (none)) else (none)) else (some true)
def spec_FontOk.j2 : Nat → Int → Int → Bool → ByteArray → List Int → List Int → Option (Bool)
  | 0, _, _, _, _, _, _ => none
  | k + 1, x3, x4, x57, x111000, x111001, x111002 => if x57 = true then (some false) else (spec_FontOk.l1 k x3 x4 0 x111000 x111001 x111002)
def spec_FontOk.l1 : Nat → Int → Int → Int → ByteArray → List Int → List Int → Option (Bool)
  | 0, _, _, _, _, _, _ => none
  | k + 1, x3, x4, x5, x111000, x111001, x111002 => if x5 < x4 then (if 0 ≤ x4 then (if x4 < (x111000.size : Int) then (if 0 ≤ x5 then (if x5 < (x111000.size : Int) then (if (bt x111000 x4) = (bt x111000 x5) then (some false) else (spec_FontOk.l1 k x3 x4 (wrap64 (x5 + 1)) x111000 x111001 x111002)) else (none)) else (none)) else (none)) else (none)) else (spec_FontOk.l0 k x3 (wrap64 (x4 + 1)) x111000 x111001 x111002)
end
def spec_FontOk.f (k : Nat) (a0_0 : ByteArray) (l0_1 : List Int) (l0_2 : List Int) : Option (Bool) := (spec_l1In.f (a0_0.size : Int) 1 40).bind fun t111 => (if t111 = true then (if (l0_1.length : Int) = (a0_0.size : Int) then (if (l0_2.length : Int) = (a0_0.size : Int) then ((spec_SortsAll.f k l0_2).bind fun t112 => (spec_FontOk.j0 k (a0_0.size : Int) (!t112) a0_0 l0_1 l0_2)) else (spec_FontOk.j0 k (a0_0.size : Int) true a0_0 l0_1 l0_2)) else (spec_FontOk.j0 k (a0_0.size : Int) true a0_0 l0_1 l0_2)) else (spec_FontOk.j0 k (a0_0.size : Int) true a0_0 l0_1 l0_2))
theorem spec_FontOk.mono_l : ∀ k, (∀ y0 y1 y2 y3 y4, LeO (spec_FontOk.j0 k y0 y1 y2 y3 y4) (spec_FontOk.j0 (k + 1) y0 y1 y2 y3 y4)) ∧ (∀ y0 y1 y2 y3 y4, LeO (spec_FontOk.l0 k y0 y1 y2 y3 y4) (spec_FontOk.l0 (k + 1) y0 y1 y2 y3 y4)) ∧ (∀ y0 y1 y2 y3 y4 y5, LeO (spec_FontOk.j2 k y0 y1 y2 y3 y4 y5) (spec_FontOk.j2 (k + 1) y0 y1 y2 y3 y4 y5)) ∧ (∀ y0 y1 y2 y3 y4 y5, LeO (spec_FontOk.l1 k y0 y1 y2 y3 y4 y5) (spec_FontOk.l1 (k + 1) y0 y1 y2 y3 y4 y5))
  | 0 => ⟨fun _ _ _ _ _ r h => by simp [spec_FontOk.j0] at h, fun _ _ _ _ _ r h => by simp [spec_FontOk.l0] at h, fun _ _ _ _ _ _ r h => by simp [spec_FontOk.j2] at h, fun _ _ _ _ _ _ r h => by simp [spec_FontOk.l1] at h⟩
  | k + 1 => by
    obtain ⟨ih0, ih1, ih2, ih3⟩ := spec_FontOk.mono_l k
    refine ⟨?_, ?_, ?_, ?_⟩ <;> intros <;> (first | unfold spec_FontOk.j0 | unfold spec_FontOk.l0 | unfold spec_FontOk.j2 | unfold spec_FontOk.l1) <;> repeat' first | (with_reducible first | exact ih0 _ _ _ _ _ | exact ih1 _ _ _ _ _ | exact ih2 _ _ _ _ _ _ | exact ih3 _ _ _ _ _ _ | exact spec_SortsAll.mono _ _ | exact LeO.refl _ | exact LeO.none _ | refine LeO.ite ?_ ?_ | refine LeO.bind ?_ (fun _ => ?_)) | exact ih0 _ _ _ _ _ | exact ih1 _ _ _ _ _ | exact ih2 _ _ _ _ _ _ | exact ih3 _ _ _ _ _ _ | exact spec_SortsAll.mono _ _ | exact LeO.none _ | refine LeO.ite ?_ ?_ | refine LeO.bind ?_ (fun _ => ?_)
theorem spec_FontOk.mono : ∀ a0 a1 a2 k, LeO (spec_FontOk.f k a0 a1 a2) (spec_FontOk.f (k + 1) a0 a1 a2) := by
 intro a0 a1 a2 k
 obtain ⟨ih0, ih1, ih2, ih3⟩ := spec_FontOk.mono_l k
 unfold spec_FontOk.f
 repeat' first | (with_reducible first | exact ih0 _ _ _ _ _ | exact ih1 _ _ _ _ _ | exact ih2 _ _ _ _ _ _ | exact ih3 _ _ _ _ _ _ | exact spec_SortsAll.mono _ _ | exact LeO.refl _ | exact LeO.none _ | refine LeO.ite ?_ ?_ | refine LeO.bind ?_ (fun _ => ?_)) | exact ih0 _ _ _ _ _ | exact ih1 _ _ _ _ _ | exact ih2 _ _ _ _ _ _ | exact ih3 _ _ _ _ _ _ | exact spec_SortsAll.mono _ _ | exact LeO.none _ | refine LeO.ite ?_ ?_ | refine LeO.bind ?_ (fun _ => ?_)
set_option maxHeartbeats 8000000 in
set_option maxRecDepth 100000 in
theorem spec_FontOk.calls (k : Nat) (a0_0 : ByteArray) (A0_1 : Option Addr) (c0_1 : Nat) (l0_1 : List Int) (A0_2 : Option Addr) (c0_2 : Nat) (l0_2 : List Int) (r : Bool) (w : World) (hr0_1 : Kd.C (Kd.int .i64) w A0_1 l0_1.length l0_1) (hc0_1 : l0_1.length ≤ c0_1) (hr0_2 : Kd.C (Kd.int .i64) w A0_2 l0_2.length l0_2) (hc0_2 : l0_2.length ≤ c0_2) (h : spec_FontOk.f k a0_0 l0_1 l0_2 = some r) :
    Calls Try.prog 29 #[.agg #[.string a0_0, .slice A0_1 l0_1.length c0_1, .slice A0_2 l0_2.length c0_2]] w fun e w' => e = .returned (.bool r) ∧ Below w.heap.size w w' := by
 have hu25 := Try.underlying25
 have HR0_1 := M_ hr0_1
 have HC0_1 := M_ hc0_1
 clear hr0_1 hc0_1
 have HR0_2 := M_ hr0_2
 have HC0_2 := M_ hc0_2
 clear hr0_2 hc0_2
 have HB := M_ (Below.refl w.heap.size w)
 have H : ((spec_l1In.f (a0_0.size : Int) 1 40).bind fun t111 => (if t111 = true then (if (l0_1.length : Int) = (a0_0.size : Int) then (if (l0_2.length : Int) = (a0_0.size : Int) then ((spec_SortsAll.f k l0_2).bind fun t112 => (spec_FontOk.j0 k (a0_0.size : Int) (!t112) a0_0 l0_1 l0_2)) else (spec_FontOk.j0 k (a0_0.size : Int) true a0_0 l0_1 l0_2)) else (spec_FontOk.j0 k (a0_0.size : Int) true a0_0 l0_1 l0_2)) else (spec_FontOk.j0 k (a0_0.size : Int) true a0_0 l0_1 l0_2))) = some r := h
 clear h
 have HC2 := M_ H
 clear H
 go_enter Try.func29, Try.ntmps29
 go_upto_region 2 with (first | ((with_reducible refine gate_dst (N := 1) rfl ?_); (try (refine gate_guard (by rfl) ?_; dsimp only)); refine be_ 1 #[.string a0_0, .slice A0_1 l0_1.length c0_1, .slice A0_2 l0_2.length c0_2] 25 ?_; intro gb110 hg w3 hbox hb; have z_ := t3_ (bS_ (bw0_ HB.out) hb) hbox (gv_ hg (bw0_ HB.out) : w.heap.size ≤ gb110); clear HB; obtain ⟨HB, BK110, GE110⟩ := z_; clear hb hbox hg; have hcz4_0 := cz_ BK110.out 0 (.string a0_0); have hcz4_1 := cz_ BK110.out 1 (.slice A0_1 l0_1.length c0_1); have hcz4_2 := cz_ BK110.out 2 (.slice A0_2 l0_2.length c0_2); have hfz4_0 := fz_ BK110.out 0; have hfz4_1 := fz_ BK110.out 1; have hfz4_2 := fz_ BK110.out 2))
 repeat (go_quiet (first | ((with_reducible refine gate_dst (N := 1) rfl ?_); (try (refine gate_guard (by rfl) ?_; dsimp only)); refine be_ 1 #[.string a0_0, .slice A0_1 l0_1.length c0_1, .slice A0_2 l0_2.length c0_2] 25 ?_; intro gb110 hg w3 hbox hb; have z_ := t3_ (bS_ (bw0_ HB.out) hb) hbox (gv_ hg (bw0_ HB.out) : w.heap.size ≤ gb110); clear HB; obtain ⟨HB, BK110, GE110⟩ := z_; clear hb hbox hg; have hcz4_0 := cz_ BK110.out 0 (.string a0_0); have hcz4_1 := cz_ BK110.out 1 (.slice A0_1 l0_1.length c0_1); have hcz4_2 := cz_ BK110.out 2 (.slice A0_2 l0_2.length c0_2); have hfz4_0 := fz_ BK110.out 0; have hfz4_1 := fz_ BK110.out 1; have hfz4_2 := fz_ BK110.out 2)); go_upto_region 2 with (first | ((with_reducible refine gate_dst (N := 1) rfl ?_); (try (refine gate_guard (by rfl) ?_; dsimp only)); refine be_ 1 #[.string a0_0, .slice A0_1 l0_1.length c0_1, .slice A0_2 l0_2.length c0_2] 25 ?_; intro gb110 hg w3 hbox hb; have z_ := t3_ (bS_ (bw0_ HB.out) hb) hbox (gv_ hg (bw0_ HB.out) : w.heap.size ≤ gb110); clear HB; obtain ⟨HB, BK110, GE110⟩ := z_; clear hb hbox hg; have hcz4_0 := cz_ BK110.out 0 (.string a0_0); have hcz4_1 := cz_ BK110.out 1 (.slice A0_1 l0_1.length c0_1); have hcz4_2 := cz_ BK110.out 2 (.slice A0_2 l0_2.length c0_2); have hfz4_0 := fz_ BK110.out 0; have hfz4_1 := fz_ BK110.out 1; have hfz4_2 := fz_ BK110.out 2)))
 (try simp only [Act.put, lA_, lB_, lC_])
 go_cut [31] (fun v31 wc => ∃ (kq : Nat) (x31_1 : Bool), v31 = .bool x31_1 ∧ Aside0 (spec_FontOk.j0 kq (a0_0.size : Int) x31_1 a0_0 l0_1 l0_2 = some r) ∧ Aside0 (kq ≤ k) ∧ Aside0 (wc.heap[gb110]? = some (.cells #[.string a0_0, (.slice A0_1 l0_1.length c0_1), (.slice A0_2 l0_2.length c0_2)] 25 (0, 0))) ∧ Aside0 (Below w.heap.size w wc))
 case first =>
  have H := HC2.out
  clear HC2
  replace H := bs_ H
  obtain ⟨t111, A50, H⟩ := H
  (try dsimp only at H)
  have A5 := M_ A50
  clear A50
  by_cases c6 : t111 = true
  ·subst c6
   rw [if_pos rfl] at H
   by_cases c7 : (l0_1.length : Int) = (a0_0.size : Int)
   ·rw [if_pos c7] at H
    have c7b0 := beq_iff_eq.mpr c7
    have c7b1 := bne_eq_false_iff_eq.mpr c7
    have c7b2 : (l0_1.length == a0_0.size) = true := by first | simpa using c7 | (simp at c7 ⊢; omega)
    clear c7
    (first | rw [c7b0] | (simp only [i64_w, i32_w]; rw [c7b0]) | skip)
    by_cases c8 : (l0_2.length : Int) = (a0_0.size : Int)
    ·rw [if_pos c8] at H
     have c8b0 := beq_iff_eq.mpr c8
     have c8b1 := bne_eq_false_iff_eq.mpr c8
     have c8b2 : (l0_2.length == a0_0.size) = true := by first | simpa using c8 | (simp at c8 ⊢; omega)
     clear c8
     replace H := bs_ H
     obtain ⟨t112, A90, H⟩ := H
     (try dsimp only at H)
     have A9 := M_ A90
     clear A90
     have H' := M_ H
     clear H
     go_wp2_with (first | (go_at_call 81; (try simp only [i64_w, i32_w]); (with_reducible refine (spec_l1In.calls (a0_0.size : Int) 1 40 true _ A5.out).mono ?_); rintro e w' ⟨rfl, ⟨nd, rfl⟩⟩; (try exact dw_); have hcz10_0 := cz_ BK110.out 0 (.string a0_0); have hcz10_1 := cz_ BK110.out 1 (.slice A0_1 l0_1.length c0_1); have hcz10_2 := cz_ BK110.out 2 (.slice A0_2 l0_2.length c0_2); have hfz10_0 := fz_ BK110.out 0; have hfz10_1 := fz_ BK110.out 1; have hfz10_2 := fz_ BK110.out 2) | (go_at_call 82; (try simp only [i64_w, i32_w]); (with_reducible refine (spec_SortsAll.calls k _ _ l0_2 t112 _ ?side1 ?side2 A9.out).mono ?_); (case side1 => repeat (first | exact (Kd.C_below HR0_2.out (bw1_ HB.out GE110.out)) | (with_reducible refine Kd.C_alloc ?_ _) | (with_reducible refine Kd.C_drewN ?_ _) | (with_reducible refine Kd.C_drew ?_))); (case side2 => exact HC0_2.out); rintro e w' ⟨rfl, ⟨nd, rfl⟩⟩; (try exact dw_)))
     repeat (go_quiet (first | (go_at_call 81; (try simp only [i64_w, i32_w]); (with_reducible refine (spec_l1In.calls (a0_0.size : Int) 1 40 true _ A5.out).mono ?_); rintro e w' ⟨rfl, ⟨nd, rfl⟩⟩; (try exact dw_); have hcz10_0 := cz_ BK110.out 0 (.string a0_0); have hcz10_1 := cz_ BK110.out 1 (.slice A0_1 l0_1.length c0_1); have hcz10_2 := cz_ BK110.out 2 (.slice A0_2 l0_2.length c0_2); have hfz10_0 := fz_ BK110.out 0; have hfz10_1 := fz_ BK110.out 1; have hfz10_2 := fz_ BK110.out 2) | (go_at_call 82; (try simp only [i64_w, i32_w]); (with_reducible refine (spec_SortsAll.calls k _ _ l0_2 t112 _ ?side1 ?side2 A9.out).mono ?_); (case side1 => repeat (first | exact (Kd.C_below HR0_2.out (bw1_ HB.out GE110.out)) | (with_reducible refine Kd.C_alloc ?_ _) | (with_reducible refine Kd.C_drewN ?_ _) | (with_reducible refine Kd.C_drew ?_))); (case side2 => exact HC0_2.out); rintro e w' ⟨rfl, ⟨nd, rfl⟩⟩; (try exact dw_))); try go_wp2_with (first | (go_at_call 81; (try simp only [i64_w, i32_w]); (with_reducible refine (spec_l1In.calls (a0_0.size : Int) 1 40 true _ A5.out).mono ?_); rintro e w' ⟨rfl, ⟨nd, rfl⟩⟩; (try exact dw_); have hcz10_0 := cz_ BK110.out 0 (.string a0_0); have hcz10_1 := cz_ BK110.out 1 (.slice A0_1 l0_1.length c0_1); have hcz10_2 := cz_ BK110.out 2 (.slice A0_2 l0_2.length c0_2); have hfz10_0 := fz_ BK110.out 0; have hfz10_1 := fz_ BK110.out 1; have hfz10_2 := fz_ BK110.out 2) | (go_at_call 82; (try simp only [i64_w, i32_w]); (with_reducible refine (spec_SortsAll.calls k _ _ l0_2 t112 _ ?side1 ?side2 A9.out).mono ?_); (case side1 => repeat (first | exact (Kd.C_below HR0_2.out (bw1_ HB.out GE110.out)) | (with_reducible refine Kd.C_alloc ?_ _) | (with_reducible refine Kd.C_drewN ?_ _) | (with_reducible refine Kd.C_drew ?_))); (case side2 => exact HC0_2.out); rintro e w' ⟨rfl, ⟨nd, rfl⟩⟩; (try exact dw_))))
     go_meet
     case rel => exact ⟨_, (!t112), (by first | rfl | (simp; done) | (simp [*]; done)), H', ⟨by first | omega | exact Nat.le_refl _⟩, ⟨by refine bk_ ?_; exact BK110.out⟩, ⟨bw1_ HB.out GE110.out⟩⟩
    ·rw [if_neg c8] at H
     have c8b0 : ((l0_2.length : Int) == (a0_0.size : Int)) = false := beq_eq_false_iff_ne.mpr c8
     have c8b1 : ((l0_2.length : Int) != (a0_0.size : Int)) = true := bne_iff_ne.mpr c8
     have c8b2 : (l0_2.length == a0_0.size) = false := by first | simpa using c8 | (simp at c8 ⊢; omega)
     have H' := M_ H
     clear H
     go_wp2_with (first | (go_at_call 81; (try simp only [i64_w, i32_w]); (with_reducible refine (spec_l1In.calls (a0_0.size : Int) 1 40 true _ A5.out).mono ?_); rintro e w' ⟨rfl, ⟨nd, rfl⟩⟩; (try exact dw_); have hcz11_0 := cz_ BK110.out 0 (.string a0_0); have hcz11_1 := cz_ BK110.out 1 (.slice A0_1 l0_1.length c0_1); have hcz11_2 := cz_ BK110.out 2 (.slice A0_2 l0_2.length c0_2); have hfz11_0 := fz_ BK110.out 0; have hfz11_1 := fz_ BK110.out 1; have hfz11_2 := fz_ BK110.out 2))
     repeat (go_quiet (first | (go_at_call 81; (try simp only [i64_w, i32_w]); (with_reducible refine (spec_l1In.calls (a0_0.size : Int) 1 40 true _ A5.out).mono ?_); rintro e w' ⟨rfl, ⟨nd, rfl⟩⟩; (try exact dw_); have hcz11_0 := cz_ BK110.out 0 (.string a0_0); have hcz11_1 := cz_ BK110.out 1 (.slice A0_1 l0_1.length c0_1); have hcz11_2 := cz_ BK110.out 2 (.slice A0_2 l0_2.length c0_2); have hfz11_0 := fz_ BK110.out 0; have hfz11_1 := fz_ BK110.out 1; have hfz11_2 := fz_ BK110.out 2)); try go_wp2_with (first | (go_at_call 81; (try simp only [i64_w, i32_w]); (with_reducible refine (spec_l1In.calls (a0_0.size : Int) 1 40 true _ A5.out).mono ?_); rintro e w' ⟨rfl, ⟨nd, rfl⟩⟩; (try exact dw_); have hcz11_0 := cz_ BK110.out 0 (.string a0_0); have hcz11_1 := cz_ BK110.out 1 (.slice A0_1 l0_1.length c0_1); have hcz11_2 := cz_ BK110.out 2 (.slice A0_2 l0_2.length c0_2); have hfz11_0 := fz_ BK110.out 0; have hfz11_1 := fz_ BK110.out 1; have hfz11_2 := fz_ BK110.out 2)))
     go_meet
     case rel => exact ⟨_, (true), (by first | rfl | (simp; done) | (simp [*]; done)), H', ⟨by first | omega | exact Nat.le_refl _⟩, ⟨by refine bk_ ?_; exact BK110.out⟩, ⟨bw1_ HB.out GE110.out⟩⟩
   ·rw [if_neg c7] at H
    have c7b0 : ((l0_1.length : Int) == (a0_0.size : Int)) = false := beq_eq_false_iff_ne.mpr c7
    have c7b1 : ((l0_1.length : Int) != (a0_0.size : Int)) = true := bne_iff_ne.mpr c7
    have c7b2 : (l0_1.length == a0_0.size) = false := by first | simpa using c7 | (simp at c7 ⊢; omega)
    (first | rw [c7b0] | (simp only [i64_w, i32_w]; rw [c7b0]) | skip)
    have H' := M_ H
    clear H
    go_wp2_with (first | (go_at_call 81; (try simp only [i64_w, i32_w]); (with_reducible refine (spec_l1In.calls (a0_0.size : Int) 1 40 true _ A5.out).mono ?_); rintro e w' ⟨rfl, ⟨nd, rfl⟩⟩; (try exact dw_); have hcz12_0 := cz_ BK110.out 0 (.string a0_0); have hcz12_1 := cz_ BK110.out 1 (.slice A0_1 l0_1.length c0_1); have hcz12_2 := cz_ BK110.out 2 (.slice A0_2 l0_2.length c0_2); have hfz12_0 := fz_ BK110.out 0; have hfz12_1 := fz_ BK110.out 1; have hfz12_2 := fz_ BK110.out 2))
    repeat (go_quiet (first | (go_at_call 81; (try simp only [i64_w, i32_w]); (with_reducible refine (spec_l1In.calls (a0_0.size : Int) 1 40 true _ A5.out).mono ?_); rintro e w' ⟨rfl, ⟨nd, rfl⟩⟩; (try exact dw_); have hcz12_0 := cz_ BK110.out 0 (.string a0_0); have hcz12_1 := cz_ BK110.out 1 (.slice A0_1 l0_1.length c0_1); have hcz12_2 := cz_ BK110.out 2 (.slice A0_2 l0_2.length c0_2); have hfz12_0 := fz_ BK110.out 0; have hfz12_1 := fz_ BK110.out 1; have hfz12_2 := fz_ BK110.out 2)); try go_wp2_with (first | (go_at_call 81; (try simp only [i64_w, i32_w]); (with_reducible refine (spec_l1In.calls (a0_0.size : Int) 1 40 true _ A5.out).mono ?_); rintro e w' ⟨rfl, ⟨nd, rfl⟩⟩; (try exact dw_); have hcz12_0 := cz_ BK110.out 0 (.string a0_0); have hcz12_1 := cz_ BK110.out 1 (.slice A0_1 l0_1.length c0_1); have hcz12_2 := cz_ BK110.out 2 (.slice A0_2 l0_2.length c0_2); have hfz12_0 := fz_ BK110.out 0; have hfz12_1 := fz_ BK110.out 1; have hfz12_2 := fz_ BK110.out 2)))
    go_meet
    case rel => exact ⟨_, (true), (by first | rfl | (simp; done) | (simp [*]; done)), H', ⟨by first | omega | exact Nat.le_refl _⟩, ⟨by refine bk_ ?_; exact BK110.out⟩, ⟨bw1_ HB.out GE110.out⟩⟩
  ·replace c6 := Bool.eq_false_iff.mpr c6
   subst c6
   rw [if_neg (show ¬ (false = true) by decide)] at H
   have H' := M_ H
   clear H
   go_wp2_with (first | (go_at_call 81; (try simp only [i64_w, i32_w]); (with_reducible refine (spec_l1In.calls (a0_0.size : Int) 1 40 false _ A5.out).mono ?_); rintro e w' ⟨rfl, ⟨nd, rfl⟩⟩; (try exact dw_)))
   repeat (go_quiet (first | (go_at_call 81; (try simp only [i64_w, i32_w]); (with_reducible refine (spec_l1In.calls (a0_0.size : Int) 1 40 false _ A5.out).mono ?_); rintro e w' ⟨rfl, ⟨nd, rfl⟩⟩; (try exact dw_))); try go_wp2_with (first | (go_at_call 81; (try simp only [i64_w, i32_w]); (with_reducible refine (spec_l1In.calls (a0_0.size : Int) 1 40 false _ A5.out).mono ?_); rintro e w' ⟨rfl, ⟨nd, rfl⟩⟩; (try exact dw_))))
   go_meet
   case rel => exact ⟨_, (true), (by first | rfl | (simp; done) | (simp [*]; done)), H', ⟨by first | omega | exact Nat.le_refl _⟩, ⟨by refine bk_ ?_; exact BK110.out⟩, ⟨bw1_ HB.out GE110.out⟩⟩
 case rest =>
  clear HC2
  (try clear hfz4_2 hfz4_1 hfz4_0 hfz12_2 hfz12_1 hfz12_0 hfz11_2 hfz11_1 hfz11_0 hfz10_2 hfz10_1 hfz10_0 hcz4_2 hcz4_1 hcz4_0 hcz12_2 hcz12_1 hcz12_0 hcz11_2 hcz11_1 hcz11_0 hcz10_2 hcz10_1 hcz10_0 c8b2 c8b1 c8b0 c8 c7b2 c7b1 c7b0 c7 c6 p2 c2)
  obtain ⟨kq, x31_1, rfl, HA, HJ1, BK110, HB⟩ := hcut
  cases kq with
  | zero => exact absurd HA.out (by simp [spec_FontOk.j0])
  | succ kj1 =>
   have H := HA.out
   clear HA
   simp only [spec_FontOk.j0] at H
   by_cases c13 : x31_1 = true
   ·subst c13
    rw [if_pos rfl] at H
    obtain rfl := Option.some.inj H
    go_wp2
    repeat (go_quiet (fail); try go_wp2)
    go_ret
    exact ⟨rb_, bw1_ HB.out GE110.out⟩
   ·replace c13 := Bool.eq_false_iff.mpr c13
    subst c13
    rw [if_neg (show ¬ (false = true) by decide)] at H
    have H' := M_ H
    clear H
    go_wp2
    repeat (go_quiet (fail); try go_wp2)
    go_loopg [4] kj1 (fun kq v4 w' => ∃ (x4_2 : Int), v4 = .int .i64 x4_2 ∧ Aside0 (spec_FontOk.l0 kq (a0_0.size : Int) x4_2 a0_0 l0_1 l0_2 = some r) ∧ Aside0 (kq ≤ kj1) ∧ Aside0 (w'.heap[gb110]? = some (.cells #[.string a0_0, (.slice A0_1 l0_1.length c0_1), (.slice A0_2 l0_2.length c0_2)] 25 (0, 0))) ∧ Aside0 (Below w.heap.size w w'))
    case atStart => exact ⟨(0), (by first | rfl | (simp; done) | (simp [*]; done)), H', ⟨Nat.le_refl _⟩, ⟨by refine bk_ ?_; exact BK110.out⟩, ⟨bw1_ HB.out GE110.out⟩⟩
    case round =>
     clear H'
     (try clear p2 hfz4_2 hfz4_1 hfz4_0 hfz12_2 hfz12_1 hfz12_0 hfz11_2 hfz11_1 hfz11_0 hfz10_2 hfz10_1 hfz10_0 hcz4_2 hcz4_1 hcz4_0 hcz12_2 hcz12_1 hcz12_0 hcz11_2 hcz11_1 hcz11_0 hcz10_2 hcz10_1 hcz10_0 c13 c8b2 c8b1 c8b0 c8 c7b2 c7b1 c7b0 c7 p6 c6 p2 c2 c1)
     obtain ⟨x4_2, rfl, HA, HK2, BK110, HB⟩ := hrel
     cases gk with
     | zero => exact absurd HA.out (by simp [spec_FontOk.l0])
     | succ k2 =>
      have H := HA.out
      clear HA
      simp only [spec_FontOk.l0] at H
      by_cases c14 : x4_2 < (a0_0.size : Int)
      ·rw [if_pos c14] at H
       have c14b0 := dt_ c14
       clear c14
       have HC15 := M_ H
       clear H
       go_upto_region 7 with (fail)
       repeat (go_quiet (fail); go_upto_region 7 with (fail))
       go_cut [57] (fun v57 wc => ∃ (kq : Nat) (x57_14 : Bool), v57 = .bool x57_14 ∧ Aside0 (spec_FontOk.j2 kq (a0_0.size : Int) x4_2 x57_14 a0_0 l0_1 l0_2 = some r) ∧ Aside0 (kq ≤ k2) ∧ Aside0 (wc.heap[gb110]? = some (.cells #[.string a0_0, (.slice A0_1 l0_1.length c0_1), (.slice A0_2 l0_2.length c0_2)] 25 (0, 0))) ∧ Aside0 (Below w.heap.size w wc))
       case first =>
        have H := HC15.out
        clear HC15
        by_cases c16 : 0 ≤ x4_2
        ·rw [if_pos c16] at H
         have c16b0 := dt_ c16
         clear c16
         (first | rw [c16b0] | (simp only [i64_w, i32_w]; rw [c16b0]) | skip)
         by_cases c17 : x4_2 < (a0_0.size : Int)
         ·rw [if_pos c17] at H
          have c17b0 := dt_ c17
          clear c17
          by_cases c19 : (bt a0_0 x4_2) < 33
          ·rw [if_pos c19] at H
           have c19b0 := dt_ c19
           clear c19
           have H' := M_ H
           clear H
           have hcz20_0 : wr.cell? ⟨gb110, 0, none⟩ = some (.string a0_0) := (blk_cell BK110.out 0).trans rfl
           have hcz20_1 : wr.cell? ⟨gb110, 1, none⟩ = some (.slice A0_1 l0_1.length c0_1) := (blk_cell BK110.out 1).trans rfl
           have hcz20_2 : wr.cell? ⟨gb110, 2, none⟩ = some (.slice A0_2 l0_2.length c0_2) := (blk_cell BK110.out 2).trans rfl
           have hfz20_0 := fz_ BK110.out 0
           have hfz20_1 := fz_ BK110.out 1
           have hfz20_2 := fz_ BK110.out 2
           have p18 : 0 ≤ (x4_2 : Int) := od_ as_
           have q18 : x4_2 < (a0_0.size : Int) := od_ as_
           have hx18 := bt_at a0_0 x4_2
           replace p18 := eq_true p18
           replace q18 := eq_true q18
           go_wp2
           repeat (go_quiet (fail); try go_wp2)
           go_meet
           case rel => exact ⟨_, (true), (by first | rfl | (simp; done) | (simp [*]; done)), H', ⟨by have := HJ1.out; have := HK2.out; first | omega | exact Nat.le_refl _⟩, ⟨by refine bk_ ?_; exact BK110.out⟩, ⟨bw1_ HB.out GE110.out⟩⟩
          ·rw [if_neg c19] at H
           have c19b0 := decide_eq_false c19
           clear c19
           by_cases c22 : (bt a0_0 x4_2) > 126
           ·rw [if_pos c22] at H
            have c22b0 : decide (126 < (bt a0_0 x4_2)) = true := dt_ c22
            clear c22
            have H' := M_ H
            clear H
            have hcz23_0 : wr.cell? ⟨gb110, 0, none⟩ = some (.string a0_0) := (blk_cell BK110.out 0).trans rfl
            have hcz23_1 : wr.cell? ⟨gb110, 1, none⟩ = some (.slice A0_1 l0_1.length c0_1) := (blk_cell BK110.out 1).trans rfl
            have hcz23_2 : wr.cell? ⟨gb110, 2, none⟩ = some (.slice A0_2 l0_2.length c0_2) := (blk_cell BK110.out 2).trans rfl
            have hfz23_0 := fz_ BK110.out 0
            have hfz23_1 := fz_ BK110.out 1
            have hfz23_2 := fz_ BK110.out 2
            have p18 : 0 ≤ (x4_2 : Int) := od_ as_
            have q18 : x4_2 < (a0_0.size : Int) := od_ as_
            have hx18 := bt_at a0_0 x4_2
            replace p18 := eq_true p18
            replace q18 := eq_true q18
            have p21 : 0 ≤ (x4_2 : Int) := od_ as_
            have q21 : x4_2 < (a0_0.size : Int) := od_ as_
            have hx21 := bt_at a0_0 x4_2
            replace p21 := eq_true p21
            replace q21 := eq_true q21
            go_wp2
            repeat (go_quiet (fail); try go_wp2)
            go_meet
            case rel => exact ⟨_, (true), (by first | rfl | (simp; done) | (simp [*]; done)), H', ⟨by have := HJ1.out; have := HK2.out; first | omega | exact Nat.le_refl _⟩, ⟨by refine bk_ ?_; exact BK110.out⟩, ⟨bw1_ HB.out GE110.out⟩⟩
           ·rw [if_neg c22] at H
            have c22b0 : decide (126 < (bt a0_0 x4_2)) = false := decide_eq_false c22
            clear c22
            by_cases c24 : x4_2 < (l0_1.length : Int)
            ·rw [if_pos c24] at H
             have c24b0 := dt_ c24
             clear c24
             replace H := bs_ H
             obtain ⟨t114, A250, H⟩ := H
             (try dsimp only at H)
             have A25 := M_ A250
             clear A250
             have H' := M_ H
             clear H
             have hcz26_0 : wr.cell? ⟨gb110, 0, none⟩ = some (.string a0_0) := (blk_cell BK110.out 0).trans rfl
             have hcz26_1 : wr.cell? ⟨gb110, 1, none⟩ = some (.slice A0_1 l0_1.length c0_1) := (blk_cell BK110.out 1).trans rfl
             have hcz26_2 : wr.cell? ⟨gb110, 2, none⟩ = some (.slice A0_2 l0_2.length c0_2) := (blk_cell BK110.out 2).trans rfl
             have hfz26_0 := fz_ BK110.out 0
             have hfz26_1 := fz_ BK110.out 1
             have hfz26_2 := fz_ BK110.out 2
             have p18 : 0 ≤ (x4_2 : Int) := od_ as_
             have q18 : x4_2 < (a0_0.size : Int) := od_ as_
             have hx18 := bt_at a0_0 x4_2
             replace p18 := eq_true p18
             replace q18 := eq_true q18
             have p21 : 0 ≤ (x4_2 : Int) := od_ as_
             have q21 : x4_2 < (a0_0.size : Int) := od_ as_
             have hx21 := bt_at a0_0 x4_2
             replace p21 := eq_true p21
             replace q21 := eq_true q21
             have p113 : 0 ≤ (x4_2 : Int) := od_ as_
             have q113 : x4_2 < (l0_1.length : Int) := od_ as_
             obtain ⟨ad113, e113, hx113_0⟩ := Kd.at_int HR0_1.out x4_2 p113 q113
             cases e113
             replace hx113_0 := (HB.out.cell (World.block_lt_of_cell? w _ hx113_0)).trans hx113_0
             replace p113 := eq_true p113
             replace q113 := eq_true q113
             go_wp2_with (first | (go_at_call 81; (try simp only [i64_w, i32_w]); (with_reducible refine (spec_l1In.calls (rd l0_1 x4_2) 1 60 t114 _ A25.out).mono ?_); rintro e w' ⟨rfl, ⟨nd, rfl⟩⟩; (try exact dw_)))
             repeat (go_quiet (first | (go_at_call 81; (try simp only [i64_w, i32_w]); (with_reducible refine (spec_l1In.calls (rd l0_1 x4_2) 1 60 t114 _ A25.out).mono ?_); rintro e w' ⟨rfl, ⟨nd, rfl⟩⟩; (try exact dw_))); try go_wp2_with (first | (go_at_call 81; (try simp only [i64_w, i32_w]); (with_reducible refine (spec_l1In.calls (rd l0_1 x4_2) 1 60 t114 _ A25.out).mono ?_); rintro e w' ⟨rfl, ⟨nd, rfl⟩⟩; (try exact dw_))))
             go_meet
             case rel => exact ⟨_, (!t114), (by first | rfl | (simp; done) | (simp [*]; done)), H', ⟨by have := HJ1.out; have := HK2.out; first | omega | exact Nat.le_refl _⟩, ⟨by refine bk_ ?_; exact BK110.out⟩, ⟨bw1_ HB.out GE110.out⟩⟩
            ·rw [if_neg c24] at H
             exact absurd H (by simp)
         ·rw [if_neg c17] at H
          exact absurd H (by simp)
        ·rw [if_neg c16] at H
         exact absurd H (by simp)
       case rest =>
        clear HC15
        (try clear q21 q18 q113 p6 p21 p2 p18 p113 hx113_0 hfz4_2 hfz4_1 hfz4_0 hfz26_2 hfz26_1 hfz26_0 hfz23_2 hfz23_1 hfz23_0 hfz20_2 hfz20_1 hfz20_0 hfz12_2 hfz12_1 hfz12_0 hfz11_2 hfz11_1 hfz11_0 hfz10_2 hfz10_1 hfz10_0 hcz4_2 hcz4_1 hcz4_0 hcz26_2 hcz26_1 hcz26_0 hcz23_2 hcz23_1 hcz23_0 hcz20_2 hcz20_1 hcz20_0 hcz12_2 hcz12_1 hcz12_0 hcz11_2 hcz11_1 hcz11_0 hcz10_2 hcz10_1 hcz10_0 c24b0 c24 c22b0 c22 hx21 q21 p21 c19b0 c19 hx18 q18 p18 c17b0 c17 c16b0 c16 c14b0 c14 c13 hx11 q11 p11 c8b2 c8b1 c8b0 c8 c7b2 c7b1 c7b0 c7 p6 c6 hx2 q2 p2 c2 hx1 q1 p1 c1)
        obtain ⟨kq, x57_14, rfl, HA, HJ14, BK110, HB⟩ := hcut
        cases kq with
        | zero => exact absurd HA.out (by simp [spec_FontOk.j2])
        | succ kj14 =>
         have H := HA.out
         clear HA
         simp only [spec_FontOk.j2] at H
         by_cases c27 : x57_14 = true
         ·subst c27
          rw [if_pos rfl] at H
          obtain rfl := Option.some.inj H
          go_wp2
          repeat (go_quiet (fail); try go_wp2)
          go_ret
          exact ⟨rb_, bw1_ HB.out GE110.out⟩
         ·replace c27 := Bool.eq_false_iff.mpr c27
          subst c27
          rw [if_neg (show ¬ (false = true) by decide)] at H
          have H' := M_ H
          clear H
          go_wp2
          repeat (go_quiet (fail); try go_wp2)
          go_loopg [5] kj14 (fun kq v5 w' => ∃ (x5_4 : Int), v5 = .int .i64 x5_4 ∧ Aside0 (spec_FontOk.l1 kq (a0_0.size : Int) x4_2 x5_4 a0_0 l0_1 l0_2 = some r) ∧ Aside0 (kq ≤ kj14) ∧ Aside0 (w'.heap[gb110]? = some (.cells #[.string a0_0, (.slice A0_1 l0_1.length c0_1), (.slice A0_2 l0_2.length c0_2)] 25 (0, 0))) ∧ Aside0 (Below w.heap.size w w'))
          case atStart => exact ⟨(0), (by first | rfl | (simp; done) | (simp [*]; done)), H', ⟨Nat.le_refl _⟩, ⟨by refine bk_ ?_; exact BK110.out⟩, ⟨bw1_ HB.out GE110.out⟩⟩
          case round =>
           clear H'
           (try clear q21 q2 q18 q113 q11 q1 p6 p21 p2 p18 p113 p11 p1 hx113_0 hfz4_2 hfz4_1 hfz4_0 hfz26_2 hfz26_1 hfz26_0 hfz23_2 hfz23_1 hfz23_0 hfz20_2 hfz20_1 hfz20_0 hfz12_2 hfz12_1 hfz12_0 hfz11_2 hfz11_1 hfz11_0 hfz10_2 hfz10_1 hfz10_0 hcz4_2 hcz4_1 hcz4_0 hcz26_2 hcz26_1 hcz26_0 hcz23_2 hcz23_1 hcz23_0 hcz20_2 hcz20_1 hcz20_0 hcz12_2 hcz12_1 hcz12_0 hcz11_2 hcz11_1 hcz11_0 hcz10_2 hcz10_1 hcz10_0 c27 c24b0 c24 c22b0 c22 hx21 q21 p21 c19b0 c19 hx18 q18 p18 c17b0 c17 c16b0 c16 c14b0 c14 c13 hx11 q11 p11 c8b2 c8b1 c8b0 c8 c7b2 c7b1 c7b0 c7 p6 c6 hx2 q2 p2 c2 hx1 q1 p1 c1)
           obtain ⟨x5_4, rfl, HA, HK4, BK110, HB⟩ := hrel
           cases gk with
           | zero => exact absurd HA.out (by simp [spec_FontOk.l1])
           | succ k4 =>
            have H := HA.out
            clear HA
            simp only [spec_FontOk.l1] at H
            by_cases c28 : x5_4 < x4_2
            ·rw [if_pos c28] at H
             have c28b0 := dt_ c28
             clear c28
             by_cases c29 : 0 ≤ x4_2
             ·rw [if_pos c29] at H
              have c29b0 := dt_ c29
              clear c29
              by_cases c30 : x4_2 < (a0_0.size : Int)
              ·rw [if_pos c30] at H
               have c30b0 := dt_ c30
               clear c30
               by_cases c32 : 0 ≤ x5_4
               ·rw [if_pos c32] at H
                have c32b0 := dt_ c32
                clear c32
                by_cases c33 : x5_4 < (a0_0.size : Int)
                ·rw [if_pos c33] at H
                 have c33b0 := dt_ c33
                 clear c33
                 by_cases c35 : (bt a0_0 x4_2) = (bt a0_0 x5_4)
                 ·rw [if_pos c35] at H
                  have c35b0 := beq_iff_eq.mpr c35
                  have c35b1 := bne_eq_false_iff_eq.mpr c35
                  clear c35
                  obtain rfl := Option.some.inj H
                  have hcz36_0 : wr.cell? ⟨gb110, 0, none⟩ = some (.string a0_0) := (blk_cell BK110.out 0).trans rfl
                  have hcz36_1 : wr.cell? ⟨gb110, 1, none⟩ = some (.slice A0_1 l0_1.length c0_1) := (blk_cell BK110.out 1).trans rfl
                  have hcz36_2 : wr.cell? ⟨gb110, 2, none⟩ = some (.slice A0_2 l0_2.length c0_2) := (blk_cell BK110.out 2).trans rfl
                  have hfz36_0 := fz_ BK110.out 0
                  have hfz36_1 := fz_ BK110.out 1
                  have hfz36_2 := fz_ BK110.out 2
                  have p31 : 0 ≤ (x4_2 : Int) := od_ as_
                  have q31 : x4_2 < (a0_0.size : Int) := od_ as_
                  have hx31 := bt_at a0_0 x4_2
                  replace p31 := eq_true p31
                  replace q31 := eq_true q31
                  have p34 : 0 ≤ (x5_4 : Int) := od_ as_
                  have q34 : x5_4 < (a0_0.size : Int) := od_ as_
                  have hx34 := bt_at a0_0 x5_4
                  replace p34 := eq_true p34
                  replace q34 := eq_true q34
                  go_wp2
                  repeat (go_quiet (fail); try go_wp2)
                  go_ret
                  exact ⟨rb_, bw1_ HB.out GE110.out⟩
                 ·rw [if_neg c35] at H
                  have c35b0 : ((bt a0_0 x4_2) == (bt a0_0 x5_4)) = false := beq_eq_false_iff_ne.mpr c35
                  have c35b1 : ((bt a0_0 x4_2) != (bt a0_0 x5_4)) = true := bne_iff_ne.mpr c35
                  have H' := M_ H
                  clear H
                  have hcz37_0 : wr.cell? ⟨gb110, 0, none⟩ = some (.string a0_0) := (blk_cell BK110.out 0).trans rfl
                  have hcz37_1 : wr.cell? ⟨gb110, 1, none⟩ = some (.slice A0_1 l0_1.length c0_1) := (blk_cell BK110.out 1).trans rfl
                  have hcz37_2 : wr.cell? ⟨gb110, 2, none⟩ = some (.slice A0_2 l0_2.length c0_2) := (blk_cell BK110.out 2).trans rfl
                  have hfz37_0 := fz_ BK110.out 0
                  have hfz37_1 := fz_ BK110.out 1
                  have hfz37_2 := fz_ BK110.out 2
                  have p31 : 0 ≤ (x4_2 : Int) := od_ as_
                  have q31 : x4_2 < (a0_0.size : Int) := od_ as_
                  have hx31 := bt_at a0_0 x4_2
                  replace p31 := eq_true p31
                  replace q31 := eq_true q31
                  have p34 : 0 ≤ (x5_4 : Int) := od_ as_
                  have q34 : x5_4 < (a0_0.size : Int) := od_ as_
                  have hx34 := bt_at a0_0 x5_4
                  replace p34 := eq_true p34
                  replace q34 := eq_true q34
                  go_wp2
                  repeat (go_quiet (fail); try go_wp2)
                  go_roundg k4
                  case measure => have := HJ1.out; have := HK2.out; have := HJ14.out; have := HK4.out; omega
                  case rel => exact ⟨(wrap64 (x5_4 + 1)), (by first | rfl | (simp; done) | (simp [*]; done)), H', ⟨by have := HJ1.out; have := HK2.out; have := HJ14.out; have := HK4.out; omega⟩, ⟨by refine bk_ ?_; exact BK110.out⟩, ⟨bw1_ HB.out GE110.out⟩⟩
                ·rw [if_neg c33] at H
                 exact absurd H (by simp)
               ·rw [if_neg c32] at H
                exact absurd H (by simp)
              ·rw [if_neg c30] at H
               exact absurd H (by simp)
             ·rw [if_neg c29] at H
              exact absurd H (by simp)
            ·rw [if_neg c28] at H
             have c28b0 := decide_eq_false c28
             clear c28
             have H' := M_ H
             clear H
             go_wp2
             repeat (go_quiet (fail); try go_wp2)
             go_roundg k4
             case measure => have := HJ1.out; have := HK2.out; have := HJ14.out; have := HK4.out; omega
             case rel => exact ⟨(wrap64 (x4_2 + 1)), (by first | rfl | (simp; done) | (simp [*]; done)), H', ⟨by have := HJ1.out; have := HK2.out; have := HJ14.out; have := HK4.out; omega⟩, ⟨by refine bk_ ?_; exact BK110.out⟩, ⟨bw1_ HB.out GE110.out⟩⟩
      ·rw [if_neg c14] at H
       have c14b0 := decide_eq_false c14
       clear c14
       obtain rfl := Option.some.inj H
       go_wp2
       repeat (go_quiet (fail); try go_wp2)
       go_ret
       exact ⟨rb_, bw1_ HB.out GE110.out⟩

end Go.Proofs.Ytilbngklgjjblaa.Q
