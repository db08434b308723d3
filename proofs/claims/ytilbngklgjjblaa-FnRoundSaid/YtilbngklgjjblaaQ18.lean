/- Contracts of Go functions over this translation. Conditions: those that each theorem names. -/
import Derived.Test.YtilbngklgjjblaaQ0
import Derived.Test.YtilbngklgjjblaaQ1
import Derived.Test.YtilbngklgjjblaaQ11
import Derived.Test.YtilbngklgjjblaaQ13
import Derived.Test.YtilbngklgjjblaaQ14
import Derived.Test.YtilbngklgjjblaaQ16
import Derived.Test.YtilbngklgjjblaaQ17
namespace Go.Proofs.Ytilbngklgjjblaa.Q
open Go.RowKit Go.Proofs.YtilbngklgjjblaaW.PrintWords Go.Proofs.YtilbngklgjjblaaW.PrintLast Go.Proofs.YtilbngklgjjblaaW.PrintMore
attribute [local go_sem] max2_int min2_int max_two min_two max_three min_three max_four min_four
set_option linter.unusedVariables false
set_option linter.unusedSimpArgs false

attribute [local go_sem high] eqA30
def laws_ints.l0 : Nat → List Int → List Int → Int → Int → Option (Bool)
  | 0, _, _, _, _ => none
  | k + 1, x0, x1, x12, x13 => if x13 < x12 then (if 0 ≤ x13 then (if x13 < (x0.length : Int) then (if x13 < (x1.length : Int) then (if (rd x0 x13) = (rd x1 x13) then (laws_ints.l0 k x0 x1 x12 (wrap64 (x13 + 1))) else (some false)) else (none)) else (none)) else (none)) else (some true)
def laws_ints.f (k : Nat) (l0 : List Int) (l1 : List Int) : Option (Bool) := if (l0.length : Int) = (l1.length : Int) then (laws_ints.l0 k l0 l1 (l0.length : Int) 0) else (some false)
theorem laws_ints.mono_l : ∀ k, (∀ y0 y1 y2 y3, LeO (laws_ints.l0 k y0 y1 y2 y3) (laws_ints.l0 (k + 1) y0 y1 y2 y3))
  | 0 => fun _ _ _ _ r h => by simp [laws_ints.l0] at h
  | k + 1 => by
    have ih0 := laws_ints.mono_l k
    · intro y0 y1 y2 y3
      unfold laws_ints.l0
      repeat' first | (with_reducible first | exact ih0 _ _ _ _ | exact LeO.refl _ | exact LeO.none _ | refine LeO.ite ?_ ?_ | refine LeO.bind ?_ (fun _ => ?_)) | exact ih0 _ _ _ _ | exact LeO.none _ | refine LeO.ite ?_ ?_ | refine LeO.bind ?_ (fun _ => ?_)
theorem laws_ints.mono : ∀ a0 a1 k, LeO (laws_ints.f k a0 a1) (laws_ints.f (k + 1) a0 a1) := by
 intro a0 a1 k
 have ih0 := laws_ints.mono_l k
 unfold laws_ints.f
 repeat' first | (with_reducible first | exact ih0 _ _ _ _ | exact LeO.refl _ | exact LeO.none _ | refine LeO.ite ?_ ?_ | refine LeO.bind ?_ (fun _ => ?_)) | exact ih0 _ _ _ _ | exact LeO.none _ | refine LeO.ite ?_ ?_ | refine LeO.bind ?_ (fun _ => ?_)
set_option maxHeartbeats 8000000 in
set_option maxRecDepth 100000 in
theorem laws_ints.calls (k : Nat) (A0 : Option Addr) (c0 : Nat) (l0 : List Int) (A1 : Option Addr) (c1 : Nat) (l1 : List Int) (r : Bool) (w : World) (hr0 : Kd.C (Kd.int .i64) w A0 l0.length l0) (hc0 : l0.length ≤ c0) (hr1 : Kd.C (Kd.int .i64) w A1 l1.length l1) (hc1 : l1.length ≤ c1) (h : laws_ints.f k l0 l1 = some r) :
    Calls Try.prog 26 #[.slice A0 l0.length c0, .slice A1 l1.length c1] w fun e w' => e = .returned (.bool r) ∧ Drawn0 w w' := by
 have HR0 := M_ hr0
 have HC0 := M_ hc0
 clear hr0 hc0
 have HR1 := M_ hr1
 have HC1 := M_ hc1
 clear hr1 hc1
 have H : (if (l0.length : Int) = (l1.length : Int) then (laws_ints.l0 k l0 l1 (l0.length : Int) 0) else (some false)) = some r := h
 clear h
 by_cases c3 : (l0.length : Int) = (l1.length : Int)
 ·rw [if_pos c3] at H
  have c3b0 := beq_iff_eq.mpr c3
  have c3b1 := bne_eq_false_iff_eq.mpr c3
  have c3b2 : (l0.length == l1.length) = true := by first | simpa using c3 | (simp at c3 ⊢; omega)
  clear c3
  have H' := M_ H
  clear H
  go_enter Try.func26, Try.ntmps26
  go_wp2
  repeat (go_quiet (fail); try go_wp2)
  go_loopg [13] k (fun kq v13 w' => ∃ (x13_1 : Int), v13 = .int .i64 x13_1 ∧ Aside0 (laws_ints.l0 kq l0 l1 (l0.length : Int) x13_1 = some r) ∧ Aside0 (kq ≤ k) ∧ Drawn0 w w')
  case atStart => exact ⟨(0), (by first | rfl | (simp; done) | (simp [*]; done)), H', ⟨Nat.le_refl _⟩, dr_⟩
  case round =>
   clear H'
   (try clear c3b2 c3b1 c3b0 c3 p2 c2 c1)
   obtain ⟨x13_1, rfl, HA, HK1, ⟨m1, rfl⟩⟩ := hrel
   cases gk with
   | zero => exact absurd HA.out (by simp [laws_ints.l0])
   | succ k1 =>
    have H := HA.out
    clear HA
    simp only [laws_ints.l0] at H
    by_cases c4 : x13_1 < (l0.length : Int)
    ·rw [if_pos c4] at H
     have c4b0 := dt_ c4
     clear c4
     by_cases c5 : 0 ≤ x13_1
     ·rw [if_pos c5] at H
      have c5b0 := dt_ c5
      clear c5
      by_cases c6 : x13_1 < (l0.length : Int)
      ·rw [if_pos c6] at H
       have c6b0 := dt_ c6
       clear c6
       by_cases c7 : x13_1 < (l1.length : Int)
       ·rw [if_pos c7] at H
        have c7b0 := dt_ c7
        clear c7
        by_cases c8 : (rd l0 x13_1) = (rd l1 x13_1)
        ·rw [if_pos c8] at H
         have c8b0 := beq_iff_eq.mpr c8
         have c8b1 := bne_eq_false_iff_eq.mpr c8
         clear c8
         have H' := M_ H
         clear H
         have p441 : 0 ≤ (x13_1 : Int) := od_ as_
         have q441 : x13_1 < (l0.length : Int) := od_ as_
         obtain ⟨ad441, e441, hx441_0⟩ := Kd.at_int HR0.out x13_1 p441 q441
         cases e441
         replace p441 := eq_true p441
         replace q441 := eq_true q441
         have p442 : 0 ≤ (x13_1 : Int) := od_ as_
         have q442 : x13_1 < (l1.length : Int) := od_ as_
         obtain ⟨ad442, e442, hx442_0⟩ := Kd.at_int HR1.out x13_1 p442 q442
         cases e442
         replace p442 := eq_true p442
         replace q442 := eq_true q442
         go_wp2
         repeat (go_quiet (fail); try go_wp2)
         go_roundg k1
         case measure => have := HK1.out; omega
         case rel => exact ⟨(wrap64 (x13_1 + 1)), (by first | rfl | (simp; done) | (simp [*]; done)), H', ⟨by have := HK1.out; omega⟩, dr_⟩
        ·rw [if_neg c8] at H
         have c8b0 : ((rd l0 x13_1) == (rd l1 x13_1)) = false := beq_eq_false_iff_ne.mpr c8
         have c8b1 : ((rd l0 x13_1) != (rd l1 x13_1)) = true := bne_iff_ne.mpr c8
         obtain rfl := Option.some.inj H
         have p441 : 0 ≤ (x13_1 : Int) := od_ as_
         have q441 : x13_1 < (l0.length : Int) := od_ as_
         obtain ⟨ad441, e441, hx441_0⟩ := Kd.at_int HR0.out x13_1 p441 q441
         cases e441
         replace p441 := eq_true p441
         replace q441 := eq_true q441
         have p442 : 0 ≤ (x13_1 : Int) := od_ as_
         have q442 : x13_1 < (l1.length : Int) := od_ as_
         obtain ⟨ad442, e442, hx442_0⟩ := Kd.at_int HR1.out x13_1 p442 q442
         cases e442
         replace p442 := eq_true p442
         replace q442 := eq_true q442
         go_wp2
         repeat (go_quiet (fail); try go_wp2)
         go_ret
         exact ⟨ra_, dr_⟩
       ·rw [if_neg c7] at H
        exact absurd H (by simp)
      ·rw [if_neg c6] at H
       exact absurd H (by simp)
     ·rw [if_neg c5] at H
      exact absurd H (by simp)
    ·rw [if_neg c4] at H
     have c4b0 := decide_eq_false c4
     clear c4
     obtain rfl := Option.some.inj H
     go_wp2
     repeat (go_quiet (fail); try go_wp2)
     go_ret
     exact ⟨ra_, dr_⟩
 ·rw [if_neg c3] at H
  have c3b0 : ((l0.length : Int) == (l1.length : Int)) = false := beq_eq_false_iff_ne.mpr c3
  have c3b1 : ((l0.length : Int) != (l1.length : Int)) = true := bne_iff_ne.mpr c3
  have c3b2 : (l0.length == l1.length) = false := by first | simpa using c3 | (simp at c3 ⊢; omega)
  obtain rfl := Option.some.inj H
  go_enter Try.func26, Try.ntmps26
  go_wp2
  repeat (go_quiet (fail); try go_wp2)
  go_ret
  exact ⟨ra_, dr_⟩

mutual
def impl_KindCounts.l0 : Nat → List Int → List (List (S30)) → Int → Int → Option (List Int)
  | 0, _, _, _, _ => none
  | k + 1, x5, x17, x18, x19 => if x19 < x18 then (if 0 ≤ x19 then (if x19 < (x17.length : Int) then (impl_KindCounts.l1 k x5 x17 x18 x19 (rd_L5 x17 x19) ((rd_L5 x17 x19).length : Int) 0) else (none)) else (none)) else (some x5)
def impl_KindCounts.l1 : Nat → List Int → List (List (S30)) → Int → Int → List (S30) → Int → Int → Option (List Int)
  | 0, _, _, _, _, _, _, _ => none
  | k + 1, x5, x17, x18, x19, x23, x24, x25 => if x25 < x24 then (if 0 ≤ x25 then (if x25 < (x23.length : Int) then (if 0 ≤ ((rd_T30 x23 x25).f0) then (if ((rd_T30 x23 x25).f0) < (x5.length : Int) then (impl_KindCounts.l1 k (x5.set (((rd_T30 x23 x25).f0) : Int).toNat (wrap64 ((rd x5 ((rd_T30 x23 x25).f0)) + 1))) x17 x18 x19 x23 x24 (wrap64 (x25 + 1))) else (none)) else (none)) else (none)) else (none)) else (impl_KindCounts.l0 k x5 x17 x18 (wrap64 (x19 + 1)))
end
def impl_KindCounts.f (k : Nat) (a0_0 : ByteArray) (l0_1 : List Int) (l0_2 : List Int) (l1 : List (List (S30))) : Option (List Int) := (impl_MagazineOk.f k a0_0 l0_1 l0_2 l1).bind fun t444 => (if t444 = true then (if 0 ≤ (l1.length : Int) then (if ((l1.length : Int) : Int).toNat ≤ 35184372088832 then (impl_KindCounts.l0 k (List.replicate ((l1.length : Int) : Int).toNat 0) l1 (l1.length : Int) 0) else (none)) else (none)) else (some ([] : List Int)))
theorem impl_KindCounts.mono_l : ∀ k, (∀ y0 y1 y2 y3, LeO (impl_KindCounts.l0 k y0 y1 y2 y3) (impl_KindCounts.l0 (k + 1) y0 y1 y2 y3)) ∧ (∀ y0 y1 y2 y3 y4 y5 y6, LeO (impl_KindCounts.l1 k y0 y1 y2 y3 y4 y5 y6) (impl_KindCounts.l1 (k + 1) y0 y1 y2 y3 y4 y5 y6))
  | 0 => ⟨fun _ _ _ _ r h => by simp [impl_KindCounts.l0] at h, fun _ _ _ _ _ _ _ r h => by simp [impl_KindCounts.l1] at h⟩
  | k + 1 => by
    obtain ⟨ih0, ih1⟩ := impl_KindCounts.mono_l k
    refine ⟨?_, ?_⟩ <;> intros <;> (first | unfold impl_KindCounts.l0 | unfold impl_KindCounts.l1) <;> repeat' first | (with_reducible first | exact ih0 _ _ _ _ | exact ih1 _ _ _ _ _ _ _ | exact impl_MagazineOk.mono _ _ _ _ _ | exact LeO.refl _ | exact LeO.none _ | refine LeO.ite ?_ ?_ | refine LeO.bind ?_ (fun _ => ?_)) | exact ih0 _ _ _ _ | exact ih1 _ _ _ _ _ _ _ | exact impl_MagazineOk.mono _ _ _ _ _ | exact LeO.none _ | refine LeO.ite ?_ ?_ | refine LeO.bind ?_ (fun _ => ?_)
theorem impl_KindCounts.mono : ∀ a0 a1 a2 a3 k, LeO (impl_KindCounts.f k a0 a1 a2 a3) (impl_KindCounts.f (k + 1) a0 a1 a2 a3) := by
 intro a0 a1 a2 a3 k
 obtain ⟨ih0, ih1⟩ := impl_KindCounts.mono_l k
 unfold impl_KindCounts.f
 repeat' first | (with_reducible first | exact ih0 _ _ _ _ | exact ih1 _ _ _ _ _ _ _ | exact impl_MagazineOk.mono _ _ _ _ _ | exact LeO.refl _ | exact LeO.none _ | refine LeO.ite ?_ ?_ | refine LeO.bind ?_ (fun _ => ?_)) | exact ih0 _ _ _ _ | exact ih1 _ _ _ _ _ _ _ | exact impl_MagazineOk.mono _ _ _ _ _ | exact LeO.none _ | refine LeO.ite ?_ ?_ | refine LeO.bind ?_ (fun _ => ?_)
set_option maxHeartbeats 8000000 in
set_option maxRecDepth 100000 in
theorem impl_KindCounts.calls (k : Nat) (a0_0 : ByteArray) (A0_1 : Option Addr) (c0_1 : Nat) (l0_1 : List Int) (A0_2 : Option Addr) (c0_2 : Nat) (l0_2 : List Int) (A1 : Option Addr) (c1 : Nat) (l1 : List (List (S30))) (r : List Int) (w : World) (hr0_1 : Kd.C (Kd.int .i64) w A0_1 l0_1.length l0_1) (hc0_1 : l0_1.length ≤ c0_1) (hr0_2 : Kd.C (Kd.int .i64) w A0_2 l0_2.length l0_2) (hc0_2 : l0_2.length ≤ c0_2) (hr1 : Kd.C (Kd.slice 30 k30) w A1 l1.length l1) (hc1 : l1.length ≤ c1) (h : impl_KindCounts.f k a0_0 l0_1 l0_2 l1 = some r) :
    Calls Try.prog 27 #[.agg #[.string a0_0, .slice A0_1 l0_1.length c0_1, .slice A0_2 l0_2.length c0_2], .slice A1 l1.length c1] w fun e w' => ∃ v0_ : Value, e = .returned (v0_) ∧ Kd.R (Kd.int .i64) 3 w' w.heap.size (fun _ => True) v0_ r ∧ Below w.heap.size w w' := by
 have hu25 := Try.underlying25
 have hu30 := Try.underlying30
 have HR0_1 := M_ hr0_1
 have HC0_1 := M_ hc0_1
 clear hr0_1 hc0_1
 have HR0_2 := M_ hr0_2
 have HC0_2 := M_ hc0_2
 clear hr0_2 hc0_2
 have HR1 := M_ hr1
 have HC1 := M_ hc1
 clear hr1 hc1
 have HB := M_ (Below.refl w.heap.size w)
 have H : ((impl_MagazineOk.f k a0_0 l0_1 l0_2 l1).bind fun t444 => (if t444 = true then (if 0 ≤ (l1.length : Int) then (if ((l1.length : Int) : Int).toNat ≤ 35184372088832 then (impl_KindCounts.l0 k (List.replicate ((l1.length : Int) : Int).toNat 0) l1 (l1.length : Int) 0) else (none)) else (none)) else (some ([] : List Int)))) = some r := h
 clear h
 replace H := bs_ H
 obtain ⟨t444, A30, H⟩ := H
 (try dsimp only at H)
 have A3 := M_ A30
 clear A30
 by_cases c4 : t444 = true
 ·subst c4
  rw [if_pos rfl] at H
  by_cases c5 : 0 ≤ (l1.length : Int)
  ·rw [if_pos c5] at H
   have c5b0 := eq_true c5
   have c5b1 := dt_ c5
   clear c5
   by_cases c6 : ((l1.length : Int) : Int).toNat ≤ 35184372088832
   ·rw [if_pos c6] at H
    have c6b0 := eq_true c6
    have c6b1 := dt_ c6
    clear c6
    obtain ⟨y445, hy445⟩ : ∃ y_ : List Int, y_ = (List.replicate ((l1.length : Int) : Int).toNat 0) := ⟨_, rfl⟩
    replace H : (impl_KindCounts.l0 k y445 l1 (l1.length : Int) 0) = some r := by first | (rw [hy445]; with_reducible exact H) | (have H2_ := (Option.bind_some _ _).symm.trans H; rw [hy445]; with_reducible exact H2_) | (have H2_ := (Option.bind_some _ _).symm.trans H; with_reducible exact H2_) | with_reducible exact H | (rw [hy445]; exact H) | exact H
    have Ny445 := M_ hy445
    clear hy445
    have H' := M_ H
    clear H
    go_enter Try.func27, Try.ntmps27
    go_wp2_with (first | ((with_reducible refine gate_dst (N := 2) rfl ?_); refine be_ 2 #[.string a0_0, .slice A0_1 l0_1.length c0_1, .slice A0_2 l0_2.length c0_2] 25 ?_; intro gb443 hg w7 hbox hb; have z_ := t3_ (bS_ (bw0_ HB.out) hb) hbox (gv_ hg (bw0_ HB.out) : w.heap.size ≤ gb443); clear HB; obtain ⟨HB, BK443, GE443⟩ := z_; clear hb hbox hg; have hcz8_0 := cz_ BK443.out 0 (.string a0_0); have hcz8_1 := cz_ BK443.out 1 (.slice A0_1 l0_1.length c0_1); have hcz8_2 := cz_ BK443.out 2 (.slice A0_2 l0_2.length c0_2); have hfz8_0 := fz_ BK443.out 0; have hfz8_1 := fz_ BK443.out 1; have hfz8_2 := fz_ BK443.out 2) | ((with_reducible refine gate_callee (f := 44) rfl ?_); refine gl_ (some 12) Try.func44 #[.agg #[.string a0_0, .slice A0_1 l0_1.length c0_1, .slice A0_2 l0_2.length c0_2], .slice A1 l1.length c1] ?_; (with_reducible refine (impl_MagazineOk.calls k a0_0 _ _ l0_1 _ _ l0_2 _ _ l1 true _ ?side1 ?side2 ?side3 ?side4 ?side5 ?side6 A3.out).mono ?_); (case side1 => exact kC_ HR0_1.out HB.out); (case side2 => exact HC0_1.out); (case side3 => exact kC_ HR0_2.out HB.out); (case side4 => exact HC0_2.out); (case side5 => exact kC_ HR1.out HB.out); (case side6 => exact HC1.out); rintro e w9 ⟨rfl, hb⟩; refine ⟨_, rfl, ?_⟩; have z_ := t2_ (bB_ (bk_ BK443.out) hb) (bS_ (bw1_ HB.out GE443.out) hb); (try clear BK443); clear HB; obtain ⟨BK443, HB⟩ := z_; (try clear hb)) | ((with_reducible refine gate_dst (N := 16) rfl ?_); refine Kd.R_make (Kd.int .i64) _ 3 rfl (N := 16) rfl 23 _ _ rfl (l1.length : Int) rfl rfl Try.underlying23 (.int .i64 0) 8 info3 rfl (by decide) (by omega) 0 (ok := fun _ => True) (okp := fun _ => True) rfl (fun _ hk => hk) trivial (od_ as_) (Nat.le_trans (Nat.mul_le_mul_right _ (od_ as_ : (l1.length : Int).toNat ≤ 35184372088832)) (by omega)) (Below.refl _ _) (Nat.le_refl _) ?_; intro v446 w10 ho11 hb hg_ hnew_; clear hg_ hnew_; (first | rw [← Ny445.out] at ho11 | (simp only [Int.reduceToNat] at ho11; rw [← Ny445.out] at ho11)); have z_ := t3_ (Kd.R_lower ho11 (below_size (bw1_ HB.out GE443.out))) (bB_ (bk_ BK443.out) hb) (bS_ (bw1_ HB.out GE443.out) hb); (try clear BK443); clear HB; obtain ⟨HO447, BK443, HB⟩ := z_; clear hb ho11))
    go_loopg [19] k (fun kq v19 w' => ∃ (x5_1 : List Int) (x19_1 : Int), v19 = .int .i64 x19_1 ∧ Aside0 (impl_KindCounts.l0 kq x5_1 l1 (l1.length : Int) x19_1 = some r) ∧ Aside0 (kq ≤ k) ∧ Aside0 (Kd.R (Kd.int .i64) 3 w' w.heap.size (fun _ => True) v446 x5_1) ∧ Aside0 (w'.heap[gb443]? = some (.cells #[.string a0_0, (.slice A0_1 l0_1.length c0_1), (.slice A0_2 l0_2.length c0_2)] 25 (0, 0))) ∧ Aside0 (Below w.heap.size w w'))
    case atStart => exact ⟨(y445), (0), (by first | rfl | (simp; done) | (simp [*]; done)), H', ⟨Nat.le_refl _⟩, ⟨by refine kR_ ?_; exact HO447.out⟩, ⟨by refine bk_ ?_; exact BK443.out⟩, ⟨bw1_ HB.out GE443.out⟩⟩
    case round =>
     clear H'
     (try clear hfz8_2 hfz8_1 hfz8_0 hcz8_2 hcz8_1 hcz8_0 c6b1 c6b0 c6 c5b1 c5b0 c5 c4 p2 c2 c1)
     obtain ⟨x5_1, x19_1, rfl, HA, HK1, HO_5, BK443, HB⟩ := hrel
     cases gk with
     | zero => exact absurd HA.out (by simp [impl_KindCounts.l0])
     | succ k1 =>
      have H := HA.out
      clear HA
      simp only [impl_KindCounts.l0] at H
      by_cases c12 : x19_1 < (l1.length : Int)
      ·rw [if_pos c12] at H
       have c12b0 := dt_ c12
       clear c12
       by_cases c13 : 0 ≤ x19_1
       ·rw [if_pos c13] at H
        have c13b0 := dt_ c13
        clear c13
        by_cases c14 : x19_1 < (l1.length : Int)
        ·rw [if_pos c14] at H
         have c14b0 := dt_ c14
         clear c14
         have H' := M_ H
         clear H
         have p448 : 0 ≤ (x19_1 : Int) := od_ as_
         have q448 : x19_1 < (l1.length : Int) := od_ as_
         obtain ⟨ad448, A448_0, c448_0, e448, hx448_0, hl448_0, hi448_0⟩ := at_L5 HR1.out x19_1 p448 q448
         cases e448
         replace hx448_0 := (HB.out.cell (World.block_lt_of_cell? w _ hx448_0)).trans hx448_0
         have HR448_0 := M_ hi448_0
         have HC448_0 := M_ hl448_0
         clear hi448_0 hl448_0
         replace p448 := eq_true p448
         replace q448 := eq_true q448
         go_wp2
         go_loopg [25] k1 (fun kq v25 w' => ∃ (x5_2 : List Int) (x25_2 : Int), v25 = .int .i64 x25_2 ∧ Aside0 (impl_KindCounts.l1 kq x5_2 l1 (l1.length : Int) x19_1 (rd_L5 l1 x19_1) ((rd_L5 l1 x19_1).length : Int) x25_2 = some r) ∧ Aside0 (kq ≤ k1) ∧ Aside0 (Kd.R (Kd.int .i64) 3 w' w.heap.size (fun _ => True) v446 x5_2) ∧ Aside0 (w'.heap[gb443]? = some (.cells #[.string a0_0, (.slice A0_1 l0_1.length c0_1), (.slice A0_2 l0_2.length c0_2)] 25 (0, 0))) ∧ Aside0 (Below w.heap.size w w'))
         case atStart => exact ⟨(x5_1), (0), (by first | rfl | (simp; done) | (simp [*]; done)), H', ⟨Nat.le_refl _⟩, ⟨by refine kR_ ?_; exact HO_5.out⟩, ⟨by refine bk_ ?_; exact BK443.out⟩, ⟨bw1_ HB.out GE443.out⟩⟩
         case round =>
          clear H'
          (try clear q448 p448 p2 hx448_0 hfz8_2 hfz8_1 hfz8_0 hcz8_2 hcz8_1 hcz8_0 c14b0 c14 c13b0 c13 c12b0 c12 c6b1 c6b0 c6 c5b1 c5b0 c5 hx4 q4 p4 c4 p2 c2 c1)
          obtain ⟨x5_2, x25_2, rfl, HA, HK2, HO_5, BK443, HB⟩ := hrel
          cases gk with
          | zero => exact absurd HA.out (by simp [impl_KindCounts.l1])
          | succ k2 =>
           have H := HA.out
           clear HA
           simp only [impl_KindCounts.l1] at H
           by_cases c15 : x25_2 < ((rd_L5 l1 x19_1).length : Int)
           ·rw [if_pos c15] at H
            have c15b0 := dt_ c15
            clear c15
            by_cases c16 : 0 ≤ x25_2
            ·rw [if_pos c16] at H
             have c16b0 := dt_ c16
             clear c16
             by_cases c17 : x25_2 < ((rd_L5 l1 x19_1).length : Int)
             ·rw [if_pos c17] at H
              have c17b0 := dt_ c17
              clear c17
              by_cases c18 : 0 ≤ ((rd_T30 (rd_L5 l1 x19_1) x25_2).f0)
              ·rw [if_pos c18] at H
               have c18b0 := dt_ c18
               clear c18
               by_cases c19 : ((rd_T30 (rd_L5 l1 x19_1) x25_2).f0) < (x5_2.length : Int)
               ·rw [if_pos c19] at H
                have c19b0 := dt_ c19
                clear c19
                obtain ⟨y452, hy452⟩ : ∃ y_ : List Int, y_ = (x5_2.set (((rd_T30 (rd_L5 l1 x19_1) x25_2).f0) : Int).toNat (wrap64 ((rd x5_2 ((rd_T30 (rd_L5 l1 x19_1) x25_2).f0)) + 1))) := ⟨_, rfl⟩
                replace H : (impl_KindCounts.l1 k2 y452 l1 (l1.length : Int) x19_1 (rd_L5 l1 x19_1) ((rd_L5 l1 x19_1).length : Int) (wrap64 (x25_2 + 1))) = some r := by first | (rw [hy452]; with_reducible exact H) | (have H2_ := (Option.bind_some _ _).symm.trans H; rw [hy452]; with_reducible exact H2_) | (have H2_ := (Option.bind_some _ _).symm.trans H; with_reducible exact H2_) | with_reducible exact H | (rw [hy452]; exact H) | exact H
                have Ny452 := M_ hy452
                clear hy452
                have H' := M_ H
                clear H
                have p449 : 0 ≤ (x25_2 : Int) := od_ as_
                have q449 : x25_2 < ((rd_L5 l1 x19_1).length : Int) := od_ as_
                obtain ⟨ad449, e449, hx449_0, hx449_1⟩ := at_T30 HR448_0.out x25_2 p449 q449
                cases e449
                replace hx449_0 := (HB.out.cell (World.block_lt_of_cell? w _ hx449_0)).trans hx449_0
                replace hx449_1 := (HB.out.cell (World.block_lt_of_cell? w _ hx449_1)).trans hx449_1
                replace p449 := eq_true p449
                replace q449 := eq_true q449
                go_wp2_with (first | ((with_reducible refine gate_dst (N := 9) rfl ?_); refine be_ 9 #[.int .i64 0, .int .i64 0] 30 ?_; intro gb450 hg w21 hbox hb; have z_ := t6_ (rB_ (kR_ HO_5.out) hb) (bB_ (bk_ BK443.out) hb) (bS_ (bw1_ HB.out GE443.out) hb) hbox (gv_ hg (bw1_ HB.out GE443.out) : w.heap.size ≤ gb450) (by rw [hg]; exact Nat.ne_of_lt (blk_lt (bk_ BK443.out)) : gb443 ≠ gb450); clear HO_5; (try clear BK443); clear HB; obtain ⟨HO_5, BK443, HB, BK450, GE450, NB443_450⟩ := z_; have NB450_443 := M_ NB443_450.out.symm; clear hb hbox hg; have hnb22 := NB450_443.out; have hnc22 := NB443_450.out; have hcz23_0 := cz_ BK450.out 0 (.int .i64 0); have hcz23_1 := cz_ BK450.out 1 (.int .i64 0); have hfz23_0 := fz_ BK450.out 0; have hfz23_1 := fz_ BK450.out 1) | ((with_reducible refine gate_store (t := 30) (p := 9) rfl ?_); refine store_event (t := 30) (p := 9) (v := ?vo_w24) (w1 := ((w21.setCell ⟨gb450, 0, none⟩ (.int .i64 ((rd_T30 (rd_L5 l1 x19_1) x25_2).f0))).setCell ⟨gb450, 1, none⟩ (.int .i64 ((rd_T30 (rd_L5 l1 x19_1) x25_2).f1)))) ?hg ?ho ?hn ?hr ?_; (case ho => rfl); (case hg => rfl); (case hn => rfl); (case hr => first | (go_simp; done) | (go_simp; rfl)); intro w24 hw; have n0_ : Aside0 (Kd.R (Kd.int .i64) 3 w24 w.heap.size (fun _ => True) v446 x5_2) := ⟨(by rw [hw]; exact (by refine kR_ ?_; exact Kd.R_mono (Kd.R_far (p := ⟨gb450, 1, none⟩) (Kd.R_far (p := ⟨gb450, 0, none⟩) (Kd.R_types HO_5.out BK450.out (by decide)) (fun _ hk => hk.2) (.int .i64 ((rd_T30 (rd_L5 l1 x19_1) x25_2).f0))) (fun _ hk => hk.2) (.int .i64 ((rd_T30 (rd_L5 l1 x19_1) x25_2).f1))) (fun _ hk => trivial)))⟩; have n1_ : Aside0 (w24.heap[gb443]? = some (.cells #[.string a0_0, .slice A0_1 l0_1.length c0_1, .slice A0_2 l0_2.length c0_2] 25 (0, 0))) := ⟨(by rw [hw]; exact (by refine bk_ ?_; refine blk_far ?_ NB443_450.out _; refine bk_ ?_; refine blk_far ?_ NB443_450.out _; refine bk_ ?_; exact BK443.out))⟩; have n2_ : Aside0 (w24.heap[gb450]? = some (.cells #[.int .i64 ((rd_T30 (rd_L5 l1 x19_1) x25_2).f0), .int .i64 ((rd_T30 (rd_L5 l1 x19_1) x25_2).f1)] 30 (0, 0))) := ⟨(by rw [hw]; exact (by refine bk_ ?_; refine blk_put (cs := #[.int .i64 ((rd_T30 (rd_L5 l1 x19_1) x25_2).f0), .int .i64 0]) ?_ 1 _ rfl; refine bk_ ?_; refine blk_put (cs := #[.int .i64 0, .int .i64 0]) ?_ 0 _ rfl; refine bk_ ?_; exact BK450.out))⟩; have n3_ : Aside0 (Below w.heap.size w w24) := ⟨(by rw [hw]; exact (bw2_ HB.out GE443.out GE450.out))⟩; clear HO_5 hw; (try clear BK450 BK443); clear HB; have HO_5 := n0_; have BK443 := n1_; have BK450 := n2_; have HB := n3_; clear n0_ n1_ n2_ n3_; have hcz25_0 := cz_ BK450.out 0 (.int .i64 ((rd_T30 (rd_L5 l1 x19_1) x25_2).f0)); have hcz25_1 := cz_ BK450.out 1 (.int .i64 ((rd_T30 (rd_L5 l1 x19_1) x25_2).f1)); have hfz25_0 := fz_ BK450.out 0; have hfz25_1 := fz_ BK450.out 1; obtain ⟨Ao26, co26, eo26⟩ := Kd.R_slice HO_5.out; subst eo26; have p451 : 0 ≤ (((rd_T30 (rd_L5 l1 x19_1) x25_2).f0) : Int) := od_ as_; have q451 : ((rd_T30 (rd_L5 l1 x19_1) x25_2).f0) < (x5_2.length : Int) := od_ as_; obtain ⟨ad451, e451, hx451_0⟩ := Kd.at_int (Kd.R_reads' HO_5.out).2.2 ((rd_T30 (rd_L5 l1 x19_1) x25_2).f0) p451 q451; cases e451; replace p451 := eq_true p451; replace q451 := eq_true q451; have p20 : 0 ≤ (((rd_T30 (rd_L5 l1 x19_1) x25_2).f0) : Int) := od_ as_; have q20 : (((rd_T30 (rd_L5 l1 x19_1) x25_2).f0) : Int) < ((x5_2.length : Int) : Int) := od_ as_; obtain ⟨go20, co20, eo20, gb20, gl20, cl20, HG20⟩ := Kd.R_form HO_5.out (by omega); (first | cases eo20 | (injection eo20 with ea_ en_ ec_; (first | subst ea_ | (injection ea_ with ea_; subst ea_)); subst ec_; clear en_)); have GB20 := M_ gb20; have GG20 := M_ HG20; clear gb20 gl20 HG20; (first | simp only [add_plain] at hx451_0 | skip); obtain ⟨hx20_0, hf20_0⟩ := Kd.R_celln 0 HO_5.out (((rd_T30 (rd_L5 l1 x19_1) x25_2).f0) : Int) p20 q20; replace p20 := eq_true p20; replace q20 := eq_true q20; obtain ⟨hy27_, hz27_⟩ := Kd.R_celln 0 HO_5.out (((rd_T30 (rd_L5 l1 x19_1) x25_2).f0) : Int) (od_ as_) (od_ as_); have HP27 := Kd.R_putg HO_5.out (((rd_T30 (rd_L5 l1 x19_1) x25_2).f0) : Int) (wrap64 ((rd x5_2 ((rd_T30 (rd_L5 l1 x19_1) x25_2).f0)) + 1))) | ((with_reducible refine gate_store (t := 3) (p := 35) rfl ?_); refine store_event (t := 3) (p := 35) (v := ?vo_w28) (w1 := (w24.setCell ⟨go20, (((rd_T30 (rd_L5 l1 x19_1) x25_2).f0) : Int).toNat, none⟩ (.int .i64 (wrap64 ((rd x5_2 ((rd_T30 (rd_L5 l1 x19_1) x25_2).f0)) + 1))))) ?hg ?ho ?hn ?hr ?_; (case ho => rfl); (case hg => rfl); (case hn => rfl); (case hr => first | (go_simp; done) | (go_simp; rfl)); intro w28 hw; have hg : w24.grownBy w28 (some go20) := (by rw [hw]; exact HP27.2); have hp_ : Kd.R (Kd.int .i64) 3 w28 w.heap.size (fun _ => True) (.slice (some ⟨go20, 0, none⟩) x5_2.length co26) y452 := (by rw [hw, Ny452.out]; exact HP27.1); clear HP27; have z_ := t3_ hp_ (blk_grown (g := gb443) (o := .cells #[.string a0_0, .slice A0_1 l0_1.length c0_1, .slice A0_2 l0_2.length c0_2] 25 (0, 0)) (bk_ BK443.out) hg (Kd.R_ne HO_5.out BK443.out (by decide))) (by rw [hw]; exact below_set (HB.out) GB20.out : Below w.heap.size w w28); clear HO_5; (try clear BK450 BK443); clear HB; obtain ⟨HO_5, BK443, HB⟩ := z_; clear hg hw hp_))
                go_roundg k2
                case measure => have := HK1.out; have := HK2.out; omega
                case rel => exact ⟨(y452), (wrap64 (x25_2 + 1)), (by first | rfl | (simp; done) | (simp [*]; done)), H', ⟨by have := HK1.out; have := HK2.out; omega⟩, ⟨by refine kR_ ?_; exact HO_5.out⟩, ⟨by refine bk_ ?_; exact BK443.out⟩, ⟨bw2_ HB.out GE443.out GE450.out⟩⟩
               ·rw [if_neg c19] at H
                exact absurd H (by simp)
              ·rw [if_neg c18] at H
               exact absurd H (by simp)
             ·rw [if_neg c17] at H
              exact absurd H (by simp)
            ·rw [if_neg c16] at H
             exact absurd H (by simp)
           ·rw [if_neg c15] at H
            have c15b0 := decide_eq_false c15
            clear c15
            have H' := M_ H
            clear H
            go_wp2
            go_roundg k2
            case measure => have := HK1.out; have := HK2.out; omega
            case rel => exact ⟨(x5_2), (wrap64 (x19_1 + 1)), (by first | rfl | (simp; done) | (simp [*]; done)), H', ⟨by have := HK1.out; have := HK2.out; omega⟩, ⟨by refine kR_ ?_; exact HO_5.out⟩, ⟨by refine bk_ ?_; exact BK443.out⟩, ⟨bw1_ HB.out GE443.out⟩⟩
        ·rw [if_neg c14] at H
         exact absurd H (by simp)
       ·rw [if_neg c13] at H
        exact absurd H (by simp)
      ·rw [if_neg c12] at H
       have c12b0 := decide_eq_false c12
       clear c12
       obtain rfl := Option.some.inj H
       go_wp2
       go_ret
       exact ⟨_, rb_, by refine kR_ ?_; exact HO_5.out, bw1_ HB.out GE443.out⟩
   ·rw [if_neg c6] at H
    exact absurd H (by simp)
  ·rw [if_neg c5] at H
   exact absurd H (by simp)
 ·replace c4 := Bool.eq_false_iff.mpr c4
  subst c4
  rw [if_neg (show ¬ (false = true) by decide)] at H
  obtain rfl := Option.some.inj H
  go_enter Try.func27, Try.ntmps27
  go_wp2_with (first | ((with_reducible refine gate_dst (N := 2) rfl ?_); refine be_ 2 #[.string a0_0, .slice A0_1 l0_1.length c0_1, .slice A0_2 l0_2.length c0_2] 25 ?_; intro gb443 hg w29 hbox hb; have z_ := t3_ (bS_ (bw0_ HB.out) hb) hbox (gv_ hg (bw0_ HB.out) : w.heap.size ≤ gb443); clear HB; obtain ⟨HB, BK443, GE443⟩ := z_; clear hb hbox hg; have hcz30_0 := cz_ BK443.out 0 (.string a0_0); have hcz30_1 := cz_ BK443.out 1 (.slice A0_1 l0_1.length c0_1); have hcz30_2 := cz_ BK443.out 2 (.slice A0_2 l0_2.length c0_2); have hfz30_0 := fz_ BK443.out 0; have hfz30_1 := fz_ BK443.out 1; have hfz30_2 := fz_ BK443.out 2) | ((with_reducible refine gate_callee (f := 44) rfl ?_); refine gl_ (some 12) Try.func44 #[.agg #[.string a0_0, .slice A0_1 l0_1.length c0_1, .slice A0_2 l0_2.length c0_2], .slice A1 l1.length c1] ?_; (with_reducible refine (impl_MagazineOk.calls k a0_0 _ _ l0_1 _ _ l0_2 _ _ l1 false _ ?side1 ?side2 ?side3 ?side4 ?side5 ?side6 A3.out).mono ?_); (case side1 => exact kC_ HR0_1.out HB.out); (case side2 => exact HC0_1.out); (case side3 => exact kC_ HR0_2.out HB.out); (case side4 => exact HC0_2.out); (case side5 => exact kC_ HR1.out HB.out); (case side6 => exact HC1.out); rintro e w31 ⟨rfl, hb⟩; refine ⟨_, rfl, ?_⟩; have n1_ := M_ (bS_ (bw1_ HB.out GE443.out) hb); (try clear BK443); clear HB; have HB := n1_; clear n1_; (try clear hb)))
  go_ret
  exact ⟨_, rb_, by first | exact Kd.R_nil _ _ _ _ _ | exact Kd.N_nil _ _ _ _ _ | exact Kd.V_nil _ _ _ _ _ | exact Kd.Q_nil _ _ _ _ _ | exact Kd.S_nil _ _ _ _ _, bw1_ HB.out GE443.out⟩

def laws_FnRound_f.f (k : Nat) (l0 : List Int) : Option (Bool) := if (l0.length : Int) > 1048576 then (some true) else ((spec_DrawTakeMatrix.f k l0).bind fun bt453 => ((impl_TakeMatrix.f k bt453.1 bt453.2.1 bt453.2.2.1 bt453.2.2.2.1 bt453.2.2.2.2).bind fun bt465 => (if bt465.2.2.2 = true then (none) else ((spec_MagazineOk.f k bt453.1 bt453.2.1 bt453.2.2.1 bt453.2.2.2.1).bind fun t472 => (if t472 = true then (if bt453.2.2.2.2 < 0 then (some true) else (if bt453.2.2.2.2 ≥ (bt453.2.2.2.1.length : Int) then (some true) else (if 0 ≤ bt453.2.2.2.2 then (if bt453.2.2.2.2 < (bt453.2.2.2.1.length : Int) then (some (((rd_L5 bt453.2.2.2.1 bt453.2.2.2.2).length : Int) == 0)) else (none)) else (none)))) else (some true))))))
theorem laws_FnRound_f.mono : ∀ a0 k, LeO (laws_FnRound_f.f k a0) (laws_FnRound_f.f (k + 1) a0) := by
 intro a0 k
 unfold laws_FnRound_f.f
 repeat' first | (with_reducible first | exact impl_DropMatrix.mono _ _ _ _ _ _ _ | exact impl_FallOf.mono _ _ _ | exact impl_KindCounts.mono _ _ _ _ _ | exact impl_MatrixOk.mono _ _ _ _ _ _ | exact impl_TakeMatrix.mono _ _ _ _ _ _ | exact laws_ints.mono _ _ _ | exact spec_DrawTakeMatrix.mono _ _ | exact spec_MagazineOk.mono _ _ _ _ _ | exact LeO.refl _ | exact LeO.none _ | refine LeO.ite ?_ ?_ | refine LeO.bind ?_ (fun _ => ?_)) | exact impl_DropMatrix.mono _ _ _ _ _ _ _ | exact impl_FallOf.mono _ _ _ | exact impl_KindCounts.mono _ _ _ _ _ | exact impl_MatrixOk.mono _ _ _ _ _ _ | exact impl_TakeMatrix.mono _ _ _ _ _ _ | exact laws_ints.mono _ _ _ | exact spec_DrawTakeMatrix.mono _ _ | exact spec_MagazineOk.mono _ _ _ _ _ | exact LeO.none _ | refine LeO.ite ?_ ?_ | refine LeO.bind ?_ (fun _ => ?_)
set_option maxHeartbeats 8000000 in
set_option maxRecDepth 100000 in
theorem laws_FnRound_f.calls (k : Nat) (A0 : Option Addr) (c0 : Nat) (l0 : List Int) (r : Bool) (w : World) (hr0 : Kd.C (Kd.int .u8) w A0 l0.length l0) (hc0 : l0.length ≤ c0) (h : laws_FnRound_f.f k l0 = some r) :
    Calls Try.prog 3 #[.slice A0 l0.length c0] w fun e w' => e = .returned (.bool r) ∧ Below w.heap.size w w' := by
 have hu25 := Try.underlying25
 have hu30 := Try.underlying30
 have HR0 := M_ hr0
 have HC0 := M_ hc0
 clear hr0 hc0
 have HB := M_ (Below.refl w.heap.size w)
 have H : (if (l0.length : Int) > 1048576 then (some true) else ((spec_DrawTakeMatrix.f k l0).bind fun bt453 => ((impl_TakeMatrix.f k bt453.1 bt453.2.1 bt453.2.2.1 bt453.2.2.2.1 bt453.2.2.2.2).bind fun bt465 => (if bt465.2.2.2 = true then (none) else ((spec_MagazineOk.f k bt453.1 bt453.2.1 bt453.2.2.1 bt453.2.2.2.1).bind fun t472 => (if t472 = true then (if bt453.2.2.2.2 < 0 then (some true) else (if bt453.2.2.2.2 ≥ (bt453.2.2.2.1.length : Int) then (some true) else (if 0 ≤ bt453.2.2.2.2 then (if bt453.2.2.2.2 < (bt453.2.2.2.1.length : Int) then (some (((rd_L5 bt453.2.2.2.1 bt453.2.2.2.2).length : Int) == 0)) else (none)) else (none)))) else (some true))))))) = some r := h
 clear h
 by_cases c2 : (l0.length : Int) > 1048576
 ·rw [if_pos c2] at H
  have c2b0 : decide (1048576 < (l0.length : Int)) = true := dt_ c2
  have c2b1 : decide (1048576 < l0.length) = true := dt_ (by omega)
  clear c2
  obtain rfl := Option.some.inj H
  go_enter Try.func3, Try.ntmps3
  go_wp2
  go_ret
  exact ⟨rb_, bw0_ HB.out⟩
 ·rw [if_neg c2] at H
  have c2b0 : decide (1048576 < (l0.length : Int)) = false := decide_eq_false c2
  have c2b1 : decide (1048576 < l0.length) = false := decide_eq_false (by omega)
  clear c2
  replace H := bs_ H
  obtain ⟨⟨t453, t454, t457, t460, t463⟩, A30, H⟩ := H
  dsimp only at H
  have A3 := M_ A30
  clear A30
  replace H := bs_ H
  obtain ⟨⟨t465, t468, t469, t470⟩, A40, H⟩ := H
  dsimp only at H
  have A4 := M_ A40
  clear A40
  by_cases c5 : t470 = true
  ·subst c5
   rw [if_pos rfl] at H
   exact absurd H (by simp)
  ·replace c5 := Bool.eq_false_iff.mpr c5
   subst c5
   rw [if_neg (show ¬ (false = true) by decide)] at H
   replace H := bs_ H
   obtain ⟨t472, A60, H⟩ := H
   (try dsimp only at H)
   have A6 := M_ A60
   clear A60
   by_cases c7 : t472 = true
   ·subst c7
    rw [if_pos rfl] at H
    by_cases c8 : t463 < 0
    ·rw [if_pos c8] at H
     have c8b0 := dt_ c8
     clear c8
     obtain rfl := Option.some.inj H
     go_enter Try.func3, Try.ntmps3
     go_wp2_with (first | ((with_reducible refine gate_callee (f := 20) rfl ?_); refine gl_ (some 19) Try.func20 #[.slice A0 l0.length c0] ?_; (with_reducible refine (spec_DrawTakeMatrix.calls k _ _ l0 t453 t454 t457 t460 t463 _ ?side1 ?side2 A3.out).mono ?_); (case side1 => exact kD_ HR0.out); (case side2 => exact HC0.out); rintro e w9 ⟨v455, v458, v461, rfl, ho0, ho1, ho2, hb⟩; refine ⟨_, rfl, ?_⟩; have z_ := t4_ (Kd.R_lower ho0 (below_size (bw0_ HB.out))) (Kd.R_lower ho1 (below_size (bw0_ HB.out))) (Kd.N_lower (Kd.N_mono (ok' := fun k_ => some k_ ≠ (v455 : Value).ownBlock ∧ some k_ ≠ (v458 : Value).ownBlock) (Kd.S_N (Kd.S_bound (Kd.S_apart' (Kd.S_apart' ho2 (Kd.R_typed ho0) (by decide)) (Kd.R_typed ho1) (by decide)))) (fun k_ hk_ => ⟨hk_.1.1.2, hk_.1.2⟩)) (below_size (bw0_ HB.out))) (bS_ (bw0_ HB.out) hb); clear HB; obtain ⟨HO456, HO459, HO462, HB⟩ := z_; (try clear ho2 ho1 ho0 hb)) | ((with_reducible refine gate_dst (N := 3) rfl ?_); (try (refine gate_guard (by rfl) ?_; dsimp only)); refine be_ 3 #[.string (⟨#[]⟩ : ByteArray), .slice none 0 0, .slice none 0 0] 25 ?_; intro gb464 hg w10 hbox hb; have z_ := t6_ (rB_ (kR_ HO456.out) hb) (rB_ (kR_ HO459.out) hb) (nB_ (Kd.N_elderB (kN_ HO462.out) gb464 (Nat.le_of_eq hg.symm)) hb) (bS_ (bw0_ HB.out) hb) hbox (gv_ hg (bw0_ HB.out) : w.heap.size ≤ gb464); (try clear HO462 HO459 HO456); clear HB; obtain ⟨HO456, HO459, HO462, HB, BK464, GE464⟩ := z_; clear hb hbox hg; have hcz11_0 := cz_ BK464.out 0 (.string (⟨#[]⟩ : ByteArray)); have hcz11_1 := cz_ BK464.out 1 (.slice none 0 0); have hcz11_2 := cz_ BK464.out 2 (.slice none 0 0); have hfz11_0 := fz_ BK464.out 0; have hfz11_1 := fz_ BK464.out 1; have hfz11_2 := fz_ BK464.out 2; obtain ⟨Ao12, co12, eo12⟩ := Kd.R_slice HO456.out; subst eo12; obtain ⟨Ao13, co13, eo13⟩ := Kd.R_slice HO459.out; subst eo13; obtain ⟨Ao14, co14, eo14⟩ := Kd.N_slice HO462.out; subst eo14) | ((with_reducible refine gate_callee (f := 21) rfl ?_); refine gl_ (some 27) Try.func21 #[.agg #[.string t453, .slice Ao12 t454.length co12, .slice Ao13 t457.length co13], .slice Ao14 t460.length co14, .int .i64 t463] ?_; (with_reducible refine (impl_TakeMatrix.calls k t453 _ _ t454 _ _ t457 _ _ t460 t463 t465 t468 t469 false _ ?side1 ?side2 ?side3 ?side4 ?side5 ?side6 A4.out).mono ?_); (case side1 => refine (Kd.R_reads' (e := 3) (base := w.heap.size) (ok := fun k_ => some k_ ≠ (.slice Ao13 t457.length co13 : Value).ownBlock) (n := t454.length) (c := co12) ?_).2.2; exact (by refine kR_ ?_; exact (fR3_ HO456.out BK464.out))); (case side2 => exact (Kd.R_reads' HO456.out).2.1); (case side3 => refine (Kd.R_reads' (e := 3) (base := w.heap.size) (ok := fun k_ => some k_ ≠ (.slice Ao12 t454.length co12 : Value).ownBlock) (n := t457.length) (c := co13) ?_).2.2; exact (by refine kR_ ?_; exact (fR3_ HO459.out BK464.out))); (case side4 => exact (Kd.R_reads' HO459.out).2.1); (case side5 => refine (Kd.N_reads' (e := 34) (base := w.heap.size) (ok := fun k_ => ((some k_ ≠ (.slice Ao12 t454.length co12 : Value).ownBlock ∧ some k_ ≠ (.slice Ao13 t457.length co13 : Value).ownBlock) ∧ k_ ≠ gb464)) (n := t460.length) (c := co14) ?_).2.2; exact (by refine kN_ ?_; exact (Kd.N_mono (Kd.N_far (p := ⟨gb464, 2, none⟩) (Kd.N_far (p := ⟨gb464, 1, none⟩) (Kd.N_far (p := ⟨gb464, 0, none⟩) (Kd.N_mono HO462.out (fun k_ hk => (⟨hk, hk.2⟩ : _ ∧ k_ ≠ gb464))) (fun _ hk => hk.2) (.string t453)) (fun _ hk => hk.2) (.slice Ao12 t454.length co12)) (fun _ hk => hk.2) (.slice Ao13 t457.length co13)) (fun _ h_ => h_.1)))); (case side6 => exact (Kd.N_reads' HO462.out).2.1); rintro e w15 ⟨v466, rfl, ho0, hb⟩; refine ⟨_, rfl, ?_⟩; have z_ := t5_ (rB_ (by refine kR_ ?_; exact (fR3_ HO456.out BK464.out)) hb) (rB_ (by refine kR_ ?_; exact (fR3_ HO459.out BK464.out)) hb) (Kd.N_elder' (by refine kN_ ?_; exact (Kd.N_mono (Kd.N_far (p := ⟨gb464, 2, none⟩) (Kd.N_far (p := ⟨gb464, 1, none⟩) (Kd.N_far (p := ⟨gb464, 0, none⟩) (Kd.N_mono HO462.out (fun k_ hk => (⟨hk, hk.2⟩ : _ ∧ k_ ≠ gb464))) (fun _ hk => hk.2) (.string t453)) (fun _ hk => hk.2) (.slice Ao12 t454.length co12)) (fun _ hk => hk.2) (.slice Ao13 t457.length co13)) (fun _ h_ => h_.1))) (Kd.N_base ho0) hb) (bB_ (g := gb464) (o := .cells #[.string t453, .slice Ao12 t454.length co12, .slice Ao13 t457.length co13] 25 (0, 0)) (by refine bk_ ?_; refine blk_put (cs := #[.string t453, .slice Ao12 t454.length co12, .slice none 0 0]) ?_ 2 _ rfl; refine bk_ ?_; refine blk_put (cs := #[.string t453, .slice none 0 0, .slice none 0 0]) ?_ 1 _ rfl; refine bk_ ?_; refine blk_put (cs := #[.string (⟨#[]⟩ : ByteArray), .slice none 0 0, .slice none 0 0]) ?_ 0 _ rfl; refine bk_ ?_; exact BK464.out) hb) (bS_ (bw1_ HB.out GE464.out) hb); (try clear BK464 HO462 HO459 HO456); clear HB; obtain ⟨HO456, HO459, HO462, BK464, HB⟩ := z_; (try clear ho0 hb)) | ((with_reducible refine gate_dst (N := 7) rfl ?_); (try (refine gate_guard (by rfl) ?_; dsimp only)); refine be_ 7 #[.int .i64 0, .int .i64 0] 30 ?_; intro gb471 hg w16 hbox hb; have z_ := t8_ (rB_ (kR_ HO456.out) hb) (rB_ (kR_ HO459.out) hb) (nB_ (Kd.N_elderB (kN_ HO462.out) gb471 (Nat.le_of_eq hg.symm)) hb) (bB_ (bk_ BK464.out) hb) (bS_ (bw1_ HB.out GE464.out) hb) hbox (gv_ hg (bw1_ HB.out GE464.out) : w.heap.size ≤ gb471) (by rw [hg]; exact Nat.ne_of_lt (blk_lt (bk_ BK464.out)) : gb464 ≠ gb471); (try clear BK464 HO467 HO462 HO459 HO456); clear HB; obtain ⟨HO456, HO459, HO462, BK464, HB, BK471, GE471, NB464_471⟩ := z_; have NB471_464 := M_ NB464_471.out.symm; clear hb hbox hg; have hnb17 := NB471_464.out; have hnc17 := NB464_471.out; have hcz18_0 := cz_ BK471.out 0 (.int .i64 0); have hcz18_1 := cz_ BK471.out 1 (.int .i64 0); have hfz18_0 := fz_ BK471.out 0; have hfz18_1 := fz_ BK471.out 1; have hcz19_0 := cz_ BK464.out 0 (.string t453); have hcz19_1 := cz_ BK464.out 1 (.slice Ao12 t454.length co12); have hcz19_2 := cz_ BK464.out 2 (.slice Ao13 t457.length co13); have hfz19_0 := fz_ BK464.out 0; have hfz19_1 := fz_ BK464.out 1; have hfz19_2 := fz_ BK464.out 2) | ((with_reducible refine gate_callee (f := 22) rfl ?_); refine gl_ (some 35) Try.func22 #[.agg #[.string t453, .slice Ao12 t454.length co12, .slice Ao13 t457.length co13], .slice Ao14 t460.length co14] ?_; (with_reducible refine (spec_MagazineOk.calls k t453 _ _ t454 _ _ t457 _ _ t460 true _ ?side1 ?side2 ?side3 ?side4 ?side5 ?side6 A6.out).mono ?_); (case side1 => refine (Kd.R_reads' (e := 3) (base := w.heap.size) (ok := fun k_ => some k_ ≠ (.slice Ao13 t457.length co13 : Value).ownBlock) (n := t454.length) (c := co12) ?_).2.2; exact (by refine kR_ ?_; exact (fR2_ HO456.out BK471.out))); (case side2 => exact (Kd.R_reads' HO456.out).2.1); (case side3 => refine (Kd.R_reads' (e := 3) (base := w.heap.size) (ok := fun k_ => some k_ ≠ (.slice Ao12 t454.length co12 : Value).ownBlock) (n := t457.length) (c := co13) ?_).2.2; exact (by refine kR_ ?_; exact (fR2_ HO459.out BK471.out))); (case side4 => exact (Kd.R_reads' HO459.out).2.1); (case side5 => refine (Kd.N_reads' (e := 34) (base := w.heap.size) (ok := fun k_ => ((((some k_ ≠ (.slice Ao12 t454.length co12 : Value).ownBlock ∧ some k_ ≠ (.slice Ao13 t457.length co13 : Value).ownBlock) ∧ k_ ≠ gb464) ∧ some k_ ≠ (v466 : Value).ownBlock) ∧ k_ ≠ gb471)) (n := t460.length) (c := co14) ?_).2.2; exact (by refine kN_ ?_; exact (Kd.N_mono (Kd.N_far (p := ⟨gb471, 1, none⟩) (Kd.N_far (p := ⟨gb471, 0, none⟩) (Kd.N_mono HO462.out (fun k_ hk => (⟨hk, hk.2⟩ : _ ∧ k_ ≠ gb471))) (fun _ hk => hk.2) (.int .i64 t468)) (fun _ hk => hk.2) (.int .i64 t469)) (fun _ h_ => h_.1)))); (case side6 => exact (Kd.N_reads' HO462.out).2.1); rintro e w20 ⟨rfl, hb⟩; refine ⟨_, rfl, ?_⟩; have z_ := t6_ (rB_ (by refine kR_ ?_; exact (fR2_ HO456.out BK471.out)) hb) (rB_ (by refine kR_ ?_; exact (fR2_ HO459.out BK471.out)) hb) (nB_ (by refine kN_ ?_; exact (Kd.N_mono (Kd.N_far (p := ⟨gb471, 1, none⟩) (Kd.N_far (p := ⟨gb471, 0, none⟩) (Kd.N_mono HO462.out (fun k_ hk => (⟨hk, hk.2⟩ : _ ∧ k_ ≠ gb471))) (fun _ hk => hk.2) (.int .i64 t468)) (fun _ hk => hk.2) (.int .i64 t469)) (fun _ h_ => h_.1))) hb) (bB_ (g := gb464) (o := .cells #[.string t453, .slice Ao12 t454.length co12, .slice Ao13 t457.length co13] 25 (0, 0)) (by refine bk_ ?_; refine blk_far ?_ NB464_471.out _; refine bk_ ?_; refine blk_far ?_ NB464_471.out _; refine bk_ ?_; exact BK464.out) hb) (bB_ (g := gb471) (o := .cells #[.int .i64 t468, .int .i64 t469] 30 (0, 0)) (by refine bk_ ?_; refine blk_put (cs := #[.int .i64 t468, .int .i64 0]) ?_ 1 _ rfl; refine bk_ ?_; refine blk_put (cs := #[.int .i64 0, .int .i64 0]) ?_ 0 _ rfl; refine bk_ ?_; exact BK471.out) hb) (bS_ (bw2_ HB.out GE464.out GE471.out) hb); (try clear BK471 BK464 HO467 HO462 HO459 HO456); clear HB; obtain ⟨HO456, HO459, HO462, BK464, BK471, HB⟩ := z_; (try clear hb)))
     go_ret
     exact ⟨rb_, bw2_ HB.out GE464.out GE471.out⟩
    ·rw [if_neg c8] at H
     have c8b0 := decide_eq_false c8
     clear c8
     by_cases c21 : t463 ≥ (t460.length : Int)
     ·rw [if_pos c21] at H
      have c21b0 : decide ((t460.length : Int) ≤ t463) = true := dt_ c21
      clear c21
      obtain rfl := Option.some.inj H
      go_enter Try.func3, Try.ntmps3
      go_wp2_with (first | ((with_reducible refine gate_callee (f := 20) rfl ?_); refine gl_ (some 19) Try.func20 #[.slice A0 l0.length c0] ?_; (with_reducible refine (spec_DrawTakeMatrix.calls k _ _ l0 t453 t454 t457 t460 t463 _ ?side1 ?side2 A3.out).mono ?_); (case side1 => exact kD_ HR0.out); (case side2 => exact HC0.out); rintro e w22 ⟨v455, v458, v461, rfl, ho0, ho1, ho2, hb⟩; refine ⟨_, rfl, ?_⟩; have z_ := t4_ (Kd.R_lower ho0 (below_size (bw0_ HB.out))) (Kd.R_lower ho1 (below_size (bw0_ HB.out))) (Kd.N_lower (Kd.N_mono (ok' := fun k_ => some k_ ≠ (v455 : Value).ownBlock ∧ some k_ ≠ (v458 : Value).ownBlock) (Kd.S_N (Kd.S_bound (Kd.S_apart' (Kd.S_apart' ho2 (Kd.R_typed ho0) (by decide)) (Kd.R_typed ho1) (by decide)))) (fun k_ hk_ => ⟨hk_.1.1.2, hk_.1.2⟩)) (below_size (bw0_ HB.out))) (bS_ (bw0_ HB.out) hb); clear HB; obtain ⟨HO456, HO459, HO462, HB⟩ := z_; (try clear ho2 ho1 ho0 hb)) | ((with_reducible refine gate_dst (N := 3) rfl ?_); (try (refine gate_guard (by rfl) ?_; dsimp only)); refine be_ 3 #[.string (⟨#[]⟩ : ByteArray), .slice none 0 0, .slice none 0 0] 25 ?_; intro gb464 hg w23 hbox hb; have z_ := t6_ (rB_ (kR_ HO456.out) hb) (rB_ (kR_ HO459.out) hb) (nB_ (Kd.N_elderB (kN_ HO462.out) gb464 (Nat.le_of_eq hg.symm)) hb) (bS_ (bw0_ HB.out) hb) hbox (gv_ hg (bw0_ HB.out) : w.heap.size ≤ gb464); (try clear HO462 HO459 HO456); clear HB; obtain ⟨HO456, HO459, HO462, HB, BK464, GE464⟩ := z_; clear hb hbox hg; have hcz24_0 := cz_ BK464.out 0 (.string (⟨#[]⟩ : ByteArray)); have hcz24_1 := cz_ BK464.out 1 (.slice none 0 0); have hcz24_2 := cz_ BK464.out 2 (.slice none 0 0); have hfz24_0 := fz_ BK464.out 0; have hfz24_1 := fz_ BK464.out 1; have hfz24_2 := fz_ BK464.out 2; obtain ⟨Ao25, co25, eo25⟩ := Kd.R_slice HO456.out; subst eo25; obtain ⟨Ao26, co26, eo26⟩ := Kd.R_slice HO459.out; subst eo26; obtain ⟨Ao27, co27, eo27⟩ := Kd.N_slice HO462.out; subst eo27) | ((with_reducible refine gate_callee (f := 21) rfl ?_); refine gl_ (some 27) Try.func21 #[.agg #[.string t453, .slice Ao25 t454.length co25, .slice Ao26 t457.length co26], .slice Ao27 t460.length co27, .int .i64 t463] ?_; (with_reducible refine (impl_TakeMatrix.calls k t453 _ _ t454 _ _ t457 _ _ t460 t463 t465 t468 t469 false _ ?side1 ?side2 ?side3 ?side4 ?side5 ?side6 A4.out).mono ?_); (case side1 => refine (Kd.R_reads' (e := 3) (base := w.heap.size) (ok := fun k_ => some k_ ≠ (.slice Ao26 t457.length co26 : Value).ownBlock) (n := t454.length) (c := co25) ?_).2.2; exact (by refine kR_ ?_; exact (fR3_ HO456.out BK464.out))); (case side2 => exact (Kd.R_reads' HO456.out).2.1); (case side3 => refine (Kd.R_reads' (e := 3) (base := w.heap.size) (ok := fun k_ => some k_ ≠ (.slice Ao25 t454.length co25 : Value).ownBlock) (n := t457.length) (c := co26) ?_).2.2; exact (by refine kR_ ?_; exact (fR3_ HO459.out BK464.out))); (case side4 => exact (Kd.R_reads' HO459.out).2.1); (case side5 => refine (Kd.N_reads' (e := 34) (base := w.heap.size) (ok := fun k_ => ((some k_ ≠ (.slice Ao25 t454.length co25 : Value).ownBlock ∧ some k_ ≠ (.slice Ao26 t457.length co26 : Value).ownBlock) ∧ k_ ≠ gb464)) (n := t460.length) (c := co27) ?_).2.2; exact (by refine kN_ ?_; exact (Kd.N_mono (Kd.N_far (p := ⟨gb464, 2, none⟩) (Kd.N_far (p := ⟨gb464, 1, none⟩) (Kd.N_far (p := ⟨gb464, 0, none⟩) (Kd.N_mono HO462.out (fun k_ hk => (⟨hk, hk.2⟩ : _ ∧ k_ ≠ gb464))) (fun _ hk => hk.2) (.string t453)) (fun _ hk => hk.2) (.slice Ao25 t454.length co25)) (fun _ hk => hk.2) (.slice Ao26 t457.length co26)) (fun _ h_ => h_.1)))); (case side6 => exact (Kd.N_reads' HO462.out).2.1); rintro e w28 ⟨v466, rfl, ho0, hb⟩; refine ⟨_, rfl, ?_⟩; have z_ := t5_ (rB_ (by refine kR_ ?_; exact (fR3_ HO456.out BK464.out)) hb) (rB_ (by refine kR_ ?_; exact (fR3_ HO459.out BK464.out)) hb) (Kd.N_elder' (by refine kN_ ?_; exact (Kd.N_mono (Kd.N_far (p := ⟨gb464, 2, none⟩) (Kd.N_far (p := ⟨gb464, 1, none⟩) (Kd.N_far (p := ⟨gb464, 0, none⟩) (Kd.N_mono HO462.out (fun k_ hk => (⟨hk, hk.2⟩ : _ ∧ k_ ≠ gb464))) (fun _ hk => hk.2) (.string t453)) (fun _ hk => hk.2) (.slice Ao25 t454.length co25)) (fun _ hk => hk.2) (.slice Ao26 t457.length co26)) (fun _ h_ => h_.1))) (Kd.N_base ho0) hb) (bB_ (g := gb464) (o := .cells #[.string t453, .slice Ao25 t454.length co25, .slice Ao26 t457.length co26] 25 (0, 0)) (by refine bk_ ?_; refine blk_put (cs := #[.string t453, .slice Ao25 t454.length co25, .slice none 0 0]) ?_ 2 _ rfl; refine bk_ ?_; refine blk_put (cs := #[.string t453, .slice none 0 0, .slice none 0 0]) ?_ 1 _ rfl; refine bk_ ?_; refine blk_put (cs := #[.string (⟨#[]⟩ : ByteArray), .slice none 0 0, .slice none 0 0]) ?_ 0 _ rfl; refine bk_ ?_; exact BK464.out) hb) (bS_ (bw1_ HB.out GE464.out) hb); (try clear BK464 HO462 HO459 HO456); clear HB; obtain ⟨HO456, HO459, HO462, BK464, HB⟩ := z_; (try clear ho0 hb)) | ((with_reducible refine gate_dst (N := 7) rfl ?_); (try (refine gate_guard (by rfl) ?_; dsimp only)); refine be_ 7 #[.int .i64 0, .int .i64 0] 30 ?_; intro gb471 hg w29 hbox hb; have z_ := t8_ (rB_ (kR_ HO456.out) hb) (rB_ (kR_ HO459.out) hb) (nB_ (Kd.N_elderB (kN_ HO462.out) gb471 (Nat.le_of_eq hg.symm)) hb) (bB_ (bk_ BK464.out) hb) (bS_ (bw1_ HB.out GE464.out) hb) hbox (gv_ hg (bw1_ HB.out GE464.out) : w.heap.size ≤ gb471) (by rw [hg]; exact Nat.ne_of_lt (blk_lt (bk_ BK464.out)) : gb464 ≠ gb471); (try clear BK464 HO467 HO462 HO459 HO456); clear HB; obtain ⟨HO456, HO459, HO462, BK464, HB, BK471, GE471, NB464_471⟩ := z_; have NB471_464 := M_ NB464_471.out.symm; clear hb hbox hg; have hnb30 := NB471_464.out; have hnc30 := NB464_471.out; have hcz31_0 := cz_ BK471.out 0 (.int .i64 0); have hcz31_1 := cz_ BK471.out 1 (.int .i64 0); have hfz31_0 := fz_ BK471.out 0; have hfz31_1 := fz_ BK471.out 1; have hcz32_0 := cz_ BK464.out 0 (.string t453); have hcz32_1 := cz_ BK464.out 1 (.slice Ao25 t454.length co25); have hcz32_2 := cz_ BK464.out 2 (.slice Ao26 t457.length co26); have hfz32_0 := fz_ BK464.out 0; have hfz32_1 := fz_ BK464.out 1; have hfz32_2 := fz_ BK464.out 2) | ((with_reducible refine gate_callee (f := 22) rfl ?_); refine gl_ (some 35) Try.func22 #[.agg #[.string t453, .slice Ao25 t454.length co25, .slice Ao26 t457.length co26], .slice Ao27 t460.length co27] ?_; (with_reducible refine (spec_MagazineOk.calls k t453 _ _ t454 _ _ t457 _ _ t460 true _ ?side1 ?side2 ?side3 ?side4 ?side5 ?side6 A6.out).mono ?_); (case side1 => refine (Kd.R_reads' (e := 3) (base := w.heap.size) (ok := fun k_ => some k_ ≠ (.slice Ao26 t457.length co26 : Value).ownBlock) (n := t454.length) (c := co25) ?_).2.2; exact (by refine kR_ ?_; exact (fR2_ HO456.out BK471.out))); (case side2 => exact (Kd.R_reads' HO456.out).2.1); (case side3 => refine (Kd.R_reads' (e := 3) (base := w.heap.size) (ok := fun k_ => some k_ ≠ (.slice Ao25 t454.length co25 : Value).ownBlock) (n := t457.length) (c := co26) ?_).2.2; exact (by refine kR_ ?_; exact (fR2_ HO459.out BK471.out))); (case side4 => exact (Kd.R_reads' HO459.out).2.1); (case side5 => refine (Kd.N_reads' (e := 34) (base := w.heap.size) (ok := fun k_ => ((((some k_ ≠ (.slice Ao25 t454.length co25 : Value).ownBlock ∧ some k_ ≠ (.slice Ao26 t457.length co26 : Value).ownBlock) ∧ k_ ≠ gb464) ∧ some k_ ≠ (v466 : Value).ownBlock) ∧ k_ ≠ gb471)) (n := t460.length) (c := co27) ?_).2.2; exact (by refine kN_ ?_; exact (Kd.N_mono (Kd.N_far (p := ⟨gb471, 1, none⟩) (Kd.N_far (p := ⟨gb471, 0, none⟩) (Kd.N_mono HO462.out (fun k_ hk => (⟨hk, hk.2⟩ : _ ∧ k_ ≠ gb471))) (fun _ hk => hk.2) (.int .i64 t468)) (fun _ hk => hk.2) (.int .i64 t469)) (fun _ h_ => h_.1)))); (case side6 => exact (Kd.N_reads' HO462.out).2.1); rintro e w33 ⟨rfl, hb⟩; refine ⟨_, rfl, ?_⟩; have z_ := t6_ (rB_ (by refine kR_ ?_; exact (fR2_ HO456.out BK471.out)) hb) (rB_ (by refine kR_ ?_; exact (fR2_ HO459.out BK471.out)) hb) (nB_ (by refine kN_ ?_; exact (Kd.N_mono (Kd.N_far (p := ⟨gb471, 1, none⟩) (Kd.N_far (p := ⟨gb471, 0, none⟩) (Kd.N_mono HO462.out (fun k_ hk => (⟨hk, hk.2⟩ : _ ∧ k_ ≠ gb471))) (fun _ hk => hk.2) (.int .i64 t468)) (fun _ hk => hk.2) (.int .i64 t469)) (fun _ h_ => h_.1))) hb) (bB_ (g := gb464) (o := .cells #[.string t453, .slice Ao25 t454.length co25, .slice Ao26 t457.length co26] 25 (0, 0)) (by refine bk_ ?_; refine blk_far ?_ NB464_471.out _; refine bk_ ?_; refine blk_far ?_ NB464_471.out _; refine bk_ ?_; exact BK464.out) hb) (bB_ (g := gb471) (o := .cells #[.int .i64 t468, .int .i64 t469] 30 (0, 0)) (by refine bk_ ?_; refine blk_put (cs := #[.int .i64 t468, .int .i64 0]) ?_ 1 _ rfl; refine bk_ ?_; refine blk_put (cs := #[.int .i64 0, .int .i64 0]) ?_ 0 _ rfl; refine bk_ ?_; exact BK471.out) hb) (bS_ (bw2_ HB.out GE464.out GE471.out) hb); (try clear BK471 BK464 HO467 HO462 HO459 HO456); clear HB; obtain ⟨HO456, HO459, HO462, BK464, BK471, HB⟩ := z_; (try clear hb)))
      go_ret
      exact ⟨rb_, bw2_ HB.out GE464.out GE471.out⟩
     ·rw [if_neg c21] at H
      have c21b0 : decide ((t460.length : Int) ≤ t463) = false := decide_eq_false c21
      clear c21
      by_cases c34 : 0 ≤ t463
      ·rw [if_pos c34] at H
       have c34b0 := dt_ c34
       clear c34
       by_cases c35 : t463 < (t460.length : Int)
       ·rw [if_pos c35] at H
        have c35b0 := dt_ c35
        clear c35
        obtain rfl := Option.some.inj H
        go_enter Try.func3, Try.ntmps3
        go_wp2_with (first | ((with_reducible refine gate_callee (f := 20) rfl ?_); refine gl_ (some 19) Try.func20 #[.slice A0 l0.length c0] ?_; (with_reducible refine (spec_DrawTakeMatrix.calls k _ _ l0 t453 t454 t457 t460 t463 _ ?side1 ?side2 A3.out).mono ?_); (case side1 => exact kD_ HR0.out); (case side2 => exact HC0.out); rintro e w36 ⟨v455, v458, v461, rfl, ho0, ho1, ho2, hb⟩; refine ⟨_, rfl, ?_⟩; have z_ := t4_ (Kd.R_lower ho0 (below_size (bw0_ HB.out))) (Kd.R_lower ho1 (below_size (bw0_ HB.out))) (Kd.N_lower (Kd.N_mono (ok' := fun k_ => some k_ ≠ (v455 : Value).ownBlock ∧ some k_ ≠ (v458 : Value).ownBlock) (Kd.S_N (Kd.S_bound (Kd.S_apart' (Kd.S_apart' ho2 (Kd.R_typed ho0) (by decide)) (Kd.R_typed ho1) (by decide)))) (fun k_ hk_ => ⟨hk_.1.1.2, hk_.1.2⟩)) (below_size (bw0_ HB.out))) (bS_ (bw0_ HB.out) hb); clear HB; obtain ⟨HO456, HO459, HO462, HB⟩ := z_; (try clear ho2 ho1 ho0 hb)) | ((with_reducible refine gate_dst (N := 3) rfl ?_); (try (refine gate_guard (by rfl) ?_; dsimp only)); refine be_ 3 #[.string (⟨#[]⟩ : ByteArray), .slice none 0 0, .slice none 0 0] 25 ?_; intro gb464 hg w37 hbox hb; have z_ := t6_ (rB_ (kR_ HO456.out) hb) (rB_ (kR_ HO459.out) hb) (nB_ (Kd.N_elderB (kN_ HO462.out) gb464 (Nat.le_of_eq hg.symm)) hb) (bS_ (bw0_ HB.out) hb) hbox (gv_ hg (bw0_ HB.out) : w.heap.size ≤ gb464); (try clear HO462 HO459 HO456); clear HB; obtain ⟨HO456, HO459, HO462, HB, BK464, GE464⟩ := z_; clear hb hbox hg; have hcz38_0 := cz_ BK464.out 0 (.string (⟨#[]⟩ : ByteArray)); have hcz38_1 := cz_ BK464.out 1 (.slice none 0 0); have hcz38_2 := cz_ BK464.out 2 (.slice none 0 0); have hfz38_0 := fz_ BK464.out 0; have hfz38_1 := fz_ BK464.out 1; have hfz38_2 := fz_ BK464.out 2; obtain ⟨Ao39, co39, eo39⟩ := Kd.R_slice HO456.out; subst eo39; obtain ⟨Ao40, co40, eo40⟩ := Kd.R_slice HO459.out; subst eo40; obtain ⟨Ao41, co41, eo41⟩ := Kd.N_slice HO462.out; subst eo41) | ((with_reducible refine gate_callee (f := 21) rfl ?_); refine gl_ (some 27) Try.func21 #[.agg #[.string t453, .slice Ao39 t454.length co39, .slice Ao40 t457.length co40], .slice Ao41 t460.length co41, .int .i64 t463] ?_; (with_reducible refine (impl_TakeMatrix.calls k t453 _ _ t454 _ _ t457 _ _ t460 t463 t465 t468 t469 false _ ?side1 ?side2 ?side3 ?side4 ?side5 ?side6 A4.out).mono ?_); (case side1 => refine (Kd.R_reads' (e := 3) (base := w.heap.size) (ok := fun k_ => some k_ ≠ (.slice Ao40 t457.length co40 : Value).ownBlock) (n := t454.length) (c := co39) ?_).2.2; exact (by refine kR_ ?_; exact (fR3_ HO456.out BK464.out))); (case side2 => exact (Kd.R_reads' HO456.out).2.1); (case side3 => refine (Kd.R_reads' (e := 3) (base := w.heap.size) (ok := fun k_ => some k_ ≠ (.slice Ao39 t454.length co39 : Value).ownBlock) (n := t457.length) (c := co40) ?_).2.2; exact (by refine kR_ ?_; exact (fR3_ HO459.out BK464.out))); (case side4 => exact (Kd.R_reads' HO459.out).2.1); (case side5 => refine (Kd.N_reads' (e := 34) (base := w.heap.size) (ok := fun k_ => ((some k_ ≠ (.slice Ao39 t454.length co39 : Value).ownBlock ∧ some k_ ≠ (.slice Ao40 t457.length co40 : Value).ownBlock) ∧ k_ ≠ gb464)) (n := t460.length) (c := co41) ?_).2.2; exact (by refine kN_ ?_; exact (Kd.N_mono (Kd.N_far (p := ⟨gb464, 2, none⟩) (Kd.N_far (p := ⟨gb464, 1, none⟩) (Kd.N_far (p := ⟨gb464, 0, none⟩) (Kd.N_mono HO462.out (fun k_ hk => (⟨hk, hk.2⟩ : _ ∧ k_ ≠ gb464))) (fun _ hk => hk.2) (.string t453)) (fun _ hk => hk.2) (.slice Ao39 t454.length co39)) (fun _ hk => hk.2) (.slice Ao40 t457.length co40)) (fun _ h_ => h_.1)))); (case side6 => exact (Kd.N_reads' HO462.out).2.1); rintro e w42 ⟨v466, rfl, ho0, hb⟩; refine ⟨_, rfl, ?_⟩; have z_ := t5_ (rB_ (by refine kR_ ?_; exact (fR3_ HO456.out BK464.out)) hb) (rB_ (by refine kR_ ?_; exact (fR3_ HO459.out BK464.out)) hb) (Kd.N_elder' (by refine kN_ ?_; exact (Kd.N_mono (Kd.N_far (p := ⟨gb464, 2, none⟩) (Kd.N_far (p := ⟨gb464, 1, none⟩) (Kd.N_far (p := ⟨gb464, 0, none⟩) (Kd.N_mono HO462.out (fun k_ hk => (⟨hk, hk.2⟩ : _ ∧ k_ ≠ gb464))) (fun _ hk => hk.2) (.string t453)) (fun _ hk => hk.2) (.slice Ao39 t454.length co39)) (fun _ hk => hk.2) (.slice Ao40 t457.length co40)) (fun _ h_ => h_.1))) (Kd.N_base ho0) hb) (bB_ (g := gb464) (o := .cells #[.string t453, .slice Ao39 t454.length co39, .slice Ao40 t457.length co40] 25 (0, 0)) (by refine bk_ ?_; refine blk_put (cs := #[.string t453, .slice Ao39 t454.length co39, .slice none 0 0]) ?_ 2 _ rfl; refine bk_ ?_; refine blk_put (cs := #[.string t453, .slice none 0 0, .slice none 0 0]) ?_ 1 _ rfl; refine bk_ ?_; refine blk_put (cs := #[.string (⟨#[]⟩ : ByteArray), .slice none 0 0, .slice none 0 0]) ?_ 0 _ rfl; refine bk_ ?_; exact BK464.out) hb) (bS_ (bw1_ HB.out GE464.out) hb); (try clear BK464 HO462 HO459 HO456); clear HB; obtain ⟨HO456, HO459, HO462, BK464, HB⟩ := z_; (try clear ho0 hb)) | ((with_reducible refine gate_dst (N := 7) rfl ?_); (try (refine gate_guard (by rfl) ?_; dsimp only)); refine be_ 7 #[.int .i64 0, .int .i64 0] 30 ?_; intro gb471 hg w43 hbox hb; have z_ := t8_ (rB_ (kR_ HO456.out) hb) (rB_ (kR_ HO459.out) hb) (nB_ (Kd.N_elderB (kN_ HO462.out) gb471 (Nat.le_of_eq hg.symm)) hb) (bB_ (bk_ BK464.out) hb) (bS_ (bw1_ HB.out GE464.out) hb) hbox (gv_ hg (bw1_ HB.out GE464.out) : w.heap.size ≤ gb471) (by rw [hg]; exact Nat.ne_of_lt (blk_lt (bk_ BK464.out)) : gb464 ≠ gb471); (try clear BK464 HO467 HO462 HO459 HO456); clear HB; obtain ⟨HO456, HO459, HO462, BK464, HB, BK471, GE471, NB464_471⟩ := z_; have NB471_464 := M_ NB464_471.out.symm; clear hb hbox hg; have hnb44 := NB471_464.out; have hnc44 := NB464_471.out; have hcz45_0 := cz_ BK471.out 0 (.int .i64 0); have hcz45_1 := cz_ BK471.out 1 (.int .i64 0); have hfz45_0 := fz_ BK471.out 0; have hfz45_1 := fz_ BK471.out 1; have hcz46_0 := cz_ BK464.out 0 (.string t453); have hcz46_1 := cz_ BK464.out 1 (.slice Ao39 t454.length co39); have hcz46_2 := cz_ BK464.out 2 (.slice Ao40 t457.length co40); have hfz46_0 := fz_ BK464.out 0; have hfz46_1 := fz_ BK464.out 1; have hfz46_2 := fz_ BK464.out 2) | ((with_reducible refine gate_callee (f := 22) rfl ?_); refine gl_ (some 35) Try.func22 #[.agg #[.string t453, .slice Ao39 t454.length co39, .slice Ao40 t457.length co40], .slice Ao41 t460.length co41] ?_; (with_reducible refine (spec_MagazineOk.calls k t453 _ _ t454 _ _ t457 _ _ t460 true _ ?side1 ?side2 ?side3 ?side4 ?side5 ?side6 A6.out).mono ?_); (case side1 => refine (Kd.R_reads' (e := 3) (base := w.heap.size) (ok := fun k_ => some k_ ≠ (.slice Ao40 t457.length co40 : Value).ownBlock) (n := t454.length) (c := co39) ?_).2.2; exact (by refine kR_ ?_; exact (fR2_ HO456.out BK471.out))); (case side2 => exact (Kd.R_reads' HO456.out).2.1); (case side3 => refine (Kd.R_reads' (e := 3) (base := w.heap.size) (ok := fun k_ => some k_ ≠ (.slice Ao39 t454.length co39 : Value).ownBlock) (n := t457.length) (c := co40) ?_).2.2; exact (by refine kR_ ?_; exact (fR2_ HO459.out BK471.out))); (case side4 => exact (Kd.R_reads' HO459.out).2.1); (case side5 => refine (Kd.N_reads' (e := 34) (base := w.heap.size) (ok := fun k_ => ((((some k_ ≠ (.slice Ao39 t454.length co39 : Value).ownBlock ∧ some k_ ≠ (.slice Ao40 t457.length co40 : Value).ownBlock) ∧ k_ ≠ gb464) ∧ some k_ ≠ (v466 : Value).ownBlock) ∧ k_ ≠ gb471)) (n := t460.length) (c := co41) ?_).2.2; exact (by refine kN_ ?_; exact (Kd.N_mono (Kd.N_far (p := ⟨gb471, 1, none⟩) (Kd.N_far (p := ⟨gb471, 0, none⟩) (Kd.N_mono HO462.out (fun k_ hk => (⟨hk, hk.2⟩ : _ ∧ k_ ≠ gb471))) (fun _ hk => hk.2) (.int .i64 t468)) (fun _ hk => hk.2) (.int .i64 t469)) (fun _ h_ => h_.1)))); (case side6 => exact (Kd.N_reads' HO462.out).2.1); rintro e w47 ⟨rfl, hb⟩; refine ⟨_, rfl, ?_⟩; have z_ := t6_ (rB_ (by refine kR_ ?_; exact (fR2_ HO456.out BK471.out)) hb) (rB_ (by refine kR_ ?_; exact (fR2_ HO459.out BK471.out)) hb) (nB_ (by refine kN_ ?_; exact (Kd.N_mono (Kd.N_far (p := ⟨gb471, 1, none⟩) (Kd.N_far (p := ⟨gb471, 0, none⟩) (Kd.N_mono HO462.out (fun k_ hk => (⟨hk, hk.2⟩ : _ ∧ k_ ≠ gb471))) (fun _ hk => hk.2) (.int .i64 t468)) (fun _ hk => hk.2) (.int .i64 t469)) (fun _ h_ => h_.1))) hb) (bB_ (g := gb464) (o := .cells #[.string t453, .slice Ao39 t454.length co39, .slice Ao40 t457.length co40] 25 (0, 0)) (by refine bk_ ?_; refine blk_far ?_ NB464_471.out _; refine bk_ ?_; refine blk_far ?_ NB464_471.out _; refine bk_ ?_; exact BK464.out) hb) (bB_ (g := gb471) (o := .cells #[.int .i64 t468, .int .i64 t469] 30 (0, 0)) (by refine bk_ ?_; refine blk_put (cs := #[.int .i64 t468, .int .i64 0]) ?_ 1 _ rfl; refine bk_ ?_; refine blk_put (cs := #[.int .i64 0, .int .i64 0]) ?_ 0 _ rfl; refine bk_ ?_; exact BK471.out) hb) (bS_ (bw2_ HB.out GE464.out GE471.out) hb); (try clear BK471 BK464 HO467 HO462 HO459 HO456); clear HB; obtain ⟨HO456, HO459, HO462, BK464, BK471, HB⟩ := z_; (try clear hb); have p473 : 0 ≤ (t463 : Int) := od_ as_; have q473 : t463 < (t460.length : Int) := od_ as_; obtain ⟨ad473, A473_0, c473_0, e473, hx473_0, hl473_0, hi473_0⟩ := at_L5 (Kd.N_reads' HO462.out).2.2 t463 p473 q473; cases e473; obtain ⟨ce473, hce473, hMe473, hcc473⟩ := Kd.N_get HO462.out [] t463 p473 (by first | exact q473 | exact od_ as_ | (have e_ := (Kd.N_reads' HO462.out).1; omega)); obtain ⟨ua473_0, uc473_0, rfl, ul473_0, ge473_0⟩ := Kd.FK_slice_open hMe473; have hv473_0 := hcc473 0 _ rfl; rw [Nat.add_zero, show ((Kd.slice 30 k30)).sz = 1 from rfl, Nat.mul_one] at hv473_0; replace hv473_0 := Option.some.inj (hv473_0.symm.trans hx473_0); injection hv473_0 with hva_ hvn_ hvc_; rw [hva_] at ge473_0; rw [hvc_] at ul473_0; have HL473_0 := M_ (show Kd.V k30 30 _ w.heap.size _ _ (rd_L5 t460 t463) from Kd.V_mk ul473_0 ge473_0); clear hce473 hcc473 ul473_0 ge473_0 hvc_ hvn_ hva_; have HR473_0 := M_ hi473_0; have HC473_0 := M_ hl473_0; clear hi473_0 hl473_0; replace p473 := eq_true p473; replace q473 := eq_true q473))
        go_ret
        exact ⟨rb_, bw2_ HB.out GE464.out GE471.out⟩
       ·rw [if_neg c35] at H
        exact absurd H (by simp)
      ·rw [if_neg c34] at H
       exact absurd H (by simp)
   ·replace c7 := Bool.eq_false_iff.mpr c7
    subst c7
    rw [if_neg (show ¬ (false = true) by decide)] at H
    obtain rfl := Option.some.inj H
    go_enter Try.func3, Try.ntmps3
    go_wp2_with (first | ((with_reducible refine gate_callee (f := 20) rfl ?_); refine gl_ (some 19) Try.func20 #[.slice A0 l0.length c0] ?_; (with_reducible refine (spec_DrawTakeMatrix.calls k _ _ l0 t453 t454 t457 t460 t463 _ ?side1 ?side2 A3.out).mono ?_); (case side1 => exact kD_ HR0.out); (case side2 => exact HC0.out); rintro e w48 ⟨v455, v458, v461, rfl, ho0, ho1, ho2, hb⟩; refine ⟨_, rfl, ?_⟩; have z_ := t4_ (Kd.R_lower ho0 (below_size (bw0_ HB.out))) (Kd.R_lower ho1 (below_size (bw0_ HB.out))) (Kd.N_lower (Kd.N_mono (ok' := fun k_ => some k_ ≠ (v455 : Value).ownBlock ∧ some k_ ≠ (v458 : Value).ownBlock) (Kd.S_N (Kd.S_bound (Kd.S_apart' (Kd.S_apart' ho2 (Kd.R_typed ho0) (by decide)) (Kd.R_typed ho1) (by decide)))) (fun k_ hk_ => ⟨hk_.1.1.2, hk_.1.2⟩)) (below_size (bw0_ HB.out))) (bS_ (bw0_ HB.out) hb); clear HB; obtain ⟨HO456, HO459, HO462, HB⟩ := z_; (try clear ho2 ho1 ho0 hb)) | ((with_reducible refine gate_dst (N := 3) rfl ?_); (try (refine gate_guard (by rfl) ?_; dsimp only)); refine be_ 3 #[.string (⟨#[]⟩ : ByteArray), .slice none 0 0, .slice none 0 0] 25 ?_; intro gb464 hg w49 hbox hb; have z_ := t6_ (rB_ (kR_ HO456.out) hb) (rB_ (kR_ HO459.out) hb) (nB_ (Kd.N_elderB (kN_ HO462.out) gb464 (Nat.le_of_eq hg.symm)) hb) (bS_ (bw0_ HB.out) hb) hbox (gv_ hg (bw0_ HB.out) : w.heap.size ≤ gb464); (try clear HO462 HO459 HO456); clear HB; obtain ⟨HO456, HO459, HO462, HB, BK464, GE464⟩ := z_; clear hb hbox hg; have hcz50_0 := cz_ BK464.out 0 (.string (⟨#[]⟩ : ByteArray)); have hcz50_1 := cz_ BK464.out 1 (.slice none 0 0); have hcz50_2 := cz_ BK464.out 2 (.slice none 0 0); have hfz50_0 := fz_ BK464.out 0; have hfz50_1 := fz_ BK464.out 1; have hfz50_2 := fz_ BK464.out 2; obtain ⟨Ao51, co51, eo51⟩ := Kd.R_slice HO456.out; subst eo51; obtain ⟨Ao52, co52, eo52⟩ := Kd.R_slice HO459.out; subst eo52; obtain ⟨Ao53, co53, eo53⟩ := Kd.N_slice HO462.out; subst eo53) | ((with_reducible refine gate_callee (f := 21) rfl ?_); refine gl_ (some 27) Try.func21 #[.agg #[.string t453, .slice Ao51 t454.length co51, .slice Ao52 t457.length co52], .slice Ao53 t460.length co53, .int .i64 t463] ?_; (with_reducible refine (impl_TakeMatrix.calls k t453 _ _ t454 _ _ t457 _ _ t460 t463 t465 t468 t469 false _ ?side1 ?side2 ?side3 ?side4 ?side5 ?side6 A4.out).mono ?_); (case side1 => refine (Kd.R_reads' (e := 3) (base := w.heap.size) (ok := fun k_ => some k_ ≠ (.slice Ao52 t457.length co52 : Value).ownBlock) (n := t454.length) (c := co51) ?_).2.2; exact (by refine kR_ ?_; exact (fR3_ HO456.out BK464.out))); (case side2 => exact (Kd.R_reads' HO456.out).2.1); (case side3 => refine (Kd.R_reads' (e := 3) (base := w.heap.size) (ok := fun k_ => some k_ ≠ (.slice Ao51 t454.length co51 : Value).ownBlock) (n := t457.length) (c := co52) ?_).2.2; exact (by refine kR_ ?_; exact (fR3_ HO459.out BK464.out))); (case side4 => exact (Kd.R_reads' HO459.out).2.1); (case side5 => refine (Kd.N_reads' (e := 34) (base := w.heap.size) (ok := fun k_ => ((some k_ ≠ (.slice Ao51 t454.length co51 : Value).ownBlock ∧ some k_ ≠ (.slice Ao52 t457.length co52 : Value).ownBlock) ∧ k_ ≠ gb464)) (n := t460.length) (c := co53) ?_).2.2; exact (by refine kN_ ?_; exact (Kd.N_mono (Kd.N_far (p := ⟨gb464, 2, none⟩) (Kd.N_far (p := ⟨gb464, 1, none⟩) (Kd.N_far (p := ⟨gb464, 0, none⟩) (Kd.N_mono HO462.out (fun k_ hk => (⟨hk, hk.2⟩ : _ ∧ k_ ≠ gb464))) (fun _ hk => hk.2) (.string t453)) (fun _ hk => hk.2) (.slice Ao51 t454.length co51)) (fun _ hk => hk.2) (.slice Ao52 t457.length co52)) (fun _ h_ => h_.1)))); (case side6 => exact (Kd.N_reads' HO462.out).2.1); rintro e w54 ⟨v466, rfl, ho0, hb⟩; refine ⟨_, rfl, ?_⟩; have z_ := t5_ (rB_ (by refine kR_ ?_; exact (fR3_ HO456.out BK464.out)) hb) (rB_ (by refine kR_ ?_; exact (fR3_ HO459.out BK464.out)) hb) (Kd.N_elder' (by refine kN_ ?_; exact (Kd.N_mono (Kd.N_far (p := ⟨gb464, 2, none⟩) (Kd.N_far (p := ⟨gb464, 1, none⟩) (Kd.N_far (p := ⟨gb464, 0, none⟩) (Kd.N_mono HO462.out (fun k_ hk => (⟨hk, hk.2⟩ : _ ∧ k_ ≠ gb464))) (fun _ hk => hk.2) (.string t453)) (fun _ hk => hk.2) (.slice Ao51 t454.length co51)) (fun _ hk => hk.2) (.slice Ao52 t457.length co52)) (fun _ h_ => h_.1))) (Kd.N_base ho0) hb) (bB_ (g := gb464) (o := .cells #[.string t453, .slice Ao51 t454.length co51, .slice Ao52 t457.length co52] 25 (0, 0)) (by refine bk_ ?_; refine blk_put (cs := #[.string t453, .slice Ao51 t454.length co51, .slice none 0 0]) ?_ 2 _ rfl; refine bk_ ?_; refine blk_put (cs := #[.string t453, .slice none 0 0, .slice none 0 0]) ?_ 1 _ rfl; refine bk_ ?_; refine blk_put (cs := #[.string (⟨#[]⟩ : ByteArray), .slice none 0 0, .slice none 0 0]) ?_ 0 _ rfl; refine bk_ ?_; exact BK464.out) hb) (bS_ (bw1_ HB.out GE464.out) hb); (try clear BK464 HO462 HO459 HO456); clear HB; obtain ⟨HO456, HO459, HO462, BK464, HB⟩ := z_; (try clear ho0 hb)) | ((with_reducible refine gate_dst (N := 7) rfl ?_); (try (refine gate_guard (by rfl) ?_; dsimp only)); refine be_ 7 #[.int .i64 0, .int .i64 0] 30 ?_; intro gb471 hg w55 hbox hb; have z_ := t8_ (rB_ (kR_ HO456.out) hb) (rB_ (kR_ HO459.out) hb) (nB_ (Kd.N_elderB (kN_ HO462.out) gb471 (Nat.le_of_eq hg.symm)) hb) (bB_ (bk_ BK464.out) hb) (bS_ (bw1_ HB.out GE464.out) hb) hbox (gv_ hg (bw1_ HB.out GE464.out) : w.heap.size ≤ gb471) (by rw [hg]; exact Nat.ne_of_lt (blk_lt (bk_ BK464.out)) : gb464 ≠ gb471); (try clear BK464 HO467 HO462 HO459 HO456); clear HB; obtain ⟨HO456, HO459, HO462, BK464, HB, BK471, GE471, NB464_471⟩ := z_; have NB471_464 := M_ NB464_471.out.symm; clear hb hbox hg; have hnb56 := NB471_464.out; have hnc56 := NB464_471.out; have hcz57_0 := cz_ BK471.out 0 (.int .i64 0); have hcz57_1 := cz_ BK471.out 1 (.int .i64 0); have hfz57_0 := fz_ BK471.out 0; have hfz57_1 := fz_ BK471.out 1; have hcz58_0 := cz_ BK464.out 0 (.string t453); have hcz58_1 := cz_ BK464.out 1 (.slice Ao51 t454.length co51); have hcz58_2 := cz_ BK464.out 2 (.slice Ao52 t457.length co52); have hfz58_0 := fz_ BK464.out 0; have hfz58_1 := fz_ BK464.out 1; have hfz58_2 := fz_ BK464.out 2) | ((with_reducible refine gate_callee (f := 22) rfl ?_); refine gl_ (some 35) Try.func22 #[.agg #[.string t453, .slice Ao51 t454.length co51, .slice Ao52 t457.length co52], .slice Ao53 t460.length co53] ?_; (with_reducible refine (spec_MagazineOk.calls k t453 _ _ t454 _ _ t457 _ _ t460 false _ ?side1 ?side2 ?side3 ?side4 ?side5 ?side6 A6.out).mono ?_); (case side1 => refine (Kd.R_reads' (e := 3) (base := w.heap.size) (ok := fun k_ => some k_ ≠ (.slice Ao52 t457.length co52 : Value).ownBlock) (n := t454.length) (c := co51) ?_).2.2; exact (by refine kR_ ?_; exact (fR2_ HO456.out BK471.out))); (case side2 => exact (Kd.R_reads' HO456.out).2.1); (case side3 => refine (Kd.R_reads' (e := 3) (base := w.heap.size) (ok := fun k_ => some k_ ≠ (.slice Ao51 t454.length co51 : Value).ownBlock) (n := t457.length) (c := co52) ?_).2.2; exact (by refine kR_ ?_; exact (fR2_ HO459.out BK471.out))); (case side4 => exact (Kd.R_reads' HO459.out).2.1); (case side5 => refine (Kd.N_reads' (e := 34) (base := w.heap.size) (ok := fun k_ => ((((some k_ ≠ (.slice Ao51 t454.length co51 : Value).ownBlock ∧ some k_ ≠ (.slice Ao52 t457.length co52 : Value).ownBlock) ∧ k_ ≠ gb464) ∧ some k_ ≠ (v466 : Value).ownBlock) ∧ k_ ≠ gb471)) (n := t460.length) (c := co53) ?_).2.2; exact (by refine kN_ ?_; exact (Kd.N_mono (Kd.N_far (p := ⟨gb471, 1, none⟩) (Kd.N_far (p := ⟨gb471, 0, none⟩) (Kd.N_mono HO462.out (fun k_ hk => (⟨hk, hk.2⟩ : _ ∧ k_ ≠ gb471))) (fun _ hk => hk.2) (.int .i64 t468)) (fun _ hk => hk.2) (.int .i64 t469)) (fun _ h_ => h_.1)))); (case side6 => exact (Kd.N_reads' HO462.out).2.1); rintro e w59 ⟨rfl, hb⟩; refine ⟨_, rfl, ?_⟩; have n6_ := M_ (bS_ (bw2_ HB.out GE464.out GE471.out) hb); (try clear BK471 BK464 HO467 HO462 HO459 HO456); clear HB; have HB := n6_; clear n6_; (try clear hb)))
    go_ret
    exact ⟨rb_, bw2_ HB.out GE464.out GE471.out⟩

end Go.Proofs.Ytilbngklgjjblaa.Q
