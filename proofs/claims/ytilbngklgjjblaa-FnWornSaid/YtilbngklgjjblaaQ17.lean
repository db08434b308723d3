/- Contracts of Go functions over this translation. Conditions: those that each theorem names. -/
import Derived.Test.YtilbngklgjjblaaQ0
import Derived.Test.YtilbngklgjjblaaQ3
import Derived.Test.YtilbngklgjjblaaQ6
import Derived.Test.YtilbngklgjjblaaQ7
import Derived.Test.YtilbngklgjjblaaQ16
namespace Go.Proofs.Ytilbngklgjjblaa.Q
open Go.RowKit Go.Proofs.YtilbngklgjjblaaW.PrintWords Go.Proofs.YtilbngklgjjblaaW.PrintLast Go.Proofs.YtilbngklgjjblaaW.PrintMore
attribute [local go_sem] max2_int min2_int max_two min_two max_three min_three max_four min_four
set_option linter.unusedVariables false
set_option linter.unusedSimpArgs false

def impl_WearMatrix.f (k : Nat) (a0_0 : ByteArray) (l0_1 : List Int) (l0_2 : List Int) (l1 : List (List (S30))) (a2 : Int) (a3 : Int) (a4 : Int) : Option ((List (List (S30))) × Bool) := (impl_MagazineOk.f k a0_0 l0_1 l0_2 l1).bind fun t437 => (if t437 = true then (if a2 < 0 then (some (([] : List (List (S30))), false)) else (if a2 ≥ (l1.length : Int) then (some (([] : List (List (S30))), false)) else (if a3 < 0 then (some (([] : List (List (S30))), false)) else (if 0 ≤ a2 then (if a2 < (l1.length : Int) then (if a3 ≥ ((rd_L2 l1 a2).length : Int) then (some (([] : List (List (S30))), false)) else (if a4 < 0 then (some (([] : List (List (S30))), false)) else (if a4 > 6 then (some (([] : List (List (S30))), false)) else (if 0 ≤ a3 then (if a3 < ((rd_L2 l1 a2).length : Int) then (if 0 ≤ a4 then (if (Go.bits .and .i64 (shr .i64 ((rd_T30 (rd_L2 l1 a2) a3).f1) a4) 1) = 0 then (some (([] : List (List (S30))), false)) else ((impl_copyMagazine.f k l1).bind fun t441 => (if a2 < (t441.length : Int) then (if a3 < ((rd_L2 t441 a2).length : Int) then (some ((t441.set (a2 : Int).toNat ((rd_L2 t441 a2).set (a3 : Int).toNat (⟨(rd_T30 (rd_L2 t441 a2) a3).f0, Go.bits .andNot .i64 ((rd_T30 (rd_L2 t441 a2) a3).f1) (shl .i64 1 a4)⟩ : S30))), true)) else (none)) else (none)))) else (none)) else (none)) else (none))))) else (none)) else (none))))) else (some (([] : List (List (S30))), false)))
theorem impl_WearMatrix.mono : ∀ a0 a1 a2 a3 a4 a5 a6 k, LeO (impl_WearMatrix.f k a0 a1 a2 a3 a4 a5 a6) (impl_WearMatrix.f (k + 1) a0 a1 a2 a3 a4 a5 a6) := by
 intro a0 a1 a2 a3 a4 a5 a6 k
 unfold impl_WearMatrix.f
 repeat' first | (with_reducible first | exact impl_MagazineOk.mono _ _ _ _ _ | exact impl_copyMagazine.mono _ _ | exact LeO.refl _ | exact LeO.none _ | refine LeO.ite ?_ ?_ | refine LeO.bind ?_ (fun _ => ?_)) | exact impl_MagazineOk.mono _ _ _ _ _ | exact impl_copyMagazine.mono _ _ | exact LeO.none _ | refine LeO.ite ?_ ?_ | refine LeO.bind ?_ (fun _ => ?_)
def impl_WearMatrix.T4 : Bool × List (List Nat × List Nat) := (true, [([], []), ([], []), ([0, 1], [0, 1]), ([2], [2]), ([], []), ([3, 4], [3, 4]), ([5], [5]), ([6], [6]), ([], []), ([8], [8]), ([7, 9], [7, 9]), ([3, 4, 0, 1, 2, 3, 4, 5, 6, 7, 8, 9, 10], [3, 4]), ([11, 0, 1, 2, 3, 4, 5, 6, 7, 8, 9, 10], [11]), ([12, 10, 0, 1, 2, 3, 4, 5, 6, 7, 8, 9, 10], [10, 12])])
def impl_WearMatrix.B4 : List Nat := [0, 0, 3, 7, 0, 31, 63, 127, 0, 256, 1023, 2047, 4095, 8191]
theorem impl_WearMatrix.tab4 : rtab .any (opsOf Try.f64 4) = impl_WearMatrix.T4 := by kernel_rfl
theorem impl_WearMatrix.bits4 : waitsOk impl_WearMatrix.T4.2 impl_WearMatrix.B4 = true := by kernel_rfl
set_option maxHeartbeats 8000000 in
set_option maxRecDepth 100000 in
theorem impl_WearMatrix.calls (k : Nat) (a0_0 : ByteArray) (A0_1 : Option Addr) (c0_1 : Nat) (l0_1 : List Int) (A0_2 : Option Addr) (c0_2 : Nat) (l0_2 : List Int) (A1 : Option Addr) (c1 : Nat) (l1 : List (List (S30))) (a2 : Int) (a3 : Int) (a4 : Int) (r1 : List (List (S30))) (r2 : Bool) (w : World) (hr0_1 : Kd.C (Kd.int .i64) w A0_1 l0_1.length l0_1) (hc0_1 : l0_1.length ≤ c0_1) (hr0_2 : Kd.C (Kd.int .i64) w A0_2 l0_2.length l0_2) (hc0_2 : l0_2.length ≤ c0_2) (hr1 : Kd.C (Kd.slice 30 k30) w A1 l1.length l1) (hc1 : l1.length ≤ c1) (h : impl_WearMatrix.f k a0_0 l0_1 l0_2 l1 a2 a3 a4 = some (r1, r2)) :
    Calls Try.prog 64 #[.agg #[.string a0_0, .slice A0_1 l0_1.length c0_1, .slice A0_2 l0_2.length c0_2], .slice A1 l1.length c1, .int .i64 a2, .int .i64 a3, .int .i64 a4] w fun e w' => ∃ v0_ : Value, e = .returned (.tuple #[v0_, .bool r2]) ∧ Kd.S (Kd.slice 30 k30) 34 w' w.heap.size (fun _ => True) v0_ r1 ∧ Below w.heap.size w w' := by
 have hu25 := Try.underlying25
 have HR0_1 := M_ hr0_1
 have HC0_1 := M_ hc0_1
 clear hr0_1 hc0_1
 have HR0_2 := M_ hr0_2
 have HC0_2 := M_ hc0_2
 clear hr0_2 hc0_2
 have HR1 := M_ hr1
 have HC1 := M_ hc1
 clear hr1 hc1
 have HB := M_ (Below.refl w.heap.size w)
 have H : ((impl_MagazineOk.f k a0_0 l0_1 l0_2 l1).bind fun t437 => (if t437 = true then (if a2 < 0 then (some (([] : List (List (S30))), false)) else (if a2 ≥ (l1.length : Int) then (some (([] : List (List (S30))), false)) else (if a3 < 0 then (some (([] : List (List (S30))), false)) else (if 0 ≤ a2 then (if a2 < (l1.length : Int) then (if a3 ≥ ((rd_L2 l1 a2).length : Int) then (some (([] : List (List (S30))), false)) else (if a4 < 0 then (some (([] : List (List (S30))), false)) else (if a4 > 6 then (some (([] : List (List (S30))), false)) else (if 0 ≤ a3 then (if a3 < ((rd_L2 l1 a2).length : Int) then (if 0 ≤ a4 then (if (Go.bits .and .i64 (shr .i64 ((rd_T30 (rd_L2 l1 a2) a3).f1) a4) 1) = 0 then (some (([] : List (List (S30))), false)) else ((impl_copyMagazine.f k l1).bind fun t441 => (if a2 < (t441.length : Int) then (if a3 < ((rd_L2 t441 a2).length : Int) then (some ((t441.set (a2 : Int).toNat ((rd_L2 t441 a2).set (a3 : Int).toNat (⟨(rd_T30 (rd_L2 t441 a2) a3).f0, Go.bits .andNot .i64 ((rd_T30 (rd_L2 t441 a2) a3).f1) (shl .i64 1 a4)⟩ : S30))), true)) else (none)) else (none)))) else (none)) else (none)) else (none))))) else (none)) else (none))))) else (some (([] : List (List (S30))), false)))) = some (r1, r2) := h
 clear h
 replace H := bs_ H
 obtain ⟨t437, A60, H⟩ := H
 (try dsimp only at H)
 have A6 := M_ A60
 clear A60
 by_cases c7 : t437 = true
 ·subst c7
  rw [if_pos rfl] at H
  by_cases c8 : a2 < 0
  ·rw [if_pos c8] at H
   have c8b0 := dt_ c8
   clear c8
   simp only [Option.some.injEq, Prod.mk.injEq] at H
   obtain ⟨rfl, rfl⟩ := H
   go_enter Try.func64, Try.ntmps64
   go_wp2_with (first | ((with_reducible refine gate_dst (N := 5) rfl ?_); (try (refine gate_guard (by rfl) ?_; dsimp only)); refine be_ 5 #[.string a0_0, .slice A0_1 l0_1.length c0_1, .slice A0_2 l0_2.length c0_2] 25 ?_; intro gb436 hg w9 hbox hb; have z_ := t3_ (bS_ (bw0_ HB.out) hb) hbox (gv_ hg (bw0_ HB.out) : w.heap.size ≤ gb436); clear HB; obtain ⟨HB, BK436, GE436⟩ := z_; clear hb hbox hg; have hcz10_0 := cz_ BK436.out 0 (.string a0_0); have hcz10_1 := cz_ BK436.out 1 (.slice A0_1 l0_1.length c0_1); have hcz10_2 := cz_ BK436.out 2 (.slice A0_2 l0_2.length c0_2); have hfz10_0 := fz_ BK436.out 0; have hfz10_1 := fz_ BK436.out 1; have hfz10_2 := fz_ BK436.out 2) | ((with_reducible refine gate_callee (f := 44) rfl ?_); refine gl_ (some 15) Try.func44 #[.agg #[.string a0_0, .slice A0_1 l0_1.length c0_1, .slice A0_2 l0_2.length c0_2], .slice A1 l1.length c1] ?_; (with_reducible refine (impl_MagazineOk.calls k a0_0 _ _ l0_1 _ _ l0_2 _ _ l1 true _ ?side1 ?side2 ?side3 ?side4 ?side5 ?side6 A6.out).mono ?_); (case side1 => exact kC_ HR0_1.out HB.out); (case side2 => exact HC0_1.out); (case side3 => exact kC_ HR0_2.out HB.out); (case side4 => exact HC0_2.out); (case side5 => exact kC_ HR1.out HB.out); (case side6 => exact HC1.out); rintro e w11 ⟨rfl, hb⟩; refine ⟨_, rfl, ?_⟩; have z_ := t2_ (bB_ (bk_ BK436.out) hb) (bS_ (bw1_ HB.out GE436.out) hb); (try clear BK436); clear HB; obtain ⟨BK436, HB⟩ := z_; (try clear hb)))
   go_ret2
   exact ⟨_, rb_, by first | exact Kd.S_nil _ _ _ _ _ | exact Kd.N_nil _ _ _ _ _ | exact Kd.V_nil _ _ _ _ _ | exact Kd.Q_nil _ _ _ _ _ | exact Kd.R_nil _ _ _ _ _, bw1_ HB.out GE436.out⟩
  ·rw [if_neg c8] at H
   have c8b0 := decide_eq_false c8
   clear c8
   by_cases c12 : a2 ≥ (l1.length : Int)
   ·rw [if_pos c12] at H
    have c12b0 : decide ((l1.length : Int) ≤ a2) = true := dt_ c12
    clear c12
    simp only [Option.some.injEq, Prod.mk.injEq] at H
    obtain ⟨rfl, rfl⟩ := H
    go_enter Try.func64, Try.ntmps64
    go_wp2_with (first | ((with_reducible refine gate_dst (N := 5) rfl ?_); (try (refine gate_guard (by rfl) ?_; dsimp only)); refine be_ 5 #[.string a0_0, .slice A0_1 l0_1.length c0_1, .slice A0_2 l0_2.length c0_2] 25 ?_; intro gb436 hg w13 hbox hb; have z_ := t3_ (bS_ (bw0_ HB.out) hb) hbox (gv_ hg (bw0_ HB.out) : w.heap.size ≤ gb436); clear HB; obtain ⟨HB, BK436, GE436⟩ := z_; clear hb hbox hg; have hcz14_0 := cz_ BK436.out 0 (.string a0_0); have hcz14_1 := cz_ BK436.out 1 (.slice A0_1 l0_1.length c0_1); have hcz14_2 := cz_ BK436.out 2 (.slice A0_2 l0_2.length c0_2); have hfz14_0 := fz_ BK436.out 0; have hfz14_1 := fz_ BK436.out 1; have hfz14_2 := fz_ BK436.out 2) | ((with_reducible refine gate_callee (f := 44) rfl ?_); refine gl_ (some 15) Try.func44 #[.agg #[.string a0_0, .slice A0_1 l0_1.length c0_1, .slice A0_2 l0_2.length c0_2], .slice A1 l1.length c1] ?_; (with_reducible refine (impl_MagazineOk.calls k a0_0 _ _ l0_1 _ _ l0_2 _ _ l1 true _ ?side1 ?side2 ?side3 ?side4 ?side5 ?side6 A6.out).mono ?_); (case side1 => exact kC_ HR0_1.out HB.out); (case side2 => exact HC0_1.out); (case side3 => exact kC_ HR0_2.out HB.out); (case side4 => exact HC0_2.out); (case side5 => exact kC_ HR1.out HB.out); (case side6 => exact HC1.out); rintro e w15 ⟨rfl, hb⟩; refine ⟨_, rfl, ?_⟩; have z_ := t2_ (bB_ (bk_ BK436.out) hb) (bS_ (bw1_ HB.out GE436.out) hb); (try clear BK436); clear HB; obtain ⟨BK436, HB⟩ := z_; (try clear hb)))
    go_ret2
    exact ⟨_, rb_, by first | exact Kd.S_nil _ _ _ _ _ | exact Kd.N_nil _ _ _ _ _ | exact Kd.V_nil _ _ _ _ _ | exact Kd.Q_nil _ _ _ _ _ | exact Kd.R_nil _ _ _ _ _, bw1_ HB.out GE436.out⟩
   ·rw [if_neg c12] at H
    have c12b0 : decide ((l1.length : Int) ≤ a2) = false := decide_eq_false c12
    clear c12
    by_cases c16 : a3 < 0
    ·rw [if_pos c16] at H
     have c16b0 := dt_ c16
     clear c16
     simp only [Option.some.injEq, Prod.mk.injEq] at H
     obtain ⟨rfl, rfl⟩ := H
     go_enter Try.func64, Try.ntmps64
     go_wp2_with (first | ((with_reducible refine gate_dst (N := 5) rfl ?_); (try (refine gate_guard (by rfl) ?_; dsimp only)); refine be_ 5 #[.string a0_0, .slice A0_1 l0_1.length c0_1, .slice A0_2 l0_2.length c0_2] 25 ?_; intro gb436 hg w17 hbox hb; have z_ := t3_ (bS_ (bw0_ HB.out) hb) hbox (gv_ hg (bw0_ HB.out) : w.heap.size ≤ gb436); clear HB; obtain ⟨HB, BK436, GE436⟩ := z_; clear hb hbox hg; have hcz18_0 := cz_ BK436.out 0 (.string a0_0); have hcz18_1 := cz_ BK436.out 1 (.slice A0_1 l0_1.length c0_1); have hcz18_2 := cz_ BK436.out 2 (.slice A0_2 l0_2.length c0_2); have hfz18_0 := fz_ BK436.out 0; have hfz18_1 := fz_ BK436.out 1; have hfz18_2 := fz_ BK436.out 2) | ((with_reducible refine gate_callee (f := 44) rfl ?_); refine gl_ (some 15) Try.func44 #[.agg #[.string a0_0, .slice A0_1 l0_1.length c0_1, .slice A0_2 l0_2.length c0_2], .slice A1 l1.length c1] ?_; (with_reducible refine (impl_MagazineOk.calls k a0_0 _ _ l0_1 _ _ l0_2 _ _ l1 true _ ?side1 ?side2 ?side3 ?side4 ?side5 ?side6 A6.out).mono ?_); (case side1 => exact kC_ HR0_1.out HB.out); (case side2 => exact HC0_1.out); (case side3 => exact kC_ HR0_2.out HB.out); (case side4 => exact HC0_2.out); (case side5 => exact kC_ HR1.out HB.out); (case side6 => exact HC1.out); rintro e w19 ⟨rfl, hb⟩; refine ⟨_, rfl, ?_⟩; have z_ := t2_ (bB_ (bk_ BK436.out) hb) (bS_ (bw1_ HB.out GE436.out) hb); (try clear BK436); clear HB; obtain ⟨BK436, HB⟩ := z_; (try clear hb)))
     go_ret2
     exact ⟨_, rb_, by first | exact Kd.S_nil _ _ _ _ _ | exact Kd.N_nil _ _ _ _ _ | exact Kd.V_nil _ _ _ _ _ | exact Kd.Q_nil _ _ _ _ _ | exact Kd.R_nil _ _ _ _ _, bw1_ HB.out GE436.out⟩
    ·rw [if_neg c16] at H
     have c16b0 := decide_eq_false c16
     clear c16
     by_cases c20 : 0 ≤ a2
     ·rw [if_pos c20] at H
      have c20b0 := dt_ c20
      clear c20
      by_cases c21 : a2 < (l1.length : Int)
      ·rw [if_pos c21] at H
       have c21b0 := dt_ c21
       clear c21
       by_cases c22 : a3 ≥ ((rd_L2 l1 a2).length : Int)
       ·rw [if_pos c22] at H
        have c22b0 : decide (((rd_L2 l1 a2).length : Int) ≤ a3) = true := dt_ c22
        clear c22
        simp only [Option.some.injEq, Prod.mk.injEq] at H
        obtain ⟨rfl, rfl⟩ := H
        go_enter Try.func64, Try.ntmps64
        go_wp2_with (first | ((with_reducible refine gate_dst (N := 5) rfl ?_); (try (refine gate_guard (by rfl) ?_; dsimp only)); refine be_ 5 #[.string a0_0, .slice A0_1 l0_1.length c0_1, .slice A0_2 l0_2.length c0_2] 25 ?_; intro gb436 hg w23 hbox hb; have z_ := t3_ (bS_ (bw0_ HB.out) hb) hbox (gv_ hg (bw0_ HB.out) : w.heap.size ≤ gb436); clear HB; obtain ⟨HB, BK436, GE436⟩ := z_; clear hb hbox hg; have hcz24_0 := cz_ BK436.out 0 (.string a0_0); have hcz24_1 := cz_ BK436.out 1 (.slice A0_1 l0_1.length c0_1); have hcz24_2 := cz_ BK436.out 2 (.slice A0_2 l0_2.length c0_2); have hfz24_0 := fz_ BK436.out 0; have hfz24_1 := fz_ BK436.out 1; have hfz24_2 := fz_ BK436.out 2) | ((with_reducible refine gate_callee (f := 44) rfl ?_); refine gl_ (some 15) Try.func44 #[.agg #[.string a0_0, .slice A0_1 l0_1.length c0_1, .slice A0_2 l0_2.length c0_2], .slice A1 l1.length c1] ?_; (with_reducible refine (impl_MagazineOk.calls k a0_0 _ _ l0_1 _ _ l0_2 _ _ l1 true _ ?side1 ?side2 ?side3 ?side4 ?side5 ?side6 A6.out).mono ?_); (case side1 => exact kC_ HR0_1.out HB.out); (case side2 => exact HC0_1.out); (case side3 => exact kC_ HR0_2.out HB.out); (case side4 => exact HC0_2.out); (case side5 => exact kC_ HR1.out HB.out); (case side6 => exact HC1.out); rintro e w25 ⟨rfl, hb⟩; refine ⟨_, rfl, ?_⟩; have z_ := t2_ (bB_ (bk_ BK436.out) hb) (bS_ (bw1_ HB.out GE436.out) hb); (try clear BK436); clear HB; obtain ⟨BK436, HB⟩ := z_; (try clear hb); have p438 : 0 ≤ (a2 : Int) := od_ as_; have q438 : a2 < (l1.length : Int) := od_ as_; obtain ⟨ad438, A438_0, c438_0, e438, hx438_0, hl438_0, hi438_0⟩ := at_L2 HR1.out a2 p438 q438; cases e438; have hxo438_0 := M_ hx438_0; replace hx438_0 := (HB.out.cell (World.block_lt_of_cell? w _ hx438_0)).trans hx438_0; have HR438_0 := M_ hi438_0; have HC438_0 := M_ hl438_0; clear hi438_0 hl438_0; replace p438 := eq_true p438; replace q438 := eq_true q438))
        go_ret2
        exact ⟨_, rb_, by first | exact Kd.S_nil _ _ _ _ _ | exact Kd.N_nil _ _ _ _ _ | exact Kd.V_nil _ _ _ _ _ | exact Kd.Q_nil _ _ _ _ _ | exact Kd.R_nil _ _ _ _ _, bw1_ HB.out GE436.out⟩
       ·rw [if_neg c22] at H
        have c22b0 : decide (((rd_L2 l1 a2).length : Int) ≤ a3) = false := decide_eq_false c22
        clear c22
        by_cases c26 : a4 < 0
        ·rw [if_pos c26] at H
         have c26b0 := dt_ c26
         clear c26
         simp only [Option.some.injEq, Prod.mk.injEq] at H
         obtain ⟨rfl, rfl⟩ := H
         go_enter Try.func64, Try.ntmps64
         go_wp2_with (first | ((with_reducible refine gate_dst (N := 5) rfl ?_); (try (refine gate_guard (by rfl) ?_; dsimp only)); refine be_ 5 #[.string a0_0, .slice A0_1 l0_1.length c0_1, .slice A0_2 l0_2.length c0_2] 25 ?_; intro gb436 hg w27 hbox hb; have z_ := t3_ (bS_ (bw0_ HB.out) hb) hbox (gv_ hg (bw0_ HB.out) : w.heap.size ≤ gb436); clear HB; obtain ⟨HB, BK436, GE436⟩ := z_; clear hb hbox hg; have hcz28_0 := cz_ BK436.out 0 (.string a0_0); have hcz28_1 := cz_ BK436.out 1 (.slice A0_1 l0_1.length c0_1); have hcz28_2 := cz_ BK436.out 2 (.slice A0_2 l0_2.length c0_2); have hfz28_0 := fz_ BK436.out 0; have hfz28_1 := fz_ BK436.out 1; have hfz28_2 := fz_ BK436.out 2) | ((with_reducible refine gate_callee (f := 44) rfl ?_); refine gl_ (some 15) Try.func44 #[.agg #[.string a0_0, .slice A0_1 l0_1.length c0_1, .slice A0_2 l0_2.length c0_2], .slice A1 l1.length c1] ?_; (with_reducible refine (impl_MagazineOk.calls k a0_0 _ _ l0_1 _ _ l0_2 _ _ l1 true _ ?side1 ?side2 ?side3 ?side4 ?side5 ?side6 A6.out).mono ?_); (case side1 => exact kC_ HR0_1.out HB.out); (case side2 => exact HC0_1.out); (case side3 => exact kC_ HR0_2.out HB.out); (case side4 => exact HC0_2.out); (case side5 => exact kC_ HR1.out HB.out); (case side6 => exact HC1.out); rintro e w29 ⟨rfl, hb⟩; refine ⟨_, rfl, ?_⟩; have z_ := t2_ (bB_ (bk_ BK436.out) hb) (bS_ (bw1_ HB.out GE436.out) hb); (try clear BK436); clear HB; obtain ⟨BK436, HB⟩ := z_; (try clear hb); have p438 : 0 ≤ (a2 : Int) := od_ as_; have q438 : a2 < (l1.length : Int) := od_ as_; obtain ⟨ad438, A438_0, c438_0, e438, hx438_0, hl438_0, hi438_0⟩ := at_L2 HR1.out a2 p438 q438; cases e438; have hxo438_0 := M_ hx438_0; replace hx438_0 := (HB.out.cell (World.block_lt_of_cell? w _ hx438_0)).trans hx438_0; have HR438_0 := M_ hi438_0; have HC438_0 := M_ hl438_0; clear hi438_0 hl438_0; replace p438 := eq_true p438; replace q438 := eq_true q438))
         go_ret2
         exact ⟨_, rb_, by first | exact Kd.S_nil _ _ _ _ _ | exact Kd.N_nil _ _ _ _ _ | exact Kd.V_nil _ _ _ _ _ | exact Kd.Q_nil _ _ _ _ _ | exact Kd.R_nil _ _ _ _ _, bw1_ HB.out GE436.out⟩
        ·rw [if_neg c26] at H
         have c26b0 := decide_eq_false c26
         clear c26
         by_cases c30 : a4 > 6
         ·rw [if_pos c30] at H
          have c30b0 : decide (6 < a4) = true := dt_ c30
          clear c30
          simp only [Option.some.injEq, Prod.mk.injEq] at H
          obtain ⟨rfl, rfl⟩ := H
          go_enter Try.func64, Try.ntmps64
          go_wp2_with (first | ((with_reducible refine gate_dst (N := 5) rfl ?_); (try (refine gate_guard (by rfl) ?_; dsimp only)); refine be_ 5 #[.string a0_0, .slice A0_1 l0_1.length c0_1, .slice A0_2 l0_2.length c0_2] 25 ?_; intro gb436 hg w31 hbox hb; have z_ := t3_ (bS_ (bw0_ HB.out) hb) hbox (gv_ hg (bw0_ HB.out) : w.heap.size ≤ gb436); clear HB; obtain ⟨HB, BK436, GE436⟩ := z_; clear hb hbox hg; have hcz32_0 := cz_ BK436.out 0 (.string a0_0); have hcz32_1 := cz_ BK436.out 1 (.slice A0_1 l0_1.length c0_1); have hcz32_2 := cz_ BK436.out 2 (.slice A0_2 l0_2.length c0_2); have hfz32_0 := fz_ BK436.out 0; have hfz32_1 := fz_ BK436.out 1; have hfz32_2 := fz_ BK436.out 2) | ((with_reducible refine gate_callee (f := 44) rfl ?_); refine gl_ (some 15) Try.func44 #[.agg #[.string a0_0, .slice A0_1 l0_1.length c0_1, .slice A0_2 l0_2.length c0_2], .slice A1 l1.length c1] ?_; (with_reducible refine (impl_MagazineOk.calls k a0_0 _ _ l0_1 _ _ l0_2 _ _ l1 true _ ?side1 ?side2 ?side3 ?side4 ?side5 ?side6 A6.out).mono ?_); (case side1 => exact kC_ HR0_1.out HB.out); (case side2 => exact HC0_1.out); (case side3 => exact kC_ HR0_2.out HB.out); (case side4 => exact HC0_2.out); (case side5 => exact kC_ HR1.out HB.out); (case side6 => exact HC1.out); rintro e w33 ⟨rfl, hb⟩; refine ⟨_, rfl, ?_⟩; have z_ := t2_ (bB_ (bk_ BK436.out) hb) (bS_ (bw1_ HB.out GE436.out) hb); (try clear BK436); clear HB; obtain ⟨BK436, HB⟩ := z_; (try clear hb); have p438 : 0 ≤ (a2 : Int) := od_ as_; have q438 : a2 < (l1.length : Int) := od_ as_; obtain ⟨ad438, A438_0, c438_0, e438, hx438_0, hl438_0, hi438_0⟩ := at_L2 HR1.out a2 p438 q438; cases e438; have hxo438_0 := M_ hx438_0; replace hx438_0 := (HB.out.cell (World.block_lt_of_cell? w _ hx438_0)).trans hx438_0; have HR438_0 := M_ hi438_0; have HC438_0 := M_ hl438_0; clear hi438_0 hl438_0; replace p438 := eq_true p438; replace q438 := eq_true q438))
          go_ret2
          exact ⟨_, rb_, by first | exact Kd.S_nil _ _ _ _ _ | exact Kd.N_nil _ _ _ _ _ | exact Kd.V_nil _ _ _ _ _ | exact Kd.Q_nil _ _ _ _ _ | exact Kd.R_nil _ _ _ _ _, bw1_ HB.out GE436.out⟩
         ·rw [if_neg c30] at H
          have c30b0 : decide (6 < a4) = false := decide_eq_false c30
          clear c30
          by_cases c34 : 0 ≤ a3
          ·rw [if_pos c34] at H
           have c34b0 := dt_ c34
           clear c34
           by_cases c35 : a3 < ((rd_L2 l1 a2).length : Int)
           ·rw [if_pos c35] at H
            have c35b0 := dt_ c35
            clear c35
            by_cases c36 : 0 ≤ a4
            ·rw [if_pos c36] at H
             have c36b0 := eq_true c36
             have c36b1 := dt_ c36
             clear c36
             obtain ⟨ji37, hji37⟩ : ∃ j_ : Int, (shr .i64 ((rd_T30 (rd_L2 l1 a2) a3).f1) a4) = j_ := ⟨_, rfl⟩
             replace H : (if (Go.bits .and .i64 (ji37) 1) = 0 then (some (([] : List (List (S30))), false)) else ((impl_copyMagazine.f k l1).bind fun t441 => (if a2 < (t441.length : Int) then (if a3 < ((rd_L2 t441 a2).length : Int) then (some ((t441.set (a2 : Int).toNat ((rd_L2 t441 a2).set (a3 : Int).toNat (⟨(rd_T30 (rd_L2 t441 a2) a3).f0, Go.bits .andNot .i64 ((rd_T30 (rd_L2 t441 a2) a3).f1) (shl .i64 1 a4)⟩ : S30))), true)) else (none)) else (none)))) = some (r1, r2) := by first | (rw [hji37] at H; exact H) | (simp only [hji37] at H ⊢; exact H)
             (try rw [hji37] at A6)
             have hji37_ : (((rd_T30 (rd_L2 l1 a2) a3).f1) / 2 ^ min a4.toNat 64) = ji37 := hji37
             have hji37z : a4 ≤ 64 → (((rd_T30 (rd_L2 l1 a2) a3).f1) / 2 ^ a4.toNat) = ji37 := shr_small hji37
             by_cases c38 : (Go.bits .and .i64 (ji37) 1) = 0
             ·rw [if_pos c38] at H
              have c38b0 := beq_iff_eq.mpr c38
              have c38b1 := bne_eq_false_iff_eq.mpr c38
              clear c38
              simp only [Option.some.injEq, Prod.mk.injEq] at H
              obtain ⟨rfl, rfl⟩ := H
              go_enter Try.func64, Try.ntmps64
              go_wp2_with (first | ((with_reducible refine gate_dst (N := 5) rfl ?_); (try (refine gate_guard (by rfl) ?_; dsimp only)); refine be_ 5 #[.string a0_0, .slice A0_1 l0_1.length c0_1, .slice A0_2 l0_2.length c0_2] 25 ?_; intro gb436 hg w39 hbox hb; have z_ := t3_ (bS_ (bw0_ HB.out) hb) hbox (gv_ hg (bw0_ HB.out) : w.heap.size ≤ gb436); clear HB; obtain ⟨HB, BK436, GE436⟩ := z_; clear hb hbox hg; have hcz40_0 := cz_ BK436.out 0 (.string a0_0); have hcz40_1 := cz_ BK436.out 1 (.slice A0_1 l0_1.length c0_1); have hcz40_2 := cz_ BK436.out 2 (.slice A0_2 l0_2.length c0_2); have hfz40_0 := fz_ BK436.out 0; have hfz40_1 := fz_ BK436.out 1; have hfz40_2 := fz_ BK436.out 2) | ((with_reducible refine gate_callee (f := 44) rfl ?_); refine gl_ (some 15) Try.func44 #[.agg #[.string a0_0, .slice A0_1 l0_1.length c0_1, .slice A0_2 l0_2.length c0_2], .slice A1 l1.length c1] ?_; (with_reducible refine (impl_MagazineOk.calls k a0_0 _ _ l0_1 _ _ l0_2 _ _ l1 true _ ?side1 ?side2 ?side3 ?side4 ?side5 ?side6 A6.out).mono ?_); (case side1 => exact kC_ HR0_1.out HB.out); (case side2 => exact HC0_1.out); (case side3 => exact kC_ HR0_2.out HB.out); (case side4 => exact HC0_2.out); (case side5 => exact kC_ HR1.out HB.out); (case side6 => exact HC1.out); rintro e w41 ⟨rfl, hb⟩; refine ⟨_, rfl, ?_⟩; have z_ := t2_ (bB_ (bk_ BK436.out) hb) (bS_ (bw1_ HB.out GE436.out) hb); (try clear BK436); clear HB; obtain ⟨BK436, HB⟩ := z_; (try clear hb); have p438 : 0 ≤ (a2 : Int) := od_ as_; have q438 : a2 < (l1.length : Int) := od_ as_; obtain ⟨ad438, A438_0, c438_0, e438, hx438_0, hl438_0, hi438_0⟩ := at_L2 HR1.out a2 p438 q438; cases e438; have hxo438_0 := M_ hx438_0; replace hx438_0 := (HB.out.cell (World.block_lt_of_cell? w _ hx438_0)).trans hx438_0; have HR438_0 := M_ hi438_0; have HC438_0 := M_ hl438_0; clear hi438_0 hl438_0; replace p438 := eq_true p438; replace q438 := eq_true q438; have p439 : 0 ≤ (a2 : Int) := od_ as_; have q439 : a2 < (l1.length : Int) := od_ as_; obtain ⟨ad439, A439_0, c439_0, e439, hx439_0, hl439_0, hi439_0⟩ := at_L2 HR1.out a2 p439 q439; obtain rfl : ad438 = ad439 := (by injection e439); have hxo439_0 := M_ hx439_0; replace hx439_0 := (HB.out.cell (World.block_lt_of_cell? w _ hx439_0)).trans hx439_0; have HR439_0 := M_ hi439_0; have HC439_0 := M_ hl439_0; clear hi439_0 hl439_0; replace p439 := eq_true p439; replace q439 := eq_true q439; have ea_ := Option.some.inj (hxo438_0.out.symm.trans hxo439_0.out); injection ea_ with ea_ en_ ec_; subst ea_; subst ec_; clear en_; have p440 : 0 ≤ (a3 : Int) := od_ as_; have q440 : a3 < ((rd_L2 l1 a2).length : Int) := od_ as_; obtain ⟨ad440, e440, hx440_0, hx440_1⟩ := at_T30 HR439_0.out a3 p440 q440; cases e440; replace hx440_0 := (HB.out.cell (World.block_lt_of_cell? w _ hx440_0)).trans hx440_0; replace hx440_1 := (HB.out.cell (World.block_lt_of_cell? w _ hx440_1)).trans hx440_1; replace p440 := eq_true p440; replace q440 := eq_true q440))
              go_ret2
              exact ⟨_, by first | rfl | (simp only [i64_w, i32_w]; rfl) | (simp only [i64_w, i32_w, wrap64_zero, Int.sub_zero, Int.add_zero, Int.mul_zero, Int.zero_mul]; rfl) | (simp [errW_none, errW_some] <;> rfl) | (simp only [← hji37]; first | rfl | (simp [errW_none, errW_some] <;> rfl)) | (simp [*, errW_none, errW_some] <;> rfl), by first | exact Kd.S_nil _ _ _ _ _ | exact Kd.N_nil _ _ _ _ _ | exact Kd.V_nil _ _ _ _ _ | exact Kd.Q_nil _ _ _ _ _ | exact Kd.R_nil _ _ _ _ _, bw1_ HB.out GE436.out⟩
             ·rw [if_neg c38] at H
              have c38b0 : ((Go.bits .and .i64 (ji37) 1) == 0) = false := beq_eq_false_iff_ne.mpr c38
              have c38b1 : ((Go.bits .and .i64 (ji37) 1) != 0) = true := bne_iff_ne.mpr c38
              replace H := bs_ H
              obtain ⟨t441, A420, H⟩ := H
              (try dsimp only at H)
              have A42 := M_ A420
              clear A420
              by_cases c43 : a2 < (t441.length : Int)
              ·rw [if_pos c43] at H
               have c43b0 := dt_ c43
               clear c43
               by_cases c44 : a3 < ((rd_L2 t441 a2).length : Int)
               ·rw [if_pos c44] at H
                have c44b0 := dt_ c44
                clear c44
                have c45b0 := eq_true (od_ as_ : 0 ≤ a4)
                obtain ⟨ji46, hji46⟩ : ∃ j_ : Int, (shl .i64 1 a4) = j_ := ⟨_, rfl⟩
                replace H : (some ((t441.set (a2 : Int).toNat ((rd_L2 t441 a2).set (a3 : Int).toNat (⟨(rd_T30 (rd_L2 t441 a2) a3).f0, Go.bits .andNot .i64 ((rd_T30 (rd_L2 t441 a2) a3).f1) (ji46)⟩ : S30))), true)) = some (r1, r2) := by first | (rw [hji46] at H; exact H) | (simp only [hji46] at H ⊢; exact H)
                (try rw [hji46] at A6)
                (try rw [hji46] at A42)
                have hji46_ : (IntKind.i64.wrap (1 * 2 ^ min a4.toNat 64)) = ji46 := hji46
                have hji46z : a4 ≤ 64 → (IntKind.i64.wrap (1 * 2 ^ a4.toNat)) = ji46 := shl_small hji46
                have hji46u : (IntKind.i64.wrap (2 ^ min a4.toNat 64)) = ji46 := by have h_ := hji46_; rw [Int.one_mul] at h_; exact h_
                have hji46v : a4 ≤ 64 → (IntKind.i64.wrap (2 ^ a4.toNat)) = ji46 := fun hle_ => by have h_ := hji46z hle_; rw [Int.one_mul] at h_; exact h_
                have hji46y : (wrap64 (1 * 2 ^ min a4.toNat 64)) = ji46 := (i64_w _).symm.trans hji46_
                have hji46x : a4 ≤ 64 → (wrap64 (1 * 2 ^ a4.toNat)) = ji46 := fun h_ => (i64_w _).symm.trans (hji46z h_)
                obtain ⟨y446, hy446⟩ : ∃ y_ : List (S30), y_ = ((rd_L2 t441 a2).set (a3 : Int).toNat (⟨(rd_T30 (rd_L2 t441 a2) a3).f0, Go.bits .andNot .i64 ((rd_T30 (rd_L2 t441 a2) a3).f1) (ji46)⟩ : S30)) := ⟨_, rfl⟩
                replace H : (some ((t441.set (a2 : Int).toNat y446), true)) = some (r1, r2) := by first | (rw [hy446]; with_reducible exact H) | (have H2_ := (Option.bind_some _ _).symm.trans H; rw [hy446]; with_reducible exact H2_) | (have H2_ := (Option.bind_some _ _).symm.trans H; with_reducible exact H2_) | with_reducible exact H | (rw [hy446]; exact H) | exact H
                have Ny446 := M_ hy446
                clear hy446
                obtain ⟨y448, hy448⟩ : ∃ y_ : List (List (S30)), y_ = (t441.set (a2 : Int).toNat y446) := ⟨_, rfl⟩
                replace H : (some (y448, true)) = some (r1, r2) := by first | (rw [hy448]; with_reducible exact H) | (have H2_ := (Option.bind_some _ _).symm.trans H; rw [hy448]; with_reducible exact H2_) | (have H2_ := (Option.bind_some _ _).symm.trans H; with_reducible exact H2_) | with_reducible exact H | (rw [hy448]; exact H) | exact H
                have Ny448 := M_ hy448
                clear hy448
                simp only [Option.some.injEq, Prod.mk.injEq] at H
                obtain ⟨rfl, rfl⟩ := H
                go_enter Try.func64, Try.ntmps64
                try go_wp2_with (first | ((with_reducible refine gate_dst (N := 5) rfl ?_); (try (refine gate_guard (by rfl) ?_; dsimp only)); refine be_ 5 #[.string a0_0, .slice A0_1 l0_1.length c0_1, .slice A0_2 l0_2.length c0_2] 25 ?_; intro gb436 hg w48 hbox hb; have z_ := t3_ (bS_ (bw0_ HB.out) hb) hbox (gv_ hg (bw0_ HB.out) : w.heap.size ≤ gb436); clear HB; obtain ⟨HB, BK436, GE436⟩ := z_; clear hb hbox hg; have hcz49_0 := cz_ BK436.out 0 (.string a0_0); have hcz49_1 := cz_ BK436.out 1 (.slice A0_1 l0_1.length c0_1); have hcz49_2 := cz_ BK436.out 2 (.slice A0_2 l0_2.length c0_2); have hfz49_0 := fz_ BK436.out 0; have hfz49_1 := fz_ BK436.out 1; have hfz49_2 := fz_ BK436.out 2) | ((with_reducible refine gate_callee (f := 44) rfl ?_); refine gl_ (some 15) Try.func44 #[.agg #[.string a0_0, .slice A0_1 l0_1.length c0_1, .slice A0_2 l0_2.length c0_2], .slice A1 l1.length c1] ?_; (with_reducible refine (impl_MagazineOk.calls k a0_0 _ _ l0_1 _ _ l0_2 _ _ l1 true _ ?side1 ?side2 ?side3 ?side4 ?side5 ?side6 A6.out).mono ?_); (case side1 => exact kC_ HR0_1.out HB.out); (case side2 => exact HC0_1.out); (case side3 => exact kC_ HR0_2.out HB.out); (case side4 => exact HC0_2.out); (case side5 => exact kC_ HR1.out HB.out); (case side6 => exact HC1.out); rintro e w50 ⟨rfl, hb⟩; refine ⟨_, rfl, ?_⟩; have z_ := t2_ (bB_ (bk_ BK436.out) hb) (bS_ (bw1_ HB.out GE436.out) hb); (try clear BK436); clear HB; obtain ⟨BK436, HB⟩ := z_; (try clear hb); have p438 : 0 ≤ (a2 : Int) := od_ as_; have q438 : a2 < (l1.length : Int) := od_ as_; obtain ⟨ad438, A438_0, c438_0, e438, hx438_0, hl438_0, hi438_0⟩ := at_L2 HR1.out a2 p438 q438; cases e438; have hxo438_0 := M_ hx438_0; replace hx438_0 := (HB.out.cell (World.block_lt_of_cell? w _ hx438_0)).trans hx438_0; have HR438_0 := M_ hi438_0; have HC438_0 := M_ hl438_0; clear hi438_0 hl438_0; replace p438 := eq_true p438; replace q438 := eq_true q438; have p439 : 0 ≤ (a2 : Int) := od_ as_; have q439 : a2 < (l1.length : Int) := od_ as_; obtain ⟨ad439, A439_0, c439_0, e439, hx439_0, hl439_0, hi439_0⟩ := at_L2 HR1.out a2 p439 q439; obtain rfl : ad438 = ad439 := (by injection e439); have hxo439_0 := M_ hx439_0; replace hx439_0 := (HB.out.cell (World.block_lt_of_cell? w _ hx439_0)).trans hx439_0; have HR439_0 := M_ hi439_0; have HC439_0 := M_ hl439_0; clear hi439_0 hl439_0; replace p439 := eq_true p439; replace q439 := eq_true q439; have ea_ := Option.some.inj (hxo438_0.out.symm.trans hxo439_0.out); injection ea_ with ea_ en_ ec_; subst ea_; subst ec_; clear en_; have p440 : 0 ≤ (a3 : Int) := od_ as_; have q440 : a3 < ((rd_L2 l1 a2).length : Int) := od_ as_; obtain ⟨ad440, e440, hx440_0, hx440_1⟩ := at_T30 HR439_0.out a3 p440 q440; cases e440; replace hx440_0 := (HB.out.cell (World.block_lt_of_cell? w _ hx440_0)).trans hx440_0; replace hx440_1 := (HB.out.cell (World.block_lt_of_cell? w _ hx440_1)).trans hx440_1; replace p440 := eq_true p440; replace q440 := eq_true q440) | ((with_reducible refine gate_callee (f := 74) rfl ?_); refine gl_ (some 63) Try.func74 #[.slice (some ad438) l1.length c1] ?_; (with_reducible refine (impl_copyMagazine.calls k _ _ l1 t441 _ ?side1 ?side2 A42.out).mono ?_); (case side1 => exact kC_ HR1.out HB.out); (case side2 => exact HC1.out); rintro e w51 ⟨v442, rfl, ho0, hb⟩; refine ⟨_, rfl, ?_⟩; have z_ := t3_ (Kd.S_lower ho0 (below_size (bw1_ HB.out GE436.out))) (bB_ (bk_ BK436.out) hb) (bS_ (bw1_ HB.out GE436.out) hb); (try clear BK436); clear HB; obtain ⟨HO443, BK436, HB⟩ := z_; (try clear ho0 hb)))
                have z_ := t3_ (Kd.S_drew HO443.out) (blk_drew BK436.out) (below_drew1 HB.out)
                clear HO443
                (try clear BK436)
                clear HB
                obtain ⟨HO443, BK436, HB⟩ := z_
                obtain ⟨Ao53, co53, eo53⟩ := Kd.S_slice HO443.out
                (first | subst eo53 | (injection eo53 with f1_ f2_ f3_; have f4_ := f1_.symm; have f5_ := f3_.symm; clear f1_ f2_ f3_; subst f4_; subst f5_))
                have p444 : 0 ≤ (a2 : Int) := od_ as_
                have q444 : a2 < (t441.length : Int) := od_ as_
                obtain ⟨ad444, A444_0, c444_0, e444, hx444_0, hl444_0, hi444_0⟩ := at_L2 (Kd.S_reads' HO443.out).2.2 a2 p444 q444
                cases e444
                obtain ⟨ce444, hce444, hMe444, hcc444⟩ := Kd.S_get HO443.out [] a2 p444 (by first | exact q444 | exact od_ as_ | (have e_ := (Kd.S_reads' HO443.out).1; omega))
                obtain ⟨ve444_0, rfl, ge444_0⟩ := hMe444
                have hv444_0 := hcc444 0 _ rfl
                rw [Nat.add_zero, show ((Kd.slice 30 k30)).sz = 1 from rfl, Nat.mul_one] at hv444_0
                replace hv444_0 := Option.some.inj (hv444_0.symm.trans hx444_0)
                rw [hv444_0] at ge444_0
                have HL444_0 := M_ (show Kd.R k30 30 _ _ _ _ (rd_L2 t441 a2) from ge444_0)
                clear hv444_0 ge444_0
                have HX444_0 := M_ hx444_0
                clear hcc444 hce444
                have HR444_0 := M_ hi444_0
                have HC444_0 := M_ hl444_0
                clear hi444_0 hl444_0
                replace p444 := eq_true p444
                replace q444 := eq_true q444
                have p445 : 0 ≤ (a3 : Int) := od_ as_
                have q445 : a3 < ((rd_L2 t441 a2).length : Int) := od_ as_
                obtain ⟨ad445, e445, hx445_0, hx445_1⟩ := at_T30 (kE_ HR444_0.out) a3 p445 q445
                cases e445
                replace p445 := eq_true p445
                replace q445 := eq_true q445
                have p47 : 0 ≤ (a3 : Int) := od_ as_
                have q47 : (a3 : Int) < (((rd_L2 t441 a2).length : Int) : Int) := od_ as_
                obtain ⟨go47, co47, eo47, gb47, gl47, cl47, HG47⟩ := Kd.R_form HL444_0.out (by omega)
                (first | cases eo47 | (injection eo47 with ea_ en_ ec_; (first | subst ea_ | (injection ea_ with ea_; subst ea_)); subst ec_; clear en_))
                have GB47 := M_ gb47
                have GG47 := M_ HG47
                clear gb47 gl47 HG47
                (first | simp only [add_plain] at hx445_0 | skip)
                (first | simp only [add_plain] at hx445_1 | skip)
                obtain ⟨ce47, hcl47, hM47, hcc47, hfr47⟩ := Kd.R_elem HL444_0.out z30 (a3 : Int) p47 q47
                obtain rfl := k30_openM hM47
                have hx47_0 : World.cell? _ ⟨go47, (a3 : Int).toNat * 2, none⟩ = some (.int .i64 ((rd_T30 (rd_L2 t441 a2) a3).f0)) := hcc47 0 _ rfl
                have hx47_1 : World.cell? _ ⟨go47, (a3 : Int).toNat * 2 + 1, none⟩ = some (.int .i64 ((rd_T30 (rd_L2 t441 a2) a3).f1)) := hcc47 1 _ rfl
                have hf47_0 : World.frozen? _ ⟨go47, (a3 : Int).toNat * 2, none⟩ = false := hfr47 0
                have hf47_1 : World.frozen? _ ⟨go47, (a3 : Int).toNat * 2 + 1, none⟩ = false := hfr47 1
                (try clear hcl47 hcc47 hfr47 hM47)
                replace p47 := eq_true p47
                replace q47 := eq_true q47
                have hq54 : (a2 : Int) < (t441.length : Int) := (by have h_ : (a2 : Int) < ((t441.length : Int) : Int) := od_ as_; first | exact h_ | (have e_ := (Kd.S_reads' HO443.out).1; omega) | simpa only [List.length_set, List.length_set] using h_)
                obtain ⟨oki54, ce54, hcl54, hM54, hcc54, hok54, hbk54⟩ := Kd.S_borrow HO443.out [] (a2 : Int) (od_ as_) hq54
                obtain ⟨ve54_0, rfl, ge54_0⟩ := hM54
                have hv54 := hcc54 0 _ rfl
                rw [Nat.add_zero, show ((Kd.slice 30 k30)).sz = 1 from rfl, Nat.mul_one] at hv54
                replace hv54 := Option.some.inj (hv54.symm.trans HX444_0.out)
                subst hv54
                clear hcc54 hcl54
                replace ge54_0 := (show Kd.R k30 30 _ _ _ _ (rd_L2 t441 a2) from ge54_0)
                obtain ⟨cf54, hcl54, hN54, hcc54, hfr54⟩ := Kd.R_elem ge54_0 z30 (a3 : Int) (od_ as_) (by have h_ : (a3 : Int) < (((rd_L2 t441 a2).length : Int) : Int) := od_ as_; first | exact h_ | (have e_ := (Kd.R_reads' HR444_0.out).1; omega) | simpa using h_)
                obtain rfl := k30_openM hN54
                have HP54 := Kd.R_seg ge54_0 (a3 : Int) (od_ as_) (by have h_ : (a3 : Int) < (((rd_L2 t441 a2).length : Int) : Int) := od_ as_; first | exact h_ | (have e_ := (Kd.R_reads' HR444_0.out).1; omega) | simpa using h_) (seg := [.int .i64 (Go.bits .andNot .i64 ((rd_T30 (rd_L2 t441 a2) a3).f1) (ji46))]) (j := 1) hcl54 hcc54 (show 2 ≤ 2 from by decide) (x' := (⟨(rd_T30 (rd_L2 t441 a2) a3).f0, Go.bits .andNot .i64 ((rd_T30 (rd_L2 t441 a2) a3).f1) (ji46)⟩ : S30)) (k30_mkM _ _ _ (⟨(rd_T30 (rd_L2 t441 a2) a3).f0, Go.bits .andNot .i64 ((rd_T30 (rd_L2 t441 a2) a3).f1) (ji46)⟩ : S30)) (fun _ hk => hk)
                clear hcl54 hcc54 hfr54 hN54
                rw [← Ny446.out] at HP54
                have HS54 := hbk54 HP54.2 (fun k_ e_ => by injection e_ with e_; subst e_; exact ge54_0.1 _ rfl) (x' := y446) (Kd.M_row HP54.1)
                rw [← Ny448.out] at HS54
                have HQ54 := M_ HS54
                clear HP54 HS54 hbk54 hok54
                refine start_ (n := 14) (S := fun w' => w'.cell? (ad444.add (a2).toNat) = some (.slice (some (⟨go47, 0, none⟩ : Addr)) (rd_L2 t441 a2).length c444_0) ∧ w'.cell? ⟨go47, ((a3).toNat * 2), none⟩ = some (.int .i64 ((rd_T30 (rd_L2 t441 a2) a3).f0)) ∧ w'.cell? ⟨go47, ((a3).toNat * 2) + 1, none⟩ = some (.int .i64 ((rd_T30 (rd_L2 t441 a2) a3).f1))) (ds := [13]) (mk_ 14 0) (by kernel_rfl) rfl rfl ⟨hx444_0, hx445_0, hx445_1⟩ (fun hHeld => ?_); refine with_tabW impl_WearMatrix.tab4 impl_WearMatrix.bits4 (fun HT_ HW_ => ?_)
                generalize w51.drew = w52 at HO443 BK436 HB GG47 HL444_0 HQ54 HR444_0 HX444_0 hf47_0 hf47_1 hx444_0 hx445_0 hx445_1 hx47_0 hx47_1 hHeld ⊢
                refine pu_ 0 (some 64) (mk_ 14 1) HT_.out ?_
                refine pu_ 1 (some 65) (mk_ 14 3) HT_.out ?_
                refine pu_ 2 (some 66) (mk_ 14 7) HT_.out ?_
                refine pu_ 4 (some 68) (mk_ 14 23) HT_.out ?_
                refine pu_ 8 (some 72) (mk_ 14 279) HT_.out ?_
                refine pu_ 9 (some 73) (mk_ 14 791) HT_.out ?_
                refine ta_ 3 (some 67) (mk_ 14 799) HT_.out HW_.out hHeld (hy := by rintro w' ⟨s0, s1, s2⟩; go_simp; with_reducible rfl) (h := ?_)
                refine pu_ 5 (some 69) (mk_ 14 831) HT_.out ?_
                refine pu_ 6 (some 70) (mk_ 14 895) HT_.out ?_
                refine ta_ 7 (some 71) (mk_ 14 1023) HT_.out HW_.out hHeld (hy := by rintro w' ⟨s0, s1, s2⟩; go_simp; with_reducible rfl) (h := ?_)
                refine pu_ 10 (some 74) (mk_ 14 2047) HT_.out ?_
                refine pu_ 11 (some 75) (mk_ 14 4095) HT_.out ?_
                refine pu_ 12 (some 76) (mk_ 14 8191) HT_.out ?_
                refine la_ 13 none (mk_ 14 16383) HT_.out fun K hK => ?_
                refine skip_ (w1 := ?_) (by rfl) rfl ?_ ?_
                rotate_left
                ·go_simp
                 rfl
                refine hK.out _ _ ?_
                clear hK K
                refine done_ (done_of HT_.out (by kernel_rfl)) ?_
                try go_wp2
                go_ret2
                exact ⟨_, by first | rfl | (simp only [i64_w, i32_w]; rfl) | (simp only [i64_w, i32_w, wrap64_zero, Int.sub_zero, Int.add_zero, Int.mul_zero, Int.zero_mul]; rfl) | (simp [errW_none, errW_some] <;> rfl) | (simp only [← hji37, ← hji46]; first | rfl | (simp [errW_none, errW_some] <;> rfl)) | (simp [*, errW_none, errW_some] <;> rfl), by refine kS_ ?_; exact HQ54.out, bw2_ HB.out GB47.out GE436.out⟩
               ·rw [if_neg c44] at H
                exact absurd H (by simp)
              ·rw [if_neg c43] at H
               exact absurd H (by simp)
            ·rw [if_neg c36] at H
             exact absurd H (by simp)
           ·rw [if_neg c35] at H
            exact absurd H (by simp)
          ·rw [if_neg c34] at H
           exact absurd H (by simp)
      ·rw [if_neg c21] at H
       exact absurd H (by simp)
     ·rw [if_neg c20] at H
      exact absurd H (by simp)
 ·replace c7 := Bool.eq_false_iff.mpr c7
  subst c7
  rw [if_neg (show ¬ (false = true) by decide)] at H
  simp only [Option.some.injEq, Prod.mk.injEq] at H
  obtain ⟨rfl, rfl⟩ := H
  go_enter Try.func64, Try.ntmps64
  go_wp2_with (first | ((with_reducible refine gate_dst (N := 5) rfl ?_); (try (refine gate_guard (by rfl) ?_; dsimp only)); refine be_ 5 #[.string a0_0, .slice A0_1 l0_1.length c0_1, .slice A0_2 l0_2.length c0_2] 25 ?_; intro gb436 hg w56 hbox hb; have z_ := t3_ (bS_ (bw0_ HB.out) hb) hbox (gv_ hg (bw0_ HB.out) : w.heap.size ≤ gb436); clear HB; obtain ⟨HB, BK436, GE436⟩ := z_; clear hb hbox hg; have hcz57_0 := cz_ BK436.out 0 (.string a0_0); have hcz57_1 := cz_ BK436.out 1 (.slice A0_1 l0_1.length c0_1); have hcz57_2 := cz_ BK436.out 2 (.slice A0_2 l0_2.length c0_2); have hfz57_0 := fz_ BK436.out 0; have hfz57_1 := fz_ BK436.out 1; have hfz57_2 := fz_ BK436.out 2) | ((with_reducible refine gate_callee (f := 44) rfl ?_); refine gl_ (some 15) Try.func44 #[.agg #[.string a0_0, .slice A0_1 l0_1.length c0_1, .slice A0_2 l0_2.length c0_2], .slice A1 l1.length c1] ?_; (with_reducible refine (impl_MagazineOk.calls k a0_0 _ _ l0_1 _ _ l0_2 _ _ l1 false _ ?side1 ?side2 ?side3 ?side4 ?side5 ?side6 A6.out).mono ?_); (case side1 => exact kC_ HR0_1.out HB.out); (case side2 => exact HC0_1.out); (case side3 => exact kC_ HR0_2.out HB.out); (case side4 => exact HC0_2.out); (case side5 => exact kC_ HR1.out HB.out); (case side6 => exact HC1.out); rintro e w58 ⟨rfl, hb⟩; refine ⟨_, rfl, ?_⟩; have n1_ := M_ (bS_ (bw1_ HB.out GE436.out) hb); (try clear BK436); clear HB; have HB := n1_; clear n1_; (try clear hb)))
  go_ret2
  exact ⟨_, rb_, by first | exact Kd.S_nil _ _ _ _ _ | exact Kd.N_nil _ _ _ _ _ | exact Kd.V_nil _ _ _ _ _ | exact Kd.Q_nil _ _ _ _ _ | exact Kd.R_nil _ _ _ _ _, bw1_ HB.out GE436.out⟩

def laws_FnWorn_f.f (k : Nat) (l0 : List Int) : Option (Bool) := if (l0.length : Int) > 1048576 then (some true) else ((spec_DrawWearMatrix.f k l0).bind fun bt449 => ((impl_WearMatrix.f k bt449.1 bt449.2.1 bt449.2.2.1 bt449.2.2.2.1 bt449.2.2.2.2.1 bt449.2.2.2.2.2.1 bt449.2.2.2.2.2.2).bind fun bt463 => (if bt463.2 = true then (none) else ((spec_MagazineOk.f k bt449.1 bt449.2.1 bt449.2.2.1 bt449.2.2.2.1).bind fun t467 => (if t467 = true then (if bt449.2.2.2.2.1 < 0 then (some true) else (if bt449.2.2.2.2.1 ≥ (bt449.2.2.2.1.length : Int) then (some true) else (if bt449.2.2.2.2.2.1 < 0 then (some true) else (if 0 ≤ bt449.2.2.2.2.1 then (if bt449.2.2.2.2.1 < (bt449.2.2.2.1.length : Int) then (if bt449.2.2.2.2.2.1 ≥ ((rd_L2 bt449.2.2.2.1 bt449.2.2.2.2.1).length : Int) then (some true) else (if bt449.2.2.2.2.2.2 < 0 then (some true) else (if bt449.2.2.2.2.2.2 > 6 then (some true) else (if 0 ≤ bt449.2.2.2.2.2.1 then (if bt449.2.2.2.2.2.1 < ((rd_L2 bt449.2.2.2.1 bt449.2.2.2.2.1).length : Int) then (if 0 ≤ bt449.2.2.2.2.2.2 then (some ((Go.bits .and .i64 (shr .i64 ((rd_T30 (rd_L2 bt449.2.2.2.1 bt449.2.2.2.2.1) bt449.2.2.2.2.2.1).f1) bt449.2.2.2.2.2.2) 1) == 0)) else (none)) else (none)) else (none))))) else (none)) else (none))))) else (some true))))))
theorem laws_FnWorn_f.mono : ∀ a0 k, LeO (laws_FnWorn_f.f k a0) (laws_FnWorn_f.f (k + 1) a0) := by
 intro a0 k
 unfold laws_FnWorn_f.f
 repeat' first | (with_reducible first | exact impl_CountStrays.mono _ _ _ _ _ | exact impl_CountWorn.mono _ _ _ _ _ | exact impl_KindCounts.mono _ _ _ _ _ | exact impl_WearMatrix.mono _ _ _ _ _ _ _ _ | exact laws_ints.mono _ _ _ | exact spec_DrawWearMatrix.mono _ _ | exact spec_MagazineOk.mono _ _ _ _ _ | exact LeO.refl _ | exact LeO.none _ | refine LeO.ite ?_ ?_ | refine LeO.bind ?_ (fun _ => ?_)) | exact impl_CountStrays.mono _ _ _ _ _ | exact impl_CountWorn.mono _ _ _ _ _ | exact impl_KindCounts.mono _ _ _ _ _ | exact impl_WearMatrix.mono _ _ _ _ _ _ _ _ | exact laws_ints.mono _ _ _ | exact spec_DrawWearMatrix.mono _ _ | exact spec_MagazineOk.mono _ _ _ _ _ | exact LeO.none _ | refine LeO.ite ?_ ?_ | refine LeO.bind ?_ (fun _ => ?_)
set_option maxHeartbeats 8000000 in
set_option maxRecDepth 100000 in
theorem laws_FnWorn_f.calls (k : Nat) (A0 : Option Addr) (c0 : Nat) (l0 : List Int) (r : Bool) (w : World) (hr0 : Kd.C (Kd.int .u8) w A0 l0.length l0) (hc0 : l0.length ≤ c0) (h : laws_FnWorn_f.f k l0 = some r) :
    Calls Try.prog 15 #[.slice A0 l0.length c0] w fun e w' => e = .returned (.bool r) ∧ Below w.heap.size w w' := by
 have hu25 := Try.underlying25
 have hu30 := Try.underlying30
 have HR0 := M_ hr0
 have HC0 := M_ hc0
 clear hr0 hc0
 have HB := M_ (Below.refl w.heap.size w)
 have H : (if (l0.length : Int) > 1048576 then (some true) else ((spec_DrawWearMatrix.f k l0).bind fun bt449 => ((impl_WearMatrix.f k bt449.1 bt449.2.1 bt449.2.2.1 bt449.2.2.2.1 bt449.2.2.2.2.1 bt449.2.2.2.2.2.1 bt449.2.2.2.2.2.2).bind fun bt463 => (if bt463.2 = true then (none) else ((spec_MagazineOk.f k bt449.1 bt449.2.1 bt449.2.2.1 bt449.2.2.2.1).bind fun t467 => (if t467 = true then (if bt449.2.2.2.2.1 < 0 then (some true) else (if bt449.2.2.2.2.1 ≥ (bt449.2.2.2.1.length : Int) then (some true) else (if bt449.2.2.2.2.2.1 < 0 then (some true) else (if 0 ≤ bt449.2.2.2.2.1 then (if bt449.2.2.2.2.1 < (bt449.2.2.2.1.length : Int) then (if bt449.2.2.2.2.2.1 ≥ ((rd_L2 bt449.2.2.2.1 bt449.2.2.2.2.1).length : Int) then (some true) else (if bt449.2.2.2.2.2.2 < 0 then (some true) else (if bt449.2.2.2.2.2.2 > 6 then (some true) else (if 0 ≤ bt449.2.2.2.2.2.1 then (if bt449.2.2.2.2.2.1 < ((rd_L2 bt449.2.2.2.1 bt449.2.2.2.2.1).length : Int) then (if 0 ≤ bt449.2.2.2.2.2.2 then (some ((Go.bits .and .i64 (shr .i64 ((rd_T30 (rd_L2 bt449.2.2.2.1 bt449.2.2.2.2.1) bt449.2.2.2.2.2.1).f1) bt449.2.2.2.2.2.2) 1) == 0)) else (none)) else (none)) else (none))))) else (none)) else (none))))) else (some true))))))) = some r := h
 clear h
 by_cases c2 : (l0.length : Int) > 1048576
 ·rw [if_pos c2] at H
  have c2b0 : decide (1048576 < (l0.length : Int)) = true := dt_ c2
  have c2b1 : decide (1048576 < l0.length) = true := dt_ (by omega)
  clear c2
  obtain rfl := Option.some.inj H
  go_enter Try.func15, Try.ntmps15
  go_wp2
  go_ret
  exact ⟨rb_, bw0_ HB.out⟩
 ·rw [if_neg c2] at H
  have c2b0 : decide (1048576 < (l0.length : Int)) = false := decide_eq_false c2
  have c2b1 : decide (1048576 < l0.length) = false := decide_eq_false (by omega)
  clear c2
  replace H := bs_ H
  obtain ⟨⟨t449, t450, t453, t456, t459, t460, t461⟩, A30, H⟩ := H
  dsimp only at H
  have A3 := M_ A30
  clear A30
  replace H := bs_ H
  obtain ⟨⟨t463, t466⟩, A40, H⟩ := H
  dsimp only at H
  have A4 := M_ A40
  clear A40
  by_cases c5 : t466 = true
  ·subst c5
   rw [if_pos rfl] at H
   exact absurd H (by simp)
  ·replace c5 := Bool.eq_false_iff.mpr c5
   subst c5
   rw [if_neg (show ¬ (false = true) by decide)] at H
   replace H := bs_ H
   obtain ⟨t467, A60, H⟩ := H
   (try dsimp only at H)
   have A6 := M_ A60
   clear A60
   by_cases c7 : t467 = true
   ·subst c7
    rw [if_pos rfl] at H
    by_cases c8 : t459 < 0
    ·rw [if_pos c8] at H
     have c8b0 := dt_ c8
     clear c8
     obtain rfl := Option.some.inj H
     go_enter Try.func15, Try.ntmps15
     go_wp2_with (first | ((with_reducible refine gate_callee (f := 63) rfl ?_); refine gl_ (some 18) Try.func63 #[.slice A0 l0.length c0] ?_; (with_reducible refine (spec_DrawWearMatrix.calls k _ _ l0 t449 t450 t453 t456 t459 t460 t461 _ ?side1 ?side2 A3.out).mono ?_); (case side1 => exact kD_ HR0.out); (case side2 => exact HC0.out); rintro e w9 ⟨v451, v454, v457, rfl, ho0, ho1, ho2, hb⟩; refine ⟨_, rfl, ?_⟩; have z_ := t4_ (Kd.R_lower ho0 (below_size (bw0_ HB.out))) (Kd.R_lower ho1 (below_size (bw0_ HB.out))) (Kd.S_lower ho2 (below_size (bw0_ HB.out))) (bS_ (bw0_ HB.out) hb); clear HB; obtain ⟨HO452, HO455, HO458, HB⟩ := z_; (try clear ho2 ho1 ho0 hb)) | ((with_reducible refine gate_dst (N := 3) rfl ?_); (try (refine gate_guard (by rfl) ?_; dsimp only)); refine be_ 3 #[.string (⟨#[]⟩ : ByteArray), .slice none 0 0, .slice none 0 0] 25 ?_; intro gb462 hg w10 hbox hb; have z_ := t6_ (rB_ (kR_ HO452.out) hb) (rB_ (kR_ HO455.out) hb) (sB_ (kS_ HO458.out) hb) (bS_ (bw0_ HB.out) hb) hbox (gv_ hg (bw0_ HB.out) : w.heap.size ≤ gb462); (try clear HO458 HO455 HO452); clear HB; obtain ⟨HO452, HO455, HO458, HB, BK462, GE462⟩ := z_; clear hb hbox hg; have hcz11_0 := cz_ BK462.out 0 (.string (⟨#[]⟩ : ByteArray)); have hcz11_1 := cz_ BK462.out 1 (.slice none 0 0); have hcz11_2 := cz_ BK462.out 2 (.slice none 0 0); have hfz11_0 := fz_ BK462.out 0; have hfz11_1 := fz_ BK462.out 1; have hfz11_2 := fz_ BK462.out 2; obtain ⟨Ao12, co12, eo12⟩ := Kd.R_slice HO452.out; subst eo12; obtain ⟨Ao13, co13, eo13⟩ := Kd.R_slice HO455.out; subst eo13; obtain ⟨Ao14, co14, eo14⟩ := Kd.S_slice HO458.out; subst eo14) | ((with_reducible refine gate_callee (f := 64) rfl ?_); refine gl_ (some 30) Try.func64 #[.agg #[.string t449, .slice Ao12 t450.length co12, .slice Ao13 t453.length co13], .slice Ao14 t456.length co14, .int .i64 t459, .int .i64 t460, .int .i64 t461] ?_; (with_reducible refine (impl_WearMatrix.calls k t449 _ _ t450 _ _ t453 _ _ t456 t459 t460 t461 t463 false _ ?side1 ?side2 ?side3 ?side4 ?side5 ?side6 A4.out).mono ?_); (case side1 => refine (Kd.R_reads' (e := 3) (base := w.heap.size) (ok := fun k_ => some k_ ≠ (.slice Ao13 t453.length co13 : Value).ownBlock) (n := t450.length) (c := co12) ?_).2.2; exact (by refine kR_ ?_; exact (fR3_ HO452.out BK462.out))); (case side2 => exact (Kd.R_reads' HO452.out).2.1); (case side3 => refine (Kd.R_reads' (e := 3) (base := w.heap.size) (ok := fun k_ => some k_ ≠ (.slice Ao12 t450.length co12 : Value).ownBlock) (n := t453.length) (c := co13) ?_).2.2; exact (by refine kR_ ?_; exact (fR3_ HO455.out BK462.out))); (case side4 => exact (Kd.R_reads' HO455.out).2.1); (case side5 => refine (Kd.S_reads' (e := 34) (base := w.heap.size) (ok := fun k_ => True) (n := t456.length) (c := co14) ?_).2.2; exact (by refine kS_ ?_; exact (fS3_ HO458.out BK462.out))); (case side6 => exact (Kd.S_reads' HO458.out).2.1); rintro e w15 ⟨v464, rfl, ho0, hb⟩; refine ⟨_, rfl, ?_⟩; have z_ := t5_ (rB_ (by refine kR_ ?_; exact (fR3_ HO452.out BK462.out)) hb) (rB_ (by refine kR_ ?_; exact (fR3_ HO455.out BK462.out)) hb) (Kd.S_elder' (by refine kS_ ?_; exact (fS3_ HO458.out BK462.out)) (Kd.S_base ho0) hb) (bB_ (g := gb462) (o := .cells #[.string t449, .slice Ao12 t450.length co12, .slice Ao13 t453.length co13] 25 (0, 0)) (by refine bk_ ?_; refine blk_put (cs := #[.string t449, .slice Ao12 t450.length co12, .slice none 0 0]) ?_ 2 _ rfl; refine bk_ ?_; refine blk_put (cs := #[.string t449, .slice none 0 0, .slice none 0 0]) ?_ 1 _ rfl; refine bk_ ?_; refine blk_put (cs := #[.string (⟨#[]⟩ : ByteArray), .slice none 0 0, .slice none 0 0]) ?_ 0 _ rfl; refine bk_ ?_; exact BK462.out) hb) (bS_ (bw1_ HB.out GE462.out) hb); (try clear BK462 HO458 HO455 HO452); clear HB; obtain ⟨HO452, HO455, HO458, BK462, HB⟩ := z_; (try clear ho0 hb); have hcz16_0 := cz_ BK462.out 0 (.string t449); have hcz16_1 := cz_ BK462.out 1 (.slice Ao12 t450.length co12); have hcz16_2 := cz_ BK462.out 2 (.slice Ao13 t453.length co13); have hfz16_0 := fz_ BK462.out 0; have hfz16_1 := fz_ BK462.out 1; have hfz16_2 := fz_ BK462.out 2) | ((with_reducible refine gate_callee (f := 22) rfl ?_); refine gl_ (some 37) Try.func22 #[.agg #[.string t449, .slice Ao12 t450.length co12, .slice Ao13 t453.length co13], .slice Ao14 t456.length co14] ?_; (with_reducible refine (spec_MagazineOk.calls k t449 _ _ t450 _ _ t453 _ _ t456 true _ ?side1 ?side2 ?side3 ?side4 ?side5 ?side6 A6.out).mono ?_); (case side1 => exact kD_ (Kd.R_reads' HO452.out).2.2); (case side2 => exact (Kd.R_reads' HO452.out).2.1); (case side3 => exact kD_ (Kd.R_reads' HO455.out).2.2); (case side4 => exact (Kd.R_reads' HO455.out).2.1); (case side5 => exact kD_ (Kd.S_reads' HO458.out).2.2); (case side6 => exact (Kd.S_reads' HO458.out).2.1); rintro e w17 ⟨rfl, hb⟩; refine ⟨_, rfl, ?_⟩; have z_ := t5_ (rB_ (kR_ HO452.out) hb) (rB_ (kR_ HO455.out) hb) (sB_ (kS_ HO458.out) hb) (bB_ (bk_ BK462.out) hb) (bS_ (bw1_ HB.out GE462.out) hb); (try clear BK462 HO465 HO458 HO455 HO452); clear HB; obtain ⟨HO452, HO455, HO458, BK462, HB⟩ := z_; (try clear hb)))
     go_ret
     exact ⟨rb_, bw1_ HB.out GE462.out⟩
    ·rw [if_neg c8] at H
     have c8b0 := decide_eq_false c8
     clear c8
     by_cases c18 : t459 ≥ (t456.length : Int)
     ·rw [if_pos c18] at H
      have c18b0 : decide ((t456.length : Int) ≤ t459) = true := dt_ c18
      clear c18
      obtain rfl := Option.some.inj H
      go_enter Try.func15, Try.ntmps15
      go_wp2_with (first | ((with_reducible refine gate_callee (f := 63) rfl ?_); refine gl_ (some 18) Try.func63 #[.slice A0 l0.length c0] ?_; (with_reducible refine (spec_DrawWearMatrix.calls k _ _ l0 t449 t450 t453 t456 t459 t460 t461 _ ?side1 ?side2 A3.out).mono ?_); (case side1 => exact kD_ HR0.out); (case side2 => exact HC0.out); rintro e w19 ⟨v451, v454, v457, rfl, ho0, ho1, ho2, hb⟩; refine ⟨_, rfl, ?_⟩; have z_ := t4_ (Kd.R_lower ho0 (below_size (bw0_ HB.out))) (Kd.R_lower ho1 (below_size (bw0_ HB.out))) (Kd.S_lower ho2 (below_size (bw0_ HB.out))) (bS_ (bw0_ HB.out) hb); clear HB; obtain ⟨HO452, HO455, HO458, HB⟩ := z_; (try clear ho2 ho1 ho0 hb)) | ((with_reducible refine gate_dst (N := 3) rfl ?_); (try (refine gate_guard (by rfl) ?_; dsimp only)); refine be_ 3 #[.string (⟨#[]⟩ : ByteArray), .slice none 0 0, .slice none 0 0] 25 ?_; intro gb462 hg w20 hbox hb; have z_ := t6_ (rB_ (kR_ HO452.out) hb) (rB_ (kR_ HO455.out) hb) (sB_ (kS_ HO458.out) hb) (bS_ (bw0_ HB.out) hb) hbox (gv_ hg (bw0_ HB.out) : w.heap.size ≤ gb462); (try clear HO458 HO455 HO452); clear HB; obtain ⟨HO452, HO455, HO458, HB, BK462, GE462⟩ := z_; clear hb hbox hg; have hcz21_0 := cz_ BK462.out 0 (.string (⟨#[]⟩ : ByteArray)); have hcz21_1 := cz_ BK462.out 1 (.slice none 0 0); have hcz21_2 := cz_ BK462.out 2 (.slice none 0 0); have hfz21_0 := fz_ BK462.out 0; have hfz21_1 := fz_ BK462.out 1; have hfz21_2 := fz_ BK462.out 2; obtain ⟨Ao22, co22, eo22⟩ := Kd.R_slice HO452.out; subst eo22; obtain ⟨Ao23, co23, eo23⟩ := Kd.R_slice HO455.out; subst eo23; obtain ⟨Ao24, co24, eo24⟩ := Kd.S_slice HO458.out; subst eo24) | ((with_reducible refine gate_callee (f := 64) rfl ?_); refine gl_ (some 30) Try.func64 #[.agg #[.string t449, .slice Ao22 t450.length co22, .slice Ao23 t453.length co23], .slice Ao24 t456.length co24, .int .i64 t459, .int .i64 t460, .int .i64 t461] ?_; (with_reducible refine (impl_WearMatrix.calls k t449 _ _ t450 _ _ t453 _ _ t456 t459 t460 t461 t463 false _ ?side1 ?side2 ?side3 ?side4 ?side5 ?side6 A4.out).mono ?_); (case side1 => refine (Kd.R_reads' (e := 3) (base := w.heap.size) (ok := fun k_ => some k_ ≠ (.slice Ao23 t453.length co23 : Value).ownBlock) (n := t450.length) (c := co22) ?_).2.2; exact (by refine kR_ ?_; exact (fR3_ HO452.out BK462.out))); (case side2 => exact (Kd.R_reads' HO452.out).2.1); (case side3 => refine (Kd.R_reads' (e := 3) (base := w.heap.size) (ok := fun k_ => some k_ ≠ (.slice Ao22 t450.length co22 : Value).ownBlock) (n := t453.length) (c := co23) ?_).2.2; exact (by refine kR_ ?_; exact (fR3_ HO455.out BK462.out))); (case side4 => exact (Kd.R_reads' HO455.out).2.1); (case side5 => refine (Kd.S_reads' (e := 34) (base := w.heap.size) (ok := fun k_ => True) (n := t456.length) (c := co24) ?_).2.2; exact (by refine kS_ ?_; exact (fS3_ HO458.out BK462.out))); (case side6 => exact (Kd.S_reads' HO458.out).2.1); rintro e w25 ⟨v464, rfl, ho0, hb⟩; refine ⟨_, rfl, ?_⟩; have z_ := t5_ (rB_ (by refine kR_ ?_; exact (fR3_ HO452.out BK462.out)) hb) (rB_ (by refine kR_ ?_; exact (fR3_ HO455.out BK462.out)) hb) (Kd.S_elder' (by refine kS_ ?_; exact (fS3_ HO458.out BK462.out)) (Kd.S_base ho0) hb) (bB_ (g := gb462) (o := .cells #[.string t449, .slice Ao22 t450.length co22, .slice Ao23 t453.length co23] 25 (0, 0)) (by refine bk_ ?_; refine blk_put (cs := #[.string t449, .slice Ao22 t450.length co22, .slice none 0 0]) ?_ 2 _ rfl; refine bk_ ?_; refine blk_put (cs := #[.string t449, .slice none 0 0, .slice none 0 0]) ?_ 1 _ rfl; refine bk_ ?_; refine blk_put (cs := #[.string (⟨#[]⟩ : ByteArray), .slice none 0 0, .slice none 0 0]) ?_ 0 _ rfl; refine bk_ ?_; exact BK462.out) hb) (bS_ (bw1_ HB.out GE462.out) hb); (try clear BK462 HO458 HO455 HO452); clear HB; obtain ⟨HO452, HO455, HO458, BK462, HB⟩ := z_; (try clear ho0 hb); have hcz26_0 := cz_ BK462.out 0 (.string t449); have hcz26_1 := cz_ BK462.out 1 (.slice Ao22 t450.length co22); have hcz26_2 := cz_ BK462.out 2 (.slice Ao23 t453.length co23); have hfz26_0 := fz_ BK462.out 0; have hfz26_1 := fz_ BK462.out 1; have hfz26_2 := fz_ BK462.out 2) | ((with_reducible refine gate_callee (f := 22) rfl ?_); refine gl_ (some 37) Try.func22 #[.agg #[.string t449, .slice Ao22 t450.length co22, .slice Ao23 t453.length co23], .slice Ao24 t456.length co24] ?_; (with_reducible refine (spec_MagazineOk.calls k t449 _ _ t450 _ _ t453 _ _ t456 true _ ?side1 ?side2 ?side3 ?side4 ?side5 ?side6 A6.out).mono ?_); (case side1 => exact kD_ (Kd.R_reads' HO452.out).2.2); (case side2 => exact (Kd.R_reads' HO452.out).2.1); (case side3 => exact kD_ (Kd.R_reads' HO455.out).2.2); (case side4 => exact (Kd.R_reads' HO455.out).2.1); (case side5 => exact kD_ (Kd.S_reads' HO458.out).2.2); (case side6 => exact (Kd.S_reads' HO458.out).2.1); rintro e w27 ⟨rfl, hb⟩; refine ⟨_, rfl, ?_⟩; have z_ := t5_ (rB_ (kR_ HO452.out) hb) (rB_ (kR_ HO455.out) hb) (sB_ (kS_ HO458.out) hb) (bB_ (bk_ BK462.out) hb) (bS_ (bw1_ HB.out GE462.out) hb); (try clear BK462 HO465 HO458 HO455 HO452); clear HB; obtain ⟨HO452, HO455, HO458, BK462, HB⟩ := z_; (try clear hb)))
      go_ret
      exact ⟨rb_, bw1_ HB.out GE462.out⟩
     ·rw [if_neg c18] at H
      have c18b0 : decide ((t456.length : Int) ≤ t459) = false := decide_eq_false c18
      clear c18
      by_cases c28 : t460 < 0
      ·rw [if_pos c28] at H
       have c28b0 := dt_ c28
       clear c28
       obtain rfl := Option.some.inj H
       go_enter Try.func15, Try.ntmps15
       go_wp2_with (first | ((with_reducible refine gate_callee (f := 63) rfl ?_); refine gl_ (some 18) Try.func63 #[.slice A0 l0.length c0] ?_; (with_reducible refine (spec_DrawWearMatrix.calls k _ _ l0 t449 t450 t453 t456 t459 t460 t461 _ ?side1 ?side2 A3.out).mono ?_); (case side1 => exact kD_ HR0.out); (case side2 => exact HC0.out); rintro e w29 ⟨v451, v454, v457, rfl, ho0, ho1, ho2, hb⟩; refine ⟨_, rfl, ?_⟩; have z_ := t4_ (Kd.R_lower ho0 (below_size (bw0_ HB.out))) (Kd.R_lower ho1 (below_size (bw0_ HB.out))) (Kd.S_lower ho2 (below_size (bw0_ HB.out))) (bS_ (bw0_ HB.out) hb); clear HB; obtain ⟨HO452, HO455, HO458, HB⟩ := z_; (try clear ho2 ho1 ho0 hb)) | ((with_reducible refine gate_dst (N := 3) rfl ?_); (try (refine gate_guard (by rfl) ?_; dsimp only)); refine be_ 3 #[.string (⟨#[]⟩ : ByteArray), .slice none 0 0, .slice none 0 0] 25 ?_; intro gb462 hg w30 hbox hb; have z_ := t6_ (rB_ (kR_ HO452.out) hb) (rB_ (kR_ HO455.out) hb) (sB_ (kS_ HO458.out) hb) (bS_ (bw0_ HB.out) hb) hbox (gv_ hg (bw0_ HB.out) : w.heap.size ≤ gb462); (try clear HO458 HO455 HO452); clear HB; obtain ⟨HO452, HO455, HO458, HB, BK462, GE462⟩ := z_; clear hb hbox hg; have hcz31_0 := cz_ BK462.out 0 (.string (⟨#[]⟩ : ByteArray)); have hcz31_1 := cz_ BK462.out 1 (.slice none 0 0); have hcz31_2 := cz_ BK462.out 2 (.slice none 0 0); have hfz31_0 := fz_ BK462.out 0; have hfz31_1 := fz_ BK462.out 1; have hfz31_2 := fz_ BK462.out 2; obtain ⟨Ao32, co32, eo32⟩ := Kd.R_slice HO452.out; subst eo32; obtain ⟨Ao33, co33, eo33⟩ := Kd.R_slice HO455.out; subst eo33; obtain ⟨Ao34, co34, eo34⟩ := Kd.S_slice HO458.out; subst eo34) | ((with_reducible refine gate_callee (f := 64) rfl ?_); refine gl_ (some 30) Try.func64 #[.agg #[.string t449, .slice Ao32 t450.length co32, .slice Ao33 t453.length co33], .slice Ao34 t456.length co34, .int .i64 t459, .int .i64 t460, .int .i64 t461] ?_; (with_reducible refine (impl_WearMatrix.calls k t449 _ _ t450 _ _ t453 _ _ t456 t459 t460 t461 t463 false _ ?side1 ?side2 ?side3 ?side4 ?side5 ?side6 A4.out).mono ?_); (case side1 => refine (Kd.R_reads' (e := 3) (base := w.heap.size) (ok := fun k_ => some k_ ≠ (.slice Ao33 t453.length co33 : Value).ownBlock) (n := t450.length) (c := co32) ?_).2.2; exact (by refine kR_ ?_; exact (fR3_ HO452.out BK462.out))); (case side2 => exact (Kd.R_reads' HO452.out).2.1); (case side3 => refine (Kd.R_reads' (e := 3) (base := w.heap.size) (ok := fun k_ => some k_ ≠ (.slice Ao32 t450.length co32 : Value).ownBlock) (n := t453.length) (c := co33) ?_).2.2; exact (by refine kR_ ?_; exact (fR3_ HO455.out BK462.out))); (case side4 => exact (Kd.R_reads' HO455.out).2.1); (case side5 => refine (Kd.S_reads' (e := 34) (base := w.heap.size) (ok := fun k_ => True) (n := t456.length) (c := co34) ?_).2.2; exact (by refine kS_ ?_; exact (fS3_ HO458.out BK462.out))); (case side6 => exact (Kd.S_reads' HO458.out).2.1); rintro e w35 ⟨v464, rfl, ho0, hb⟩; refine ⟨_, rfl, ?_⟩; have z_ := t5_ (rB_ (by refine kR_ ?_; exact (fR3_ HO452.out BK462.out)) hb) (rB_ (by refine kR_ ?_; exact (fR3_ HO455.out BK462.out)) hb) (Kd.S_elder' (by refine kS_ ?_; exact (fS3_ HO458.out BK462.out)) (Kd.S_base ho0) hb) (bB_ (g := gb462) (o := .cells #[.string t449, .slice Ao32 t450.length co32, .slice Ao33 t453.length co33] 25 (0, 0)) (by refine bk_ ?_; refine blk_put (cs := #[.string t449, .slice Ao32 t450.length co32, .slice none 0 0]) ?_ 2 _ rfl; refine bk_ ?_; refine blk_put (cs := #[.string t449, .slice none 0 0, .slice none 0 0]) ?_ 1 _ rfl; refine bk_ ?_; refine blk_put (cs := #[.string (⟨#[]⟩ : ByteArray), .slice none 0 0, .slice none 0 0]) ?_ 0 _ rfl; refine bk_ ?_; exact BK462.out) hb) (bS_ (bw1_ HB.out GE462.out) hb); (try clear BK462 HO458 HO455 HO452); clear HB; obtain ⟨HO452, HO455, HO458, BK462, HB⟩ := z_; (try clear ho0 hb); have hcz36_0 := cz_ BK462.out 0 (.string t449); have hcz36_1 := cz_ BK462.out 1 (.slice Ao32 t450.length co32); have hcz36_2 := cz_ BK462.out 2 (.slice Ao33 t453.length co33); have hfz36_0 := fz_ BK462.out 0; have hfz36_1 := fz_ BK462.out 1; have hfz36_2 := fz_ BK462.out 2) | ((with_reducible refine gate_callee (f := 22) rfl ?_); refine gl_ (some 37) Try.func22 #[.agg #[.string t449, .slice Ao32 t450.length co32, .slice Ao33 t453.length co33], .slice Ao34 t456.length co34] ?_; (with_reducible refine (spec_MagazineOk.calls k t449 _ _ t450 _ _ t453 _ _ t456 true _ ?side1 ?side2 ?side3 ?side4 ?side5 ?side6 A6.out).mono ?_); (case side1 => exact kD_ (Kd.R_reads' HO452.out).2.2); (case side2 => exact (Kd.R_reads' HO452.out).2.1); (case side3 => exact kD_ (Kd.R_reads' HO455.out).2.2); (case side4 => exact (Kd.R_reads' HO455.out).2.1); (case side5 => exact kD_ (Kd.S_reads' HO458.out).2.2); (case side6 => exact (Kd.S_reads' HO458.out).2.1); rintro e w37 ⟨rfl, hb⟩; refine ⟨_, rfl, ?_⟩; have z_ := t5_ (rB_ (kR_ HO452.out) hb) (rB_ (kR_ HO455.out) hb) (sB_ (kS_ HO458.out) hb) (bB_ (bk_ BK462.out) hb) (bS_ (bw1_ HB.out GE462.out) hb); (try clear BK462 HO465 HO458 HO455 HO452); clear HB; obtain ⟨HO452, HO455, HO458, BK462, HB⟩ := z_; (try clear hb)))
       go_ret
       exact ⟨rb_, bw1_ HB.out GE462.out⟩
      ·rw [if_neg c28] at H
       have c28b0 := decide_eq_false c28
       clear c28
       by_cases c38 : 0 ≤ t459
       ·rw [if_pos c38] at H
        have c38b0 := dt_ c38
        clear c38
        by_cases c39 : t459 < (t456.length : Int)
        ·rw [if_pos c39] at H
         have c39b0 := dt_ c39
         clear c39
         by_cases c40 : t460 ≥ ((rd_L2 t456 t459).length : Int)
         ·rw [if_pos c40] at H
          have c40b0 : decide (((rd_L2 t456 t459).length : Int) ≤ t460) = true := dt_ c40
          clear c40
          obtain rfl := Option.some.inj H
          go_enter Try.func15, Try.ntmps15
          go_wp2_with (first | ((with_reducible refine gate_callee (f := 63) rfl ?_); refine gl_ (some 18) Try.func63 #[.slice A0 l0.length c0] ?_; (with_reducible refine (spec_DrawWearMatrix.calls k _ _ l0 t449 t450 t453 t456 t459 t460 t461 _ ?side1 ?side2 A3.out).mono ?_); (case side1 => exact kD_ HR0.out); (case side2 => exact HC0.out); rintro e w41 ⟨v451, v454, v457, rfl, ho0, ho1, ho2, hb⟩; refine ⟨_, rfl, ?_⟩; have z_ := t4_ (Kd.R_lower ho0 (below_size (bw0_ HB.out))) (Kd.R_lower ho1 (below_size (bw0_ HB.out))) (Kd.S_lower ho2 (below_size (bw0_ HB.out))) (bS_ (bw0_ HB.out) hb); clear HB; obtain ⟨HO452, HO455, HO458, HB⟩ := z_; (try clear ho2 ho1 ho0 hb)) | ((with_reducible refine gate_dst (N := 3) rfl ?_); (try (refine gate_guard (by rfl) ?_; dsimp only)); refine be_ 3 #[.string (⟨#[]⟩ : ByteArray), .slice none 0 0, .slice none 0 0] 25 ?_; intro gb462 hg w42 hbox hb; have z_ := t6_ (rB_ (kR_ HO452.out) hb) (rB_ (kR_ HO455.out) hb) (sB_ (kS_ HO458.out) hb) (bS_ (bw0_ HB.out) hb) hbox (gv_ hg (bw0_ HB.out) : w.heap.size ≤ gb462); (try clear HO458 HO455 HO452); clear HB; obtain ⟨HO452, HO455, HO458, HB, BK462, GE462⟩ := z_; clear hb hbox hg; have hcz43_0 := cz_ BK462.out 0 (.string (⟨#[]⟩ : ByteArray)); have hcz43_1 := cz_ BK462.out 1 (.slice none 0 0); have hcz43_2 := cz_ BK462.out 2 (.slice none 0 0); have hfz43_0 := fz_ BK462.out 0; have hfz43_1 := fz_ BK462.out 1; have hfz43_2 := fz_ BK462.out 2; obtain ⟨Ao44, co44, eo44⟩ := Kd.R_slice HO452.out; subst eo44; obtain ⟨Ao45, co45, eo45⟩ := Kd.R_slice HO455.out; subst eo45; obtain ⟨Ao46, co46, eo46⟩ := Kd.S_slice HO458.out; subst eo46) | ((with_reducible refine gate_callee (f := 64) rfl ?_); refine gl_ (some 30) Try.func64 #[.agg #[.string t449, .slice Ao44 t450.length co44, .slice Ao45 t453.length co45], .slice Ao46 t456.length co46, .int .i64 t459, .int .i64 t460, .int .i64 t461] ?_; (with_reducible refine (impl_WearMatrix.calls k t449 _ _ t450 _ _ t453 _ _ t456 t459 t460 t461 t463 false _ ?side1 ?side2 ?side3 ?side4 ?side5 ?side6 A4.out).mono ?_); (case side1 => refine (Kd.R_reads' (e := 3) (base := w.heap.size) (ok := fun k_ => some k_ ≠ (.slice Ao45 t453.length co45 : Value).ownBlock) (n := t450.length) (c := co44) ?_).2.2; exact (by refine kR_ ?_; exact (fR3_ HO452.out BK462.out))); (case side2 => exact (Kd.R_reads' HO452.out).2.1); (case side3 => refine (Kd.R_reads' (e := 3) (base := w.heap.size) (ok := fun k_ => some k_ ≠ (.slice Ao44 t450.length co44 : Value).ownBlock) (n := t453.length) (c := co45) ?_).2.2; exact (by refine kR_ ?_; exact (fR3_ HO455.out BK462.out))); (case side4 => exact (Kd.R_reads' HO455.out).2.1); (case side5 => refine (Kd.S_reads' (e := 34) (base := w.heap.size) (ok := fun k_ => True) (n := t456.length) (c := co46) ?_).2.2; exact (by refine kS_ ?_; exact (fS3_ HO458.out BK462.out))); (case side6 => exact (Kd.S_reads' HO458.out).2.1); rintro e w47 ⟨v464, rfl, ho0, hb⟩; refine ⟨_, rfl, ?_⟩; have z_ := t5_ (rB_ (by refine kR_ ?_; exact (fR3_ HO452.out BK462.out)) hb) (rB_ (by refine kR_ ?_; exact (fR3_ HO455.out BK462.out)) hb) (Kd.S_elder' (by refine kS_ ?_; exact (fS3_ HO458.out BK462.out)) (Kd.S_base ho0) hb) (bB_ (g := gb462) (o := .cells #[.string t449, .slice Ao44 t450.length co44, .slice Ao45 t453.length co45] 25 (0, 0)) (by refine bk_ ?_; refine blk_put (cs := #[.string t449, .slice Ao44 t450.length co44, .slice none 0 0]) ?_ 2 _ rfl; refine bk_ ?_; refine blk_put (cs := #[.string t449, .slice none 0 0, .slice none 0 0]) ?_ 1 _ rfl; refine bk_ ?_; refine blk_put (cs := #[.string (⟨#[]⟩ : ByteArray), .slice none 0 0, .slice none 0 0]) ?_ 0 _ rfl; refine bk_ ?_; exact BK462.out) hb) (bS_ (bw1_ HB.out GE462.out) hb); (try clear BK462 HO458 HO455 HO452); clear HB; obtain ⟨HO452, HO455, HO458, BK462, HB⟩ := z_; (try clear ho0 hb); have hcz48_0 := cz_ BK462.out 0 (.string t449); have hcz48_1 := cz_ BK462.out 1 (.slice Ao44 t450.length co44); have hcz48_2 := cz_ BK462.out 2 (.slice Ao45 t453.length co45); have hfz48_0 := fz_ BK462.out 0; have hfz48_1 := fz_ BK462.out 1; have hfz48_2 := fz_ BK462.out 2) | ((with_reducible refine gate_callee (f := 22) rfl ?_); refine gl_ (some 37) Try.func22 #[.agg #[.string t449, .slice Ao44 t450.length co44, .slice Ao45 t453.length co45], .slice Ao46 t456.length co46] ?_; (with_reducible refine (spec_MagazineOk.calls k t449 _ _ t450 _ _ t453 _ _ t456 true _ ?side1 ?side2 ?side3 ?side4 ?side5 ?side6 A6.out).mono ?_); (case side1 => exact kD_ (Kd.R_reads' HO452.out).2.2); (case side2 => exact (Kd.R_reads' HO452.out).2.1); (case side3 => exact kD_ (Kd.R_reads' HO455.out).2.2); (case side4 => exact (Kd.R_reads' HO455.out).2.1); (case side5 => exact kD_ (Kd.S_reads' HO458.out).2.2); (case side6 => exact (Kd.S_reads' HO458.out).2.1); rintro e w49 ⟨rfl, hb⟩; refine ⟨_, rfl, ?_⟩; have z_ := t5_ (rB_ (kR_ HO452.out) hb) (rB_ (kR_ HO455.out) hb) (sB_ (kS_ HO458.out) hb) (bB_ (bk_ BK462.out) hb) (bS_ (bw1_ HB.out GE462.out) hb); (try clear BK462 HO465 HO458 HO455 HO452); clear HB; obtain ⟨HO452, HO455, HO458, BK462, HB⟩ := z_; (try clear hb); have p468 : 0 ≤ (t459 : Int) := od_ as_; have q468 : t459 < (t456.length : Int) := od_ as_; obtain ⟨ad468, A468_0, c468_0, e468, hx468_0, hl468_0, hi468_0⟩ := at_L2 (Kd.S_reads' HO458.out).2.2 t459 p468 q468; cases e468; obtain ⟨ce468, hce468, hMe468, hcc468⟩ := Kd.S_get HO458.out [] t459 p468 (by first | exact q468 | exact od_ as_ | (have e_ := (Kd.S_reads' HO458.out).1; omega)); obtain ⟨ve468_0, rfl, ge468_0⟩ := hMe468; have hv468_0 := hcc468 0 _ rfl; rw [Nat.add_zero, show ((Kd.slice 30 k30)).sz = 1 from rfl, Nat.mul_one] at hv468_0; replace hv468_0 := Option.some.inj (hv468_0.symm.trans hx468_0); rw [hv468_0] at ge468_0; have HL468_0 := M_ (show Kd.R k30 30 _ _ _ _ (rd_L2 t456 t459) from ge468_0); clear hce468 hcc468 ge468_0 hv468_0; have HR468_0 := M_ hi468_0; have HC468_0 := M_ hl468_0; clear hi468_0 hl468_0; replace p468 := eq_true p468; replace q468 := eq_true q468))
          go_ret
          exact ⟨rb_, bw1_ HB.out GE462.out⟩
         ·rw [if_neg c40] at H
          have c40b0 : decide (((rd_L2 t456 t459).length : Int) ≤ t460) = false := decide_eq_false c40
          clear c40
          by_cases c50 : t461 < 0
          ·rw [if_pos c50] at H
           have c50b0 := dt_ c50
           clear c50
           obtain rfl := Option.some.inj H
           go_enter Try.func15, Try.ntmps15
           go_wp2_with (first | ((with_reducible refine gate_callee (f := 63) rfl ?_); refine gl_ (some 18) Try.func63 #[.slice A0 l0.length c0] ?_; (with_reducible refine (spec_DrawWearMatrix.calls k _ _ l0 t449 t450 t453 t456 t459 t460 t461 _ ?side1 ?side2 A3.out).mono ?_); (case side1 => exact kD_ HR0.out); (case side2 => exact HC0.out); rintro e w51 ⟨v451, v454, v457, rfl, ho0, ho1, ho2, hb⟩; refine ⟨_, rfl, ?_⟩; have z_ := t4_ (Kd.R_lower ho0 (below_size (bw0_ HB.out))) (Kd.R_lower ho1 (below_size (bw0_ HB.out))) (Kd.S_lower ho2 (below_size (bw0_ HB.out))) (bS_ (bw0_ HB.out) hb); clear HB; obtain ⟨HO452, HO455, HO458, HB⟩ := z_; (try clear ho2 ho1 ho0 hb)) | ((with_reducible refine gate_dst (N := 3) rfl ?_); (try (refine gate_guard (by rfl) ?_; dsimp only)); refine be_ 3 #[.string (⟨#[]⟩ : ByteArray), .slice none 0 0, .slice none 0 0] 25 ?_; intro gb462 hg w52 hbox hb; have z_ := t6_ (rB_ (kR_ HO452.out) hb) (rB_ (kR_ HO455.out) hb) (sB_ (kS_ HO458.out) hb) (bS_ (bw0_ HB.out) hb) hbox (gv_ hg (bw0_ HB.out) : w.heap.size ≤ gb462); (try clear HO458 HO455 HO452); clear HB; obtain ⟨HO452, HO455, HO458, HB, BK462, GE462⟩ := z_; clear hb hbox hg; have hcz53_0 := cz_ BK462.out 0 (.string (⟨#[]⟩ : ByteArray)); have hcz53_1 := cz_ BK462.out 1 (.slice none 0 0); have hcz53_2 := cz_ BK462.out 2 (.slice none 0 0); have hfz53_0 := fz_ BK462.out 0; have hfz53_1 := fz_ BK462.out 1; have hfz53_2 := fz_ BK462.out 2; obtain ⟨Ao54, co54, eo54⟩ := Kd.R_slice HO452.out; subst eo54; obtain ⟨Ao55, co55, eo55⟩ := Kd.R_slice HO455.out; subst eo55; obtain ⟨Ao56, co56, eo56⟩ := Kd.S_slice HO458.out; subst eo56) | ((with_reducible refine gate_callee (f := 64) rfl ?_); refine gl_ (some 30) Try.func64 #[.agg #[.string t449, .slice Ao54 t450.length co54, .slice Ao55 t453.length co55], .slice Ao56 t456.length co56, .int .i64 t459, .int .i64 t460, .int .i64 t461] ?_; (with_reducible refine (impl_WearMatrix.calls k t449 _ _ t450 _ _ t453 _ _ t456 t459 t460 t461 t463 false _ ?side1 ?side2 ?side3 ?side4 ?side5 ?side6 A4.out).mono ?_); (case side1 => refine (Kd.R_reads' (e := 3) (base := w.heap.size) (ok := fun k_ => some k_ ≠ (.slice Ao55 t453.length co55 : Value).ownBlock) (n := t450.length) (c := co54) ?_).2.2; exact (by refine kR_ ?_; exact (fR3_ HO452.out BK462.out))); (case side2 => exact (Kd.R_reads' HO452.out).2.1); (case side3 => refine (Kd.R_reads' (e := 3) (base := w.heap.size) (ok := fun k_ => some k_ ≠ (.slice Ao54 t450.length co54 : Value).ownBlock) (n := t453.length) (c := co55) ?_).2.2; exact (by refine kR_ ?_; exact (fR3_ HO455.out BK462.out))); (case side4 => exact (Kd.R_reads' HO455.out).2.1); (case side5 => refine (Kd.S_reads' (e := 34) (base := w.heap.size) (ok := fun k_ => True) (n := t456.length) (c := co56) ?_).2.2; exact (by refine kS_ ?_; exact (fS3_ HO458.out BK462.out))); (case side6 => exact (Kd.S_reads' HO458.out).2.1); rintro e w57 ⟨v464, rfl, ho0, hb⟩; refine ⟨_, rfl, ?_⟩; have z_ := t5_ (rB_ (by refine kR_ ?_; exact (fR3_ HO452.out BK462.out)) hb) (rB_ (by refine kR_ ?_; exact (fR3_ HO455.out BK462.out)) hb) (Kd.S_elder' (by refine kS_ ?_; exact (fS3_ HO458.out BK462.out)) (Kd.S_base ho0) hb) (bB_ (g := gb462) (o := .cells #[.string t449, .slice Ao54 t450.length co54, .slice Ao55 t453.length co55] 25 (0, 0)) (by refine bk_ ?_; refine blk_put (cs := #[.string t449, .slice Ao54 t450.length co54, .slice none 0 0]) ?_ 2 _ rfl; refine bk_ ?_; refine blk_put (cs := #[.string t449, .slice none 0 0, .slice none 0 0]) ?_ 1 _ rfl; refine bk_ ?_; refine blk_put (cs := #[.string (⟨#[]⟩ : ByteArray), .slice none 0 0, .slice none 0 0]) ?_ 0 _ rfl; refine bk_ ?_; exact BK462.out) hb) (bS_ (bw1_ HB.out GE462.out) hb); (try clear BK462 HO458 HO455 HO452); clear HB; obtain ⟨HO452, HO455, HO458, BK462, HB⟩ := z_; (try clear ho0 hb); have hcz58_0 := cz_ BK462.out 0 (.string t449); have hcz58_1 := cz_ BK462.out 1 (.slice Ao54 t450.length co54); have hcz58_2 := cz_ BK462.out 2 (.slice Ao55 t453.length co55); have hfz58_0 := fz_ BK462.out 0; have hfz58_1 := fz_ BK462.out 1; have hfz58_2 := fz_ BK462.out 2) | ((with_reducible refine gate_callee (f := 22) rfl ?_); refine gl_ (some 37) Try.func22 #[.agg #[.string t449, .slice Ao54 t450.length co54, .slice Ao55 t453.length co55], .slice Ao56 t456.length co56] ?_; (with_reducible refine (spec_MagazineOk.calls k t449 _ _ t450 _ _ t453 _ _ t456 true _ ?side1 ?side2 ?side3 ?side4 ?side5 ?side6 A6.out).mono ?_); (case side1 => exact kD_ (Kd.R_reads' HO452.out).2.2); (case side2 => exact (Kd.R_reads' HO452.out).2.1); (case side3 => exact kD_ (Kd.R_reads' HO455.out).2.2); (case side4 => exact (Kd.R_reads' HO455.out).2.1); (case side5 => exact kD_ (Kd.S_reads' HO458.out).2.2); (case side6 => exact (Kd.S_reads' HO458.out).2.1); rintro e w59 ⟨rfl, hb⟩; refine ⟨_, rfl, ?_⟩; have z_ := t5_ (rB_ (kR_ HO452.out) hb) (rB_ (kR_ HO455.out) hb) (sB_ (kS_ HO458.out) hb) (bB_ (bk_ BK462.out) hb) (bS_ (bw1_ HB.out GE462.out) hb); (try clear BK462 HO465 HO458 HO455 HO452); clear HB; obtain ⟨HO452, HO455, HO458, BK462, HB⟩ := z_; (try clear hb); have p468 : 0 ≤ (t459 : Int) := od_ as_; have q468 : t459 < (t456.length : Int) := od_ as_; obtain ⟨ad468, A468_0, c468_0, e468, hx468_0, hl468_0, hi468_0⟩ := at_L2 (Kd.S_reads' HO458.out).2.2 t459 p468 q468; cases e468; obtain ⟨ce468, hce468, hMe468, hcc468⟩ := Kd.S_get HO458.out [] t459 p468 (by first | exact q468 | exact od_ as_ | (have e_ := (Kd.S_reads' HO458.out).1; omega)); obtain ⟨ve468_0, rfl, ge468_0⟩ := hMe468; have hv468_0 := hcc468 0 _ rfl; rw [Nat.add_zero, show ((Kd.slice 30 k30)).sz = 1 from rfl, Nat.mul_one] at hv468_0; replace hv468_0 := Option.some.inj (hv468_0.symm.trans hx468_0); rw [hv468_0] at ge468_0; have HL468_0 := M_ (show Kd.R k30 30 _ _ _ _ (rd_L2 t456 t459) from ge468_0); clear hce468 hcc468 ge468_0 hv468_0; have HR468_0 := M_ hi468_0; have HC468_0 := M_ hl468_0; clear hi468_0 hl468_0; replace p468 := eq_true p468; replace q468 := eq_true q468))
           go_ret
           exact ⟨rb_, bw1_ HB.out GE462.out⟩
          ·rw [if_neg c50] at H
           have c50b0 := decide_eq_false c50
           clear c50
           by_cases c60 : t461 > 6
           ·rw [if_pos c60] at H
            have c60b0 : decide (6 < t461) = true := dt_ c60
            clear c60
            obtain rfl := Option.some.inj H
            go_enter Try.func15, Try.ntmps15
            go_wp2_with (first | ((with_reducible refine gate_callee (f := 63) rfl ?_); refine gl_ (some 18) Try.func63 #[.slice A0 l0.length c0] ?_; (with_reducible refine (spec_DrawWearMatrix.calls k _ _ l0 t449 t450 t453 t456 t459 t460 t461 _ ?side1 ?side2 A3.out).mono ?_); (case side1 => exact kD_ HR0.out); (case side2 => exact HC0.out); rintro e w61 ⟨v451, v454, v457, rfl, ho0, ho1, ho2, hb⟩; refine ⟨_, rfl, ?_⟩; have z_ := t4_ (Kd.R_lower ho0 (below_size (bw0_ HB.out))) (Kd.R_lower ho1 (below_size (bw0_ HB.out))) (Kd.S_lower ho2 (below_size (bw0_ HB.out))) (bS_ (bw0_ HB.out) hb); clear HB; obtain ⟨HO452, HO455, HO458, HB⟩ := z_; (try clear ho2 ho1 ho0 hb)) | ((with_reducible refine gate_dst (N := 3) rfl ?_); (try (refine gate_guard (by rfl) ?_; dsimp only)); refine be_ 3 #[.string (⟨#[]⟩ : ByteArray), .slice none 0 0, .slice none 0 0] 25 ?_; intro gb462 hg w62 hbox hb; have z_ := t6_ (rB_ (kR_ HO452.out) hb) (rB_ (kR_ HO455.out) hb) (sB_ (kS_ HO458.out) hb) (bS_ (bw0_ HB.out) hb) hbox (gv_ hg (bw0_ HB.out) : w.heap.size ≤ gb462); (try clear HO458 HO455 HO452); clear HB; obtain ⟨HO452, HO455, HO458, HB, BK462, GE462⟩ := z_; clear hb hbox hg; have hcz63_0 := cz_ BK462.out 0 (.string (⟨#[]⟩ : ByteArray)); have hcz63_1 := cz_ BK462.out 1 (.slice none 0 0); have hcz63_2 := cz_ BK462.out 2 (.slice none 0 0); have hfz63_0 := fz_ BK462.out 0; have hfz63_1 := fz_ BK462.out 1; have hfz63_2 := fz_ BK462.out 2; obtain ⟨Ao64, co64, eo64⟩ := Kd.R_slice HO452.out; subst eo64; obtain ⟨Ao65, co65, eo65⟩ := Kd.R_slice HO455.out; subst eo65; obtain ⟨Ao66, co66, eo66⟩ := Kd.S_slice HO458.out; subst eo66) | ((with_reducible refine gate_callee (f := 64) rfl ?_); refine gl_ (some 30) Try.func64 #[.agg #[.string t449, .slice Ao64 t450.length co64, .slice Ao65 t453.length co65], .slice Ao66 t456.length co66, .int .i64 t459, .int .i64 t460, .int .i64 t461] ?_; (with_reducible refine (impl_WearMatrix.calls k t449 _ _ t450 _ _ t453 _ _ t456 t459 t460 t461 t463 false _ ?side1 ?side2 ?side3 ?side4 ?side5 ?side6 A4.out).mono ?_); (case side1 => refine (Kd.R_reads' (e := 3) (base := w.heap.size) (ok := fun k_ => some k_ ≠ (.slice Ao65 t453.length co65 : Value).ownBlock) (n := t450.length) (c := co64) ?_).2.2; exact (by refine kR_ ?_; exact (fR3_ HO452.out BK462.out))); (case side2 => exact (Kd.R_reads' HO452.out).2.1); (case side3 => refine (Kd.R_reads' (e := 3) (base := w.heap.size) (ok := fun k_ => some k_ ≠ (.slice Ao64 t450.length co64 : Value).ownBlock) (n := t453.length) (c := co65) ?_).2.2; exact (by refine kR_ ?_; exact (fR3_ HO455.out BK462.out))); (case side4 => exact (Kd.R_reads' HO455.out).2.1); (case side5 => refine (Kd.S_reads' (e := 34) (base := w.heap.size) (ok := fun k_ => True) (n := t456.length) (c := co66) ?_).2.2; exact (by refine kS_ ?_; exact (fS3_ HO458.out BK462.out))); (case side6 => exact (Kd.S_reads' HO458.out).2.1); rintro e w67 ⟨v464, rfl, ho0, hb⟩; refine ⟨_, rfl, ?_⟩; have z_ := t5_ (rB_ (by refine kR_ ?_; exact (fR3_ HO452.out BK462.out)) hb) (rB_ (by refine kR_ ?_; exact (fR3_ HO455.out BK462.out)) hb) (Kd.S_elder' (by refine kS_ ?_; exact (fS3_ HO458.out BK462.out)) (Kd.S_base ho0) hb) (bB_ (g := gb462) (o := .cells #[.string t449, .slice Ao64 t450.length co64, .slice Ao65 t453.length co65] 25 (0, 0)) (by refine bk_ ?_; refine blk_put (cs := #[.string t449, .slice Ao64 t450.length co64, .slice none 0 0]) ?_ 2 _ rfl; refine bk_ ?_; refine blk_put (cs := #[.string t449, .slice none 0 0, .slice none 0 0]) ?_ 1 _ rfl; refine bk_ ?_; refine blk_put (cs := #[.string (⟨#[]⟩ : ByteArray), .slice none 0 0, .slice none 0 0]) ?_ 0 _ rfl; refine bk_ ?_; exact BK462.out) hb) (bS_ (bw1_ HB.out GE462.out) hb); (try clear BK462 HO458 HO455 HO452); clear HB; obtain ⟨HO452, HO455, HO458, BK462, HB⟩ := z_; (try clear ho0 hb); have hcz68_0 := cz_ BK462.out 0 (.string t449); have hcz68_1 := cz_ BK462.out 1 (.slice Ao64 t450.length co64); have hcz68_2 := cz_ BK462.out 2 (.slice Ao65 t453.length co65); have hfz68_0 := fz_ BK462.out 0; have hfz68_1 := fz_ BK462.out 1; have hfz68_2 := fz_ BK462.out 2) | ((with_reducible refine gate_callee (f := 22) rfl ?_); refine gl_ (some 37) Try.func22 #[.agg #[.string t449, .slice Ao64 t450.length co64, .slice Ao65 t453.length co65], .slice Ao66 t456.length co66] ?_; (with_reducible refine (spec_MagazineOk.calls k t449 _ _ t450 _ _ t453 _ _ t456 true _ ?side1 ?side2 ?side3 ?side4 ?side5 ?side6 A6.out).mono ?_); (case side1 => exact kD_ (Kd.R_reads' HO452.out).2.2); (case side2 => exact (Kd.R_reads' HO452.out).2.1); (case side3 => exact kD_ (Kd.R_reads' HO455.out).2.2); (case side4 => exact (Kd.R_reads' HO455.out).2.1); (case side5 => exact kD_ (Kd.S_reads' HO458.out).2.2); (case side6 => exact (Kd.S_reads' HO458.out).2.1); rintro e w69 ⟨rfl, hb⟩; refine ⟨_, rfl, ?_⟩; have z_ := t5_ (rB_ (kR_ HO452.out) hb) (rB_ (kR_ HO455.out) hb) (sB_ (kS_ HO458.out) hb) (bB_ (bk_ BK462.out) hb) (bS_ (bw1_ HB.out GE462.out) hb); (try clear BK462 HO465 HO458 HO455 HO452); clear HB; obtain ⟨HO452, HO455, HO458, BK462, HB⟩ := z_; (try clear hb); have p468 : 0 ≤ (t459 : Int) := od_ as_; have q468 : t459 < (t456.length : Int) := od_ as_; obtain ⟨ad468, A468_0, c468_0, e468, hx468_0, hl468_0, hi468_0⟩ := at_L2 (Kd.S_reads' HO458.out).2.2 t459 p468 q468; cases e468; obtain ⟨ce468, hce468, hMe468, hcc468⟩ := Kd.S_get HO458.out [] t459 p468 (by first | exact q468 | exact od_ as_ | (have e_ := (Kd.S_reads' HO458.out).1; omega)); obtain ⟨ve468_0, rfl, ge468_0⟩ := hMe468; have hv468_0 := hcc468 0 _ rfl; rw [Nat.add_zero, show ((Kd.slice 30 k30)).sz = 1 from rfl, Nat.mul_one] at hv468_0; replace hv468_0 := Option.some.inj (hv468_0.symm.trans hx468_0); rw [hv468_0] at ge468_0; have HL468_0 := M_ (show Kd.R k30 30 _ _ _ _ (rd_L2 t456 t459) from ge468_0); clear hce468 hcc468 ge468_0 hv468_0; have HR468_0 := M_ hi468_0; have HC468_0 := M_ hl468_0; clear hi468_0 hl468_0; replace p468 := eq_true p468; replace q468 := eq_true q468))
            go_ret
            exact ⟨rb_, bw1_ HB.out GE462.out⟩
           ·rw [if_neg c60] at H
            have c60b0 : decide (6 < t461) = false := decide_eq_false c60
            clear c60
            by_cases c70 : 0 ≤ t460
            ·rw [if_pos c70] at H
             have c70b0 := dt_ c70
             clear c70
             by_cases c71 : t460 < ((rd_L2 t456 t459).length : Int)
             ·rw [if_pos c71] at H
              have c71b0 := dt_ c71
              clear c71
              by_cases c72 : 0 ≤ t461
              ·rw [if_pos c72] at H
               have c72b0 := eq_true c72
               have c72b1 := dt_ c72
               clear c72
               obtain ⟨ji73, hji73⟩ : ∃ j_ : Int, (shr .i64 ((rd_T30 (rd_L2 t456 t459) t460).f1) t461) = j_ := ⟨_, rfl⟩
               replace H : (some ((Go.bits .and .i64 (ji73) 1) == 0)) = some r := by first | (rw [hji73] at H; exact H) | (simp only [hji73] at H ⊢; exact H)
               (try rw [hji73] at A3)
               (try rw [hji73] at A4)
               (try rw [hji73] at A6)
               have hji73_ : (((rd_T30 (rd_L2 t456 t459) t460).f1) / 2 ^ min t461.toNat 64) = ji73 := hji73
               have hji73z : t461 ≤ 64 → (((rd_T30 (rd_L2 t456 t459) t460).f1) / 2 ^ t461.toNat) = ji73 := shr_small hji73
               obtain rfl := Option.some.inj H
               go_enter Try.func15, Try.ntmps15
               go_wp2_with (first | ((with_reducible refine gate_callee (f := 63) rfl ?_); refine gl_ (some 18) Try.func63 #[.slice A0 l0.length c0] ?_; (with_reducible refine (spec_DrawWearMatrix.calls k _ _ l0 t449 t450 t453 t456 t459 t460 t461 _ ?side1 ?side2 A3.out).mono ?_); (case side1 => exact kD_ HR0.out); (case side2 => exact HC0.out); rintro e w74 ⟨v451, v454, v457, rfl, ho0, ho1, ho2, hb⟩; refine ⟨_, rfl, ?_⟩; have z_ := t4_ (Kd.R_lower ho0 (below_size (bw0_ HB.out))) (Kd.R_lower ho1 (below_size (bw0_ HB.out))) (Kd.S_lower ho2 (below_size (bw0_ HB.out))) (bS_ (bw0_ HB.out) hb); clear HB; obtain ⟨HO452, HO455, HO458, HB⟩ := z_; (try clear ho2 ho1 ho0 hb)) | ((with_reducible refine gate_dst (N := 3) rfl ?_); (try (refine gate_guard (by rfl) ?_; dsimp only)); refine be_ 3 #[.string (⟨#[]⟩ : ByteArray), .slice none 0 0, .slice none 0 0] 25 ?_; intro gb462 hg w75 hbox hb; have z_ := t6_ (rB_ (kR_ HO452.out) hb) (rB_ (kR_ HO455.out) hb) (sB_ (kS_ HO458.out) hb) (bS_ (bw0_ HB.out) hb) hbox (gv_ hg (bw0_ HB.out) : w.heap.size ≤ gb462); (try clear HO458 HO455 HO452); clear HB; obtain ⟨HO452, HO455, HO458, HB, BK462, GE462⟩ := z_; clear hb hbox hg; have hcz76_0 := cz_ BK462.out 0 (.string (⟨#[]⟩ : ByteArray)); have hcz76_1 := cz_ BK462.out 1 (.slice none 0 0); have hcz76_2 := cz_ BK462.out 2 (.slice none 0 0); have hfz76_0 := fz_ BK462.out 0; have hfz76_1 := fz_ BK462.out 1; have hfz76_2 := fz_ BK462.out 2; obtain ⟨Ao77, co77, eo77⟩ := Kd.R_slice HO452.out; subst eo77; obtain ⟨Ao78, co78, eo78⟩ := Kd.R_slice HO455.out; subst eo78; obtain ⟨Ao79, co79, eo79⟩ := Kd.S_slice HO458.out; subst eo79) | ((with_reducible refine gate_callee (f := 64) rfl ?_); refine gl_ (some 30) Try.func64 #[.agg #[.string t449, .slice Ao77 t450.length co77, .slice Ao78 t453.length co78], .slice Ao79 t456.length co79, .int .i64 t459, .int .i64 t460, .int .i64 t461] ?_; (with_reducible refine (impl_WearMatrix.calls k t449 _ _ t450 _ _ t453 _ _ t456 t459 t460 t461 t463 false _ ?side1 ?side2 ?side3 ?side4 ?side5 ?side6 A4.out).mono ?_); (case side1 => refine (Kd.R_reads' (e := 3) (base := w.heap.size) (ok := fun k_ => some k_ ≠ (.slice Ao78 t453.length co78 : Value).ownBlock) (n := t450.length) (c := co77) ?_).2.2; exact (by refine kR_ ?_; exact (fR3_ HO452.out BK462.out))); (case side2 => exact (Kd.R_reads' HO452.out).2.1); (case side3 => refine (Kd.R_reads' (e := 3) (base := w.heap.size) (ok := fun k_ => some k_ ≠ (.slice Ao77 t450.length co77 : Value).ownBlock) (n := t453.length) (c := co78) ?_).2.2; exact (by refine kR_ ?_; exact (fR3_ HO455.out BK462.out))); (case side4 => exact (Kd.R_reads' HO455.out).2.1); (case side5 => refine (Kd.S_reads' (e := 34) (base := w.heap.size) (ok := fun k_ => True) (n := t456.length) (c := co79) ?_).2.2; exact (by refine kS_ ?_; exact (fS3_ HO458.out BK462.out))); (case side6 => exact (Kd.S_reads' HO458.out).2.1); rintro e w80 ⟨v464, rfl, ho0, hb⟩; refine ⟨_, rfl, ?_⟩; have z_ := t5_ (rB_ (by refine kR_ ?_; exact (fR3_ HO452.out BK462.out)) hb) (rB_ (by refine kR_ ?_; exact (fR3_ HO455.out BK462.out)) hb) (Kd.S_elder' (by refine kS_ ?_; exact (fS3_ HO458.out BK462.out)) (Kd.S_base ho0) hb) (bB_ (g := gb462) (o := .cells #[.string t449, .slice Ao77 t450.length co77, .slice Ao78 t453.length co78] 25 (0, 0)) (by refine bk_ ?_; refine blk_put (cs := #[.string t449, .slice Ao77 t450.length co77, .slice none 0 0]) ?_ 2 _ rfl; refine bk_ ?_; refine blk_put (cs := #[.string t449, .slice none 0 0, .slice none 0 0]) ?_ 1 _ rfl; refine bk_ ?_; refine blk_put (cs := #[.string (⟨#[]⟩ : ByteArray), .slice none 0 0, .slice none 0 0]) ?_ 0 _ rfl; refine bk_ ?_; exact BK462.out) hb) (bS_ (bw1_ HB.out GE462.out) hb); (try clear BK462 HO458 HO455 HO452); clear HB; obtain ⟨HO452, HO455, HO458, BK462, HB⟩ := z_; (try clear ho0 hb); have hcz81_0 := cz_ BK462.out 0 (.string t449); have hcz81_1 := cz_ BK462.out 1 (.slice Ao77 t450.length co77); have hcz81_2 := cz_ BK462.out 2 (.slice Ao78 t453.length co78); have hfz81_0 := fz_ BK462.out 0; have hfz81_1 := fz_ BK462.out 1; have hfz81_2 := fz_ BK462.out 2) | ((with_reducible refine gate_callee (f := 22) rfl ?_); refine gl_ (some 37) Try.func22 #[.agg #[.string t449, .slice Ao77 t450.length co77, .slice Ao78 t453.length co78], .slice Ao79 t456.length co79] ?_; (with_reducible refine (spec_MagazineOk.calls k t449 _ _ t450 _ _ t453 _ _ t456 true _ ?side1 ?side2 ?side3 ?side4 ?side5 ?side6 A6.out).mono ?_); (case side1 => exact kD_ (Kd.R_reads' HO452.out).2.2); (case side2 => exact (Kd.R_reads' HO452.out).2.1); (case side3 => exact kD_ (Kd.R_reads' HO455.out).2.2); (case side4 => exact (Kd.R_reads' HO455.out).2.1); (case side5 => exact kD_ (Kd.S_reads' HO458.out).2.2); (case side6 => exact (Kd.S_reads' HO458.out).2.1); rintro e w82 ⟨rfl, hb⟩; refine ⟨_, rfl, ?_⟩; have z_ := t5_ (rB_ (kR_ HO452.out) hb) (rB_ (kR_ HO455.out) hb) (sB_ (kS_ HO458.out) hb) (bB_ (bk_ BK462.out) hb) (bS_ (bw1_ HB.out GE462.out) hb); (try clear BK462 HO465 HO458 HO455 HO452); clear HB; obtain ⟨HO452, HO455, HO458, BK462, HB⟩ := z_; (try clear hb); have p468 : 0 ≤ (t459 : Int) := od_ as_; have q468 : t459 < (t456.length : Int) := od_ as_; obtain ⟨ad468, A468_0, c468_0, e468, hx468_0, hl468_0, hi468_0⟩ := at_L2 (Kd.S_reads' HO458.out).2.2 t459 p468 q468; cases e468; obtain ⟨ce468, hce468, hMe468, hcc468⟩ := Kd.S_get HO458.out [] t459 p468 (by first | exact q468 | exact od_ as_ | (have e_ := (Kd.S_reads' HO458.out).1; omega)); obtain ⟨ve468_0, rfl, ge468_0⟩ := hMe468; have hv468_0 := hcc468 0 _ rfl; rw [Nat.add_zero, show ((Kd.slice 30 k30)).sz = 1 from rfl, Nat.mul_one] at hv468_0; replace hv468_0 := Option.some.inj (hv468_0.symm.trans hx468_0); rw [hv468_0] at ge468_0; have HL468_0 := M_ (show Kd.R k30 30 _ _ _ _ (rd_L2 t456 t459) from ge468_0); clear hce468 hcc468 ge468_0 hv468_0; have HR468_0 := M_ hi468_0; have HC468_0 := M_ hl468_0; clear hi468_0 hl468_0; replace p468 := eq_true p468; replace q468 := eq_true q468; have p469 : 0 ≤ (t459 : Int) := od_ as_; have q469 : t459 < (t456.length : Int) := od_ as_; obtain ⟨ad469, A469_0, c469_0, e469, hx469_0, hl469_0, hi469_0⟩ := at_L2 (Kd.S_reads' HO458.out).2.2 t459 p469 q469; obtain rfl : ad468 = ad469 := (by injection e469); obtain ⟨ce469, hce469, hMe469, hcc469⟩ := Kd.S_get HO458.out [] t459 p469 (by first | exact q469 | exact od_ as_ | (have e_ := (Kd.S_reads' HO458.out).1; omega)); obtain ⟨ve469_0, rfl, ge469_0⟩ := hMe469; have hv469_0 := hcc469 0 _ rfl; rw [Nat.add_zero, show ((Kd.slice 30 k30)).sz = 1 from rfl, Nat.mul_one] at hv469_0; replace hv469_0 := Option.some.inj (hv469_0.symm.trans hx469_0); rw [hv469_0] at ge469_0; have HL469_0 := M_ (show Kd.R k30 30 _ _ _ _ (rd_L2 t456 t459) from ge469_0); clear hce469 hcc469 ge469_0 hv469_0; have HR469_0 := M_ hi469_0; have HC469_0 := M_ hl469_0; clear hi469_0 hl469_0; replace p469 := eq_true p469; replace q469 := eq_true q469; have ea_ := Option.some.inj (hx468_0.symm.trans hx469_0); injection ea_ with ea_ en_ ec_; subst ea_; subst ec_; clear en_; have p470 : 0 ≤ (t460 : Int) := od_ as_; have q470 : t460 < ((rd_L2 t456 t459).length : Int) := od_ as_; obtain ⟨ad470, e470, hx470_0, hx470_1⟩ := at_T30 (kE_ HR469_0.out) t460 p470 q470; cases e470; replace p470 := eq_true p470; replace q470 := eq_true q470))
               go_ret
               exact ⟨by first | rfl | (simp only [i64_w, i32_w]; rfl) | (simp only [i64_w, i32_w, wrap64_zero, Int.sub_zero, Int.add_zero, Int.mul_zero, Int.zero_mul]; rfl) | (simp [errW_none, errW_some] <;> rfl) | (simp only [← hji73]; first | rfl | (simp [errW_none, errW_some] <;> rfl)) | (simp [*, errW_none, errW_some] <;> rfl), bw1_ HB.out GE462.out⟩
              ·rw [if_neg c72] at H
               exact absurd H (by simp)
             ·rw [if_neg c71] at H
              exact absurd H (by simp)
            ·rw [if_neg c70] at H
             exact absurd H (by simp)
        ·rw [if_neg c39] at H
         exact absurd H (by simp)
       ·rw [if_neg c38] at H
        exact absurd H (by simp)
   ·replace c7 := Bool.eq_false_iff.mpr c7
    subst c7
    rw [if_neg (show ¬ (false = true) by decide)] at H
    obtain rfl := Option.some.inj H
    go_enter Try.func15, Try.ntmps15
    go_wp2_with (first | ((with_reducible refine gate_callee (f := 63) rfl ?_); refine gl_ (some 18) Try.func63 #[.slice A0 l0.length c0] ?_; (with_reducible refine (spec_DrawWearMatrix.calls k _ _ l0 t449 t450 t453 t456 t459 t460 t461 _ ?side1 ?side2 A3.out).mono ?_); (case side1 => exact kD_ HR0.out); (case side2 => exact HC0.out); rintro e w83 ⟨v451, v454, v457, rfl, ho0, ho1, ho2, hb⟩; refine ⟨_, rfl, ?_⟩; have z_ := t4_ (Kd.R_lower ho0 (below_size (bw0_ HB.out))) (Kd.R_lower ho1 (below_size (bw0_ HB.out))) (Kd.S_lower ho2 (below_size (bw0_ HB.out))) (bS_ (bw0_ HB.out) hb); clear HB; obtain ⟨HO452, HO455, HO458, HB⟩ := z_; (try clear ho2 ho1 ho0 hb)) | ((with_reducible refine gate_dst (N := 3) rfl ?_); (try (refine gate_guard (by rfl) ?_; dsimp only)); refine be_ 3 #[.string (⟨#[]⟩ : ByteArray), .slice none 0 0, .slice none 0 0] 25 ?_; intro gb462 hg w84 hbox hb; have z_ := t6_ (rB_ (kR_ HO452.out) hb) (rB_ (kR_ HO455.out) hb) (sB_ (kS_ HO458.out) hb) (bS_ (bw0_ HB.out) hb) hbox (gv_ hg (bw0_ HB.out) : w.heap.size ≤ gb462); (try clear HO458 HO455 HO452); clear HB; obtain ⟨HO452, HO455, HO458, HB, BK462, GE462⟩ := z_; clear hb hbox hg; have hcz85_0 := cz_ BK462.out 0 (.string (⟨#[]⟩ : ByteArray)); have hcz85_1 := cz_ BK462.out 1 (.slice none 0 0); have hcz85_2 := cz_ BK462.out 2 (.slice none 0 0); have hfz85_0 := fz_ BK462.out 0; have hfz85_1 := fz_ BK462.out 1; have hfz85_2 := fz_ BK462.out 2; obtain ⟨Ao86, co86, eo86⟩ := Kd.R_slice HO452.out; subst eo86; obtain ⟨Ao87, co87, eo87⟩ := Kd.R_slice HO455.out; subst eo87; obtain ⟨Ao88, co88, eo88⟩ := Kd.S_slice HO458.out; subst eo88) | ((with_reducible refine gate_callee (f := 64) rfl ?_); refine gl_ (some 30) Try.func64 #[.agg #[.string t449, .slice Ao86 t450.length co86, .slice Ao87 t453.length co87], .slice Ao88 t456.length co88, .int .i64 t459, .int .i64 t460, .int .i64 t461] ?_; (with_reducible refine (impl_WearMatrix.calls k t449 _ _ t450 _ _ t453 _ _ t456 t459 t460 t461 t463 false _ ?side1 ?side2 ?side3 ?side4 ?side5 ?side6 A4.out).mono ?_); (case side1 => refine (Kd.R_reads' (e := 3) (base := w.heap.size) (ok := fun k_ => some k_ ≠ (.slice Ao87 t453.length co87 : Value).ownBlock) (n := t450.length) (c := co86) ?_).2.2; exact (by refine kR_ ?_; exact (fR3_ HO452.out BK462.out))); (case side2 => exact (Kd.R_reads' HO452.out).2.1); (case side3 => refine (Kd.R_reads' (e := 3) (base := w.heap.size) (ok := fun k_ => some k_ ≠ (.slice Ao86 t450.length co86 : Value).ownBlock) (n := t453.length) (c := co87) ?_).2.2; exact (by refine kR_ ?_; exact (fR3_ HO455.out BK462.out))); (case side4 => exact (Kd.R_reads' HO455.out).2.1); (case side5 => refine (Kd.S_reads' (e := 34) (base := w.heap.size) (ok := fun k_ => True) (n := t456.length) (c := co88) ?_).2.2; exact (by refine kS_ ?_; exact (fS3_ HO458.out BK462.out))); (case side6 => exact (Kd.S_reads' HO458.out).2.1); rintro e w89 ⟨v464, rfl, ho0, hb⟩; refine ⟨_, rfl, ?_⟩; have z_ := t5_ (rB_ (by refine kR_ ?_; exact (fR3_ HO452.out BK462.out)) hb) (rB_ (by refine kR_ ?_; exact (fR3_ HO455.out BK462.out)) hb) (Kd.S_elder' (by refine kS_ ?_; exact (fS3_ HO458.out BK462.out)) (Kd.S_base ho0) hb) (bB_ (g := gb462) (o := .cells #[.string t449, .slice Ao86 t450.length co86, .slice Ao87 t453.length co87] 25 (0, 0)) (by refine bk_ ?_; refine blk_put (cs := #[.string t449, .slice Ao86 t450.length co86, .slice none 0 0]) ?_ 2 _ rfl; refine bk_ ?_; refine blk_put (cs := #[.string t449, .slice none 0 0, .slice none 0 0]) ?_ 1 _ rfl; refine bk_ ?_; refine blk_put (cs := #[.string (⟨#[]⟩ : ByteArray), .slice none 0 0, .slice none 0 0]) ?_ 0 _ rfl; refine bk_ ?_; exact BK462.out) hb) (bS_ (bw1_ HB.out GE462.out) hb); (try clear BK462 HO458 HO455 HO452); clear HB; obtain ⟨HO452, HO455, HO458, BK462, HB⟩ := z_; (try clear ho0 hb); have hcz90_0 := cz_ BK462.out 0 (.string t449); have hcz90_1 := cz_ BK462.out 1 (.slice Ao86 t450.length co86); have hcz90_2 := cz_ BK462.out 2 (.slice Ao87 t453.length co87); have hfz90_0 := fz_ BK462.out 0; have hfz90_1 := fz_ BK462.out 1; have hfz90_2 := fz_ BK462.out 2) | ((with_reducible refine gate_callee (f := 22) rfl ?_); refine gl_ (some 37) Try.func22 #[.agg #[.string t449, .slice Ao86 t450.length co86, .slice Ao87 t453.length co87], .slice Ao88 t456.length co88] ?_; (with_reducible refine (spec_MagazineOk.calls k t449 _ _ t450 _ _ t453 _ _ t456 false _ ?side1 ?side2 ?side3 ?side4 ?side5 ?side6 A6.out).mono ?_); (case side1 => exact kD_ (Kd.R_reads' HO452.out).2.2); (case side2 => exact (Kd.R_reads' HO452.out).2.1); (case side3 => exact kD_ (Kd.R_reads' HO455.out).2.2); (case side4 => exact (Kd.R_reads' HO455.out).2.1); (case side5 => exact kD_ (Kd.S_reads' HO458.out).2.2); (case side6 => exact (Kd.S_reads' HO458.out).2.1); rintro e w91 ⟨rfl, hb⟩; refine ⟨_, rfl, ?_⟩; have n5_ := M_ (bS_ (bw1_ HB.out GE462.out) hb); (try clear BK462 HO465 HO458 HO455 HO452); clear HB; have HB := n5_; clear n5_; (try clear hb)))
    go_ret
    exact ⟨rb_, bw1_ HB.out GE462.out⟩

end Go.Proofs.Ytilbngklgjjblaa.Q
