/- Contracts of Go functions over this translation. Conditions: those that each theorem names. -/
import Derived.Test.YtilbngklgjjblaaQ0
import Derived.Test.YtilbngklgjjblaaQ2
import Derived.Test.YtilbngklgjjblaaQ3
import Derived.Test.YtilbngklgjjblaaQ13
namespace Go.Proofs.Ytilbngklgjjblaa.Q
open Go.RowKit Go.Proofs.YtilbngklgjjblaaW.PrintWords Go.Proofs.YtilbngklgjjblaaW.PrintLast Go.Proofs.YtilbngklgjjblaaW.PrintMore
attribute [local go_sem] max2_int min2_int max_two min_two max_three min_three max_four min_four
set_option linter.unusedVariables false
set_option linter.unusedSimpArgs false

def impl_TakeMatrix.f (k : Nat) (a0_0 : ByteArray) (l0_1 : List Int) (l0_2 : List Int) (l1 : List (List (S30))) (a2 : Int) : Option ((List (List (S30))) × Int × Int × Bool) := (impl_MagazineOk.f k a0_0 l0_1 l0_2 l1).bind fun t384 => (if t384 = true then (if a2 < 0 then (some (([] : List (List (S30))), 0, 0, false)) else (if a2 ≥ (l1.length : Int) then (some (([] : List (List (S30))), 0, 0, false)) else (if 0 ≤ a2 then (if a2 < (l1.length : Int) then (if ((rd_L5 l1 a2).length : Int) = 0 then (some (([] : List (List (S30))), 0, 0, false)) else ((impl_copyMagazine.f k l1).bind fun t386 => (if a2 < (t386.length : Int) then (if 1 ≤ ((rd_L5 t386 a2).length : Int) then (if 0 < ((rd_L5 l1 a2).length : Int) then (some ((t386.set (a2 : Int).toNat ((rd_L5 t386 a2).drop 1)), (rd_T30 (rd_L5 l1 a2) 0).f0, (rd_T30 (rd_L5 l1 a2) 0).f1, true)) else (none)) else (none)) else (none)))) else (none)) else (none)))) else (some (([] : List (List (S30))), 0, 0, false)))
theorem impl_TakeMatrix.mono : ∀ a0 a1 a2 a3 a4 k, LeO (impl_TakeMatrix.f k a0 a1 a2 a3 a4) (impl_TakeMatrix.f (k + 1) a0 a1 a2 a3 a4) := by
 intro a0 a1 a2 a3 a4 k
 unfold impl_TakeMatrix.f
 repeat' first | (with_reducible first | exact impl_MagazineOk.mono _ _ _ _ _ | exact impl_copyMagazine.mono _ _ | exact LeO.refl _ | exact LeO.none _ | refine LeO.ite ?_ ?_ | refine LeO.bind ?_ (fun _ => ?_)) | exact impl_MagazineOk.mono _ _ _ _ _ | exact impl_copyMagazine.mono _ _ | exact LeO.none _ | refine LeO.ite ?_ ?_ | refine LeO.bind ?_ (fun _ => ?_)
def impl_TakeMatrix.T5 : Bool × List (List Nat × List Nat) := (true, [([], []), ([], []), ([], []), ([1, 2], [1, 2]), ([3], [3]), ([4], [4]), ([5], [5]), ([0, 0], [0]), ([6, 7, 0, 1, 2, 3, 4, 5, 6, 7], [6]), ([8, 0, 1, 2, 3, 4, 5, 6, 7, 8], [])])
def impl_TakeMatrix.B5 : List Nat := [0, 0, 0, 6, 14, 30, 62, 1, 255, 511]
theorem impl_TakeMatrix.tab5 : rtab .any (opsOf Try.f21 5) = impl_TakeMatrix.T5 := by kernel_rfl
theorem impl_TakeMatrix.bits5 : waitsOk impl_TakeMatrix.T5.2 impl_TakeMatrix.B5 = true := by kernel_rfl
set_option maxHeartbeats 8000000 in
set_option maxRecDepth 100000 in
theorem impl_TakeMatrix.calls (k : Nat) (a0_0 : ByteArray) (A0_1 : Option Addr) (c0_1 : Nat) (l0_1 : List Int) (A0_2 : Option Addr) (c0_2 : Nat) (l0_2 : List Int) (A1 : Option Addr) (c1 : Nat) (l1 : List (List (S30))) (a2 : Int) (r1 : List (List (S30))) (r2 : Int) (r3 : Int) (r4 : Bool) (w : World) (hr0_1 : Kd.C (Kd.int .i64) w A0_1 l0_1.length l0_1) (hc0_1 : l0_1.length ≤ c0_1) (hr0_2 : Kd.C (Kd.int .i64) w A0_2 l0_2.length l0_2) (hc0_2 : l0_2.length ≤ c0_2) (hr1 : Kd.C (Kd.slice 30 k30) w A1 l1.length l1) (hc1 : l1.length ≤ c1) (h : impl_TakeMatrix.f k a0_0 l0_1 l0_2 l1 a2 = some (r1, r2, r3, r4)) :
    Calls Try.prog 21 #[.agg #[.string a0_0, .slice A0_1 l0_1.length c0_1, .slice A0_2 l0_2.length c0_2], .slice A1 l1.length c1, .int .i64 a2] w fun e w' => ∃ v0_ : Value, e = .returned (.tuple #[v0_, .agg #[.int .i64 r2, .int .i64 r3], .bool r4]) ∧ Kd.N (Kd.slice 30 k30) 34 w' w.heap.size (fun k_ => (w.heap.size ≤ k_)) v0_ r1 ∧ Below w.heap.size w w' := by
 have hu25 := Try.underlying25
 have hu30 := Try.underlying30
 have HR0_1 := M_ hr0_1
 have HC0_1 := M_ hc0_1
 clear hr0_1 hc0_1
 have HR0_2 := M_ hr0_2
 have HC0_2 := M_ hc0_2
 clear hr0_2 hc0_2
 have HR1 := M_ hr1
 have HC1 := M_ hc1
 clear hr1 hc1
 have HB := M_ (Below.refl w.heap.size w)
 have H : ((impl_MagazineOk.f k a0_0 l0_1 l0_2 l1).bind fun t384 => (if t384 = true then (if a2 < 0 then (some (([] : List (List (S30))), 0, 0, false)) else (if a2 ≥ (l1.length : Int) then (some (([] : List (List (S30))), 0, 0, false)) else (if 0 ≤ a2 then (if a2 < (l1.length : Int) then (if ((rd_L5 l1 a2).length : Int) = 0 then (some (([] : List (List (S30))), 0, 0, false)) else ((impl_copyMagazine.f k l1).bind fun t386 => (if a2 < (t386.length : Int) then (if 1 ≤ ((rd_L5 t386 a2).length : Int) then (if 0 < ((rd_L5 l1 a2).length : Int) then (some ((t386.set (a2 : Int).toNat ((rd_L5 t386 a2).drop 1)), (rd_T30 (rd_L5 l1 a2) 0).f0, (rd_T30 (rd_L5 l1 a2) 0).f1, true)) else (none)) else (none)) else (none)))) else (none)) else (none)))) else (some (([] : List (List (S30))), 0, 0, false)))) = some (r1, r2, r3, r4) := h
 clear h
 replace H := bs_ H
 obtain ⟨t384, A40, H⟩ := H
 (try dsimp only at H)
 have A4 := M_ A40
 clear A40
 by_cases c5 : t384 = true
 ·subst c5
  rw [if_pos rfl] at H
  by_cases c6 : a2 < 0
  ·rw [if_pos c6] at H
   have c6b0 := dt_ c6
   clear c6
   simp only [Option.some.injEq, Prod.mk.injEq] at H
   obtain ⟨rfl, rfl, rfl, rfl⟩ := H
   go_enter Try.func21, Try.ntmps21
   go_wp2_with (first | ((with_reducible refine gate_dst (N := 3) rfl ?_); (try (refine gate_guard (by rfl) ?_; dsimp only)); refine be_ 3 #[.string a0_0, .slice A0_1 l0_1.length c0_1, .slice A0_2 l0_2.length c0_2] 25 ?_; intro gb382 hg w7 hbox hb; have z_ := t3_ (bS_ (bw0_ HB.out) hb) hbox (gv_ hg (bw0_ HB.out) : w.heap.size ≤ gb382); clear HB; obtain ⟨HB, BK382, GE382⟩ := z_; clear hb hbox hg) | ((with_reducible refine gate_dst (N := 7) rfl ?_); (try (refine gate_guard (by rfl) ?_; dsimp only)); refine be_ 7 #[.int .i64 0, .int .i64 0] 30 ?_; intro gb383 hg w8 hbox hb; have z_ := t6_ (bB_ (bk_ BK382.out) hb) (bS_ (bw1_ HB.out GE382.out) hb) hbox (gv_ hg (bw1_ HB.out GE382.out) : w.heap.size ≤ gb383) (gv_ hg (bw1_ HB.out GE382.out) : w.heap.size ≤ gb383) (by rw [hg]; exact Nat.ne_of_lt (blk_lt (bk_ BK382.out)) : gb382 ≠ gb383); (try clear BK382); clear HB; obtain ⟨BK382, HB, BK383, GW383, GE383, NB382_383⟩ := z_; have NB383_382 := M_ NB382_383.out.symm; clear hb hbox hg; have hnb9 := NB382_383.out; have hnc9 := NB383_382.out; have hcz10_0 := cz_ BK382.out 0 (.string a0_0); have hcz10_1 := cz_ BK382.out 1 (.slice A0_1 l0_1.length c0_1); have hcz10_2 := cz_ BK382.out 2 (.slice A0_2 l0_2.length c0_2); have hfz10_0 := fz_ BK382.out 0; have hfz10_1 := fz_ BK382.out 1; have hfz10_2 := fz_ BK382.out 2) | ((with_reducible refine gate_callee (f := 44) rfl ?_); refine gl_ (some 12) Try.func44 #[.agg #[.string a0_0, .slice A0_1 l0_1.length c0_1, .slice A0_2 l0_2.length c0_2], .slice A1 l1.length c1] ?_; (with_reducible refine (impl_MagazineOk.calls k a0_0 _ _ l0_1 _ _ l0_2 _ _ l1 true _ ?side1 ?side2 ?side3 ?side4 ?side5 ?side6 A4.out).mono ?_); (case side1 => exact kC_ HR0_1.out HB.out); (case side2 => exact HC0_1.out); (case side3 => exact kC_ HR0_2.out HB.out); (case side4 => exact HC0_2.out); (case side5 => exact kC_ HR1.out HB.out); (case side6 => exact HC1.out); rintro e w11 ⟨rfl, hb⟩; refine ⟨_, rfl, ?_⟩; have z_ := t3_ (bB_ (bk_ BK382.out) hb) (bB_ (bk_ BK383.out) hb) (bS_ (bw2_ HB.out GE382.out GE383.out) hb); (try clear BK382); clear HB BK383; obtain ⟨BK382, BK383, HB⟩ := z_; (try clear hb); have hcz12_0 := cz_ BK383.out 0 (.int .i64 0); have hcz12_1 := cz_ BK383.out 1 (.int .i64 0); have hfz12_0 := fz_ BK383.out 0; have hfz12_1 := fz_ BK383.out 1))
   refine bodyPost_ret (results_list (rs := [.tmp 6, .cell 7 30, .tmp 8]) rfl (by simp) (.tmp (.cell gb383 30 #[.int .i64 0, .int .i64 0] (0, 0) _ rfl (by refine bk_ ?_; refine blk_put (cs := #[.int .i64 0, .int .i64 0]) ?_ 1 _ rfl; refine bk_ ?_; refine blk_put (cs := #[.int .i64 0, .int .i64 0]) ?_ 0 _ rfl; refine bk_ ?_; exact BK383.out) Try.underlying30 rfl (by kernel_rfl) (.tmp .nil)))) rfl ?_
   exact ⟨_, rb_, by first | exact Kd.S_nil _ _ _ _ _ | exact Kd.N_nil _ _ _ _ _ | exact Kd.V_nil _ _ _ _ _ | exact Kd.Q_nil _ _ _ _ _ | exact Kd.R_nil _ _ _ _ _, bw2_ HB.out GE382.out GE383.out⟩
  ·rw [if_neg c6] at H
   have c6b0 := decide_eq_false c6
   clear c6
   by_cases c13 : a2 ≥ (l1.length : Int)
   ·rw [if_pos c13] at H
    have c13b0 : decide ((l1.length : Int) ≤ a2) = true := dt_ c13
    clear c13
    simp only [Option.some.injEq, Prod.mk.injEq] at H
    obtain ⟨rfl, rfl, rfl, rfl⟩ := H
    go_enter Try.func21, Try.ntmps21
    go_wp2_with (first | ((with_reducible refine gate_dst (N := 3) rfl ?_); (try (refine gate_guard (by rfl) ?_; dsimp only)); refine be_ 3 #[.string a0_0, .slice A0_1 l0_1.length c0_1, .slice A0_2 l0_2.length c0_2] 25 ?_; intro gb382 hg w14 hbox hb; have z_ := t3_ (bS_ (bw0_ HB.out) hb) hbox (gv_ hg (bw0_ HB.out) : w.heap.size ≤ gb382); clear HB; obtain ⟨HB, BK382, GE382⟩ := z_; clear hb hbox hg) | ((with_reducible refine gate_dst (N := 7) rfl ?_); (try (refine gate_guard (by rfl) ?_; dsimp only)); refine be_ 7 #[.int .i64 0, .int .i64 0] 30 ?_; intro gb383 hg w15 hbox hb; have z_ := t6_ (bB_ (bk_ BK382.out) hb) (bS_ (bw1_ HB.out GE382.out) hb) hbox (gv_ hg (bw1_ HB.out GE382.out) : w.heap.size ≤ gb383) (gv_ hg (bw1_ HB.out GE382.out) : w.heap.size ≤ gb383) (by rw [hg]; exact Nat.ne_of_lt (blk_lt (bk_ BK382.out)) : gb382 ≠ gb383); (try clear BK382); clear HB; obtain ⟨BK382, HB, BK383, GW383, GE383, NB382_383⟩ := z_; have NB383_382 := M_ NB382_383.out.symm; clear hb hbox hg; have hnb16 := NB382_383.out; have hnc16 := NB383_382.out; have hcz17_0 := cz_ BK382.out 0 (.string a0_0); have hcz17_1 := cz_ BK382.out 1 (.slice A0_1 l0_1.length c0_1); have hcz17_2 := cz_ BK382.out 2 (.slice A0_2 l0_2.length c0_2); have hfz17_0 := fz_ BK382.out 0; have hfz17_1 := fz_ BK382.out 1; have hfz17_2 := fz_ BK382.out 2) | ((with_reducible refine gate_callee (f := 44) rfl ?_); refine gl_ (some 12) Try.func44 #[.agg #[.string a0_0, .slice A0_1 l0_1.length c0_1, .slice A0_2 l0_2.length c0_2], .slice A1 l1.length c1] ?_; (with_reducible refine (impl_MagazineOk.calls k a0_0 _ _ l0_1 _ _ l0_2 _ _ l1 true _ ?side1 ?side2 ?side3 ?side4 ?side5 ?side6 A4.out).mono ?_); (case side1 => exact kC_ HR0_1.out HB.out); (case side2 => exact HC0_1.out); (case side3 => exact kC_ HR0_2.out HB.out); (case side4 => exact HC0_2.out); (case side5 => exact kC_ HR1.out HB.out); (case side6 => exact HC1.out); rintro e w18 ⟨rfl, hb⟩; refine ⟨_, rfl, ?_⟩; have z_ := t3_ (bB_ (bk_ BK382.out) hb) (bB_ (bk_ BK383.out) hb) (bS_ (bw2_ HB.out GE382.out GE383.out) hb); (try clear BK382); clear HB BK383; obtain ⟨BK382, BK383, HB⟩ := z_; (try clear hb); have hcz19_0 := cz_ BK383.out 0 (.int .i64 0); have hcz19_1 := cz_ BK383.out 1 (.int .i64 0); have hfz19_0 := fz_ BK383.out 0; have hfz19_1 := fz_ BK383.out 1))
    refine bodyPost_ret (results_list (rs := [.tmp 6, .cell 7 30, .tmp 8]) rfl (by simp) (.tmp (.cell gb383 30 #[.int .i64 0, .int .i64 0] (0, 0) _ rfl (by refine bk_ ?_; refine blk_put (cs := #[.int .i64 0, .int .i64 0]) ?_ 1 _ rfl; refine bk_ ?_; refine blk_put (cs := #[.int .i64 0, .int .i64 0]) ?_ 0 _ rfl; refine bk_ ?_; exact BK383.out) Try.underlying30 rfl (by kernel_rfl) (.tmp .nil)))) rfl ?_
    exact ⟨_, rb_, by first | exact Kd.S_nil _ _ _ _ _ | exact Kd.N_nil _ _ _ _ _ | exact Kd.V_nil _ _ _ _ _ | exact Kd.Q_nil _ _ _ _ _ | exact Kd.R_nil _ _ _ _ _, bw2_ HB.out GE382.out GE383.out⟩
   ·rw [if_neg c13] at H
    have c13b0 : decide ((l1.length : Int) ≤ a2) = false := decide_eq_false c13
    clear c13
    by_cases c20 : 0 ≤ a2
    ·rw [if_pos c20] at H
     have c20b0 := dt_ c20
     clear c20
     by_cases c21 : a2 < (l1.length : Int)
     ·rw [if_pos c21] at H
      have c21b0 := dt_ c21
      clear c21
      by_cases c22 : ((rd_L5 l1 a2).length : Int) = 0
      ·rw [if_pos c22] at H
       have c22b0 := beq_iff_eq.mpr c22
       have c22b1 := bne_eq_false_iff_eq.mpr c22
       clear c22
       simp only [Option.some.injEq, Prod.mk.injEq] at H
       obtain ⟨rfl, rfl, rfl, rfl⟩ := H
       go_enter Try.func21, Try.ntmps21
       go_wp2_with (first | ((with_reducible refine gate_dst (N := 3) rfl ?_); (try (refine gate_guard (by rfl) ?_; dsimp only)); refine be_ 3 #[.string a0_0, .slice A0_1 l0_1.length c0_1, .slice A0_2 l0_2.length c0_2] 25 ?_; intro gb382 hg w23 hbox hb; have z_ := t3_ (bS_ (bw0_ HB.out) hb) hbox (gv_ hg (bw0_ HB.out) : w.heap.size ≤ gb382); clear HB; obtain ⟨HB, BK382, GE382⟩ := z_; clear hb hbox hg) | ((with_reducible refine gate_dst (N := 7) rfl ?_); (try (refine gate_guard (by rfl) ?_; dsimp only)); refine be_ 7 #[.int .i64 0, .int .i64 0] 30 ?_; intro gb383 hg w24 hbox hb; have z_ := t6_ (bB_ (bk_ BK382.out) hb) (bS_ (bw1_ HB.out GE382.out) hb) hbox (gv_ hg (bw1_ HB.out GE382.out) : w.heap.size ≤ gb383) (gv_ hg (bw1_ HB.out GE382.out) : w.heap.size ≤ gb383) (by rw [hg]; exact Nat.ne_of_lt (blk_lt (bk_ BK382.out)) : gb382 ≠ gb383); (try clear BK382); clear HB; obtain ⟨BK382, HB, BK383, GW383, GE383, NB382_383⟩ := z_; have NB383_382 := M_ NB382_383.out.symm; clear hb hbox hg; have hnb25 := NB382_383.out; have hnc25 := NB383_382.out; have hcz26_0 := cz_ BK382.out 0 (.string a0_0); have hcz26_1 := cz_ BK382.out 1 (.slice A0_1 l0_1.length c0_1); have hcz26_2 := cz_ BK382.out 2 (.slice A0_2 l0_2.length c0_2); have hfz26_0 := fz_ BK382.out 0; have hfz26_1 := fz_ BK382.out 1; have hfz26_2 := fz_ BK382.out 2) | ((with_reducible refine gate_callee (f := 44) rfl ?_); refine gl_ (some 12) Try.func44 #[.agg #[.string a0_0, .slice A0_1 l0_1.length c0_1, .slice A0_2 l0_2.length c0_2], .slice A1 l1.length c1] ?_; (with_reducible refine (impl_MagazineOk.calls k a0_0 _ _ l0_1 _ _ l0_2 _ _ l1 true _ ?side1 ?side2 ?side3 ?side4 ?side5 ?side6 A4.out).mono ?_); (case side1 => exact kC_ HR0_1.out HB.out); (case side2 => exact HC0_1.out); (case side3 => exact kC_ HR0_2.out HB.out); (case side4 => exact HC0_2.out); (case side5 => exact kC_ HR1.out HB.out); (case side6 => exact HC1.out); rintro e w27 ⟨rfl, hb⟩; refine ⟨_, rfl, ?_⟩; have z_ := t3_ (bB_ (bk_ BK382.out) hb) (bB_ (bk_ BK383.out) hb) (bS_ (bw2_ HB.out GE382.out GE383.out) hb); (try clear BK382); clear HB BK383; obtain ⟨BK382, BK383, HB⟩ := z_; (try clear hb); have p385 : 0 ≤ (a2 : Int) := od_ as_; have q385 : a2 < (l1.length : Int) := od_ as_; obtain ⟨ad385, A385_0, c385_0, e385, hx385_0, hl385_0, hi385_0⟩ := at_L5 HR1.out a2 p385 q385; cases e385; replace hx385_0 := (HB.out.cell (World.block_lt_of_cell? w _ hx385_0)).trans hx385_0; have HR385_0 := M_ hi385_0; have HC385_0 := M_ hl385_0; clear hi385_0 hl385_0; replace p385 := eq_true p385; replace q385 := eq_true q385; have hcz28_0 := cz_ BK383.out 0 (.int .i64 0); have hcz28_1 := cz_ BK383.out 1 (.int .i64 0); have hfz28_0 := fz_ BK383.out 0; have hfz28_1 := fz_ BK383.out 1))
       refine bodyPost_ret (results_list (rs := [.tmp 6, .cell 7 30, .tmp 8]) rfl (by simp) (.tmp (.cell gb383 30 #[.int .i64 0, .int .i64 0] (0, 0) _ rfl (by refine bk_ ?_; refine blk_put (cs := #[.int .i64 0, .int .i64 0]) ?_ 1 _ rfl; refine bk_ ?_; refine blk_put (cs := #[.int .i64 0, .int .i64 0]) ?_ 0 _ rfl; refine bk_ ?_; exact BK383.out) Try.underlying30 rfl (by kernel_rfl) (.tmp .nil)))) rfl ?_
       exact ⟨_, rb_, by first | exact Kd.S_nil _ _ _ _ _ | exact Kd.N_nil _ _ _ _ _ | exact Kd.V_nil _ _ _ _ _ | exact Kd.Q_nil _ _ _ _ _ | exact Kd.R_nil _ _ _ _ _, bw2_ HB.out GE382.out GE383.out⟩
      ·rw [if_neg c22] at H
       have c22b0 : (((rd_L5 l1 a2).length : Int) == 0) = false := beq_eq_false_iff_ne.mpr c22
       have c22b1 : (((rd_L5 l1 a2).length : Int) != 0) = true := bne_iff_ne.mpr c22
       have c22b2 : ¬ ((rd_L5 l1 a2) = []) := fun h_ => c22 (by rw [h_]; rfl)
       replace H := bs_ H
       obtain ⟨t386, A290, H⟩ := H
       (try dsimp only at H)
       have A29 := M_ A290
       clear A290
       by_cases c30 : a2 < (t386.length : Int)
       ·rw [if_pos c30] at H
        have c30b0 := dt_ c30
        clear c30
        by_cases c31 : 1 ≤ ((rd_L5 t386 a2).length : Int)
        ·rw [if_pos c31] at H
         have c31b0 := eq_true c31
         have c31b1 := dt_ c31
         clear c31
         obtain ⟨y390, hy390⟩ : ∃ y_ : List (S30), y_ = ((rd_L5 t386 a2).drop 1) := ⟨_, rfl⟩
         replace H : (if 0 < ((rd_L5 l1 a2).length : Int) then (some ((t386.set (a2 : Int).toNat y390), (rd_T30 (rd_L5 l1 a2) 0).f0, (rd_T30 (rd_L5 l1 a2) 0).f1, true)) else (none)) = some (r1, r2, r3, r4) := by first | (rw [hy390]; with_reducible exact H) | (have H2_ := (Option.bind_some _ _).symm.trans H; rw [hy390]; with_reducible exact H2_) | (have H2_ := (Option.bind_some _ _).symm.trans H; with_reducible exact H2_) | with_reducible exact H | (rw [hy390]; exact H) | exact H
         have Ny390 := M_ hy390
         clear hy390
         obtain ⟨y395, hy395⟩ : ∃ y_ : List (List (S30)), y_ = (t386.set (a2 : Int).toNat y390) := ⟨_, rfl⟩
         replace H : (if 0 < ((rd_L5 l1 a2).length : Int) then (some (y395, (rd_T30 (rd_L5 l1 a2) 0).f0, (rd_T30 (rd_L5 l1 a2) 0).f1, true)) else (none)) = some (r1, r2, r3, r4) := by first | (rw [hy395]; with_reducible exact H) | (have H2_ := (Option.bind_some _ _).symm.trans H; rw [hy395]; with_reducible exact H2_) | (have H2_ := (Option.bind_some _ _).symm.trans H; with_reducible exact H2_) | with_reducible exact H | (rw [hy395]; exact H) | exact H
         have Ny395 := M_ hy395
         clear hy395
         by_cases c33 : 0 < ((rd_L5 l1 a2).length : Int)
         ·rw [if_pos c33] at H
          have c33b0 := dt_ c33
          have c33b1 : decide (0 < (rd_L5 l1 a2).length) = true := dt_ (by omega)
          clear c33
          simp only [Option.some.injEq, Prod.mk.injEq] at H
          obtain ⟨rfl, rfl, rfl, rfl⟩ := H
          go_enter Try.func21, Try.ntmps21
          try go_wp2_with (first | ((with_reducible refine gate_dst (N := 3) rfl ?_); (try (refine gate_guard (by rfl) ?_; dsimp only)); refine be_ 3 #[.string a0_0, .slice A0_1 l0_1.length c0_1, .slice A0_2 l0_2.length c0_2] 25 ?_; intro gb382 hg w34 hbox hb; have z_ := t3_ (bS_ (bw0_ HB.out) hb) hbox (gv_ hg (bw0_ HB.out) : w.heap.size ≤ gb382); clear HB; obtain ⟨HB, BK382, GE382⟩ := z_; clear hb hbox hg) | ((with_reducible refine gate_dst (N := 7) rfl ?_); (try (refine gate_guard (by rfl) ?_; dsimp only)); refine be_ 7 #[.int .i64 0, .int .i64 0] 30 ?_; intro gb383 hg w35 hbox hb; have z_ := t6_ (bB_ (bk_ BK382.out) hb) (bS_ (bw1_ HB.out GE382.out) hb) hbox (gv_ hg (bw1_ HB.out GE382.out) : w.heap.size ≤ gb383) (gv_ hg (bw1_ HB.out GE382.out) : w.heap.size ≤ gb383) (by rw [hg]; exact Nat.ne_of_lt (blk_lt (bk_ BK382.out)) : gb382 ≠ gb383); (try clear BK382); clear HB; obtain ⟨BK382, HB, BK383, GW383, GE383, NB382_383⟩ := z_; have NB383_382 := M_ NB382_383.out.symm; clear hb hbox hg; have hnb36 := NB382_383.out; have hnc36 := NB383_382.out; have hcz37_0 := cz_ BK382.out 0 (.string a0_0); have hcz37_1 := cz_ BK382.out 1 (.slice A0_1 l0_1.length c0_1); have hcz37_2 := cz_ BK382.out 2 (.slice A0_2 l0_2.length c0_2); have hfz37_0 := fz_ BK382.out 0; have hfz37_1 := fz_ BK382.out 1; have hfz37_2 := fz_ BK382.out 2) | ((with_reducible refine gate_callee (f := 44) rfl ?_); refine gl_ (some 12) Try.func44 #[.agg #[.string a0_0, .slice A0_1 l0_1.length c0_1, .slice A0_2 l0_2.length c0_2], .slice A1 l1.length c1] ?_; (with_reducible refine (impl_MagazineOk.calls k a0_0 _ _ l0_1 _ _ l0_2 _ _ l1 true _ ?side1 ?side2 ?side3 ?side4 ?side5 ?side6 A4.out).mono ?_); (case side1 => exact kC_ HR0_1.out HB.out); (case side2 => exact HC0_1.out); (case side3 => exact kC_ HR0_2.out HB.out); (case side4 => exact HC0_2.out); (case side5 => exact kC_ HR1.out HB.out); (case side6 => exact HC1.out); rintro e w38 ⟨rfl, hb⟩; refine ⟨_, rfl, ?_⟩; have z_ := t3_ (bB_ (bk_ BK382.out) hb) (bB_ (bk_ BK383.out) hb) (bS_ (bw2_ HB.out GE382.out GE383.out) hb); (try clear BK382); clear HB BK383; obtain ⟨BK382, BK383, HB⟩ := z_; (try clear hb); have p385 : 0 ≤ (a2 : Int) := od_ as_; have q385 : a2 < (l1.length : Int) := od_ as_; obtain ⟨ad385, A385_0, c385_0, e385, hx385_0, hl385_0, hi385_0⟩ := at_L5 HR1.out a2 p385 q385; cases e385; replace hx385_0 := (HB.out.cell (World.block_lt_of_cell? w _ hx385_0)).trans hx385_0; have HR385_0 := M_ hi385_0; have HC385_0 := M_ hl385_0; clear hi385_0 hl385_0; replace p385 := eq_true p385; replace q385 := eq_true q385) | ((with_reducible refine gate_callee (f := 74) rfl ?_); refine gl_ (some 34) Try.func74 #[.slice (some ad385) l1.length c1] ?_; (with_reducible refine (impl_copyMagazine.calls k _ _ l1 t386 _ ?side1 ?side2 A29.out).mono ?_); (case side1 => exact kC_ HR1.out HB.out); (case side2 => exact HC1.out); rintro e w39 ⟨v387, rfl, ho0, hb⟩; refine ⟨_, rfl, ?_⟩; have z_ := t4_ (Kd.N_lower (Kd.N_mono (ok' := fun k_ => (w.heap.size ≤ k_) ∧ k_ ≠ gb382 ∧ k_ ≠ gb383) (Kd.S_N (Kd.S_bound ho0)) (fun k_ hk_ => ⟨(Nat.le_trans (below_size (bw2_ HB.out GE382.out GE383.out)) hk_.2.1), (Kd.freshB (g := gb382) (o := .cells #[.string a0_0, .slice A0_1 l0_1.length c0_1, .slice A0_2 l0_2.length c0_2] 25 (0, 0)) (bk_ BK382.out) k_ hk_.2.1), (Kd.freshB (g := gb383) (o := .cells #[.int .i64 0, .int .i64 0] 30 (0, 0)) (bk_ BK383.out) k_ hk_.2.1)⟩)) (below_size (bw2_ HB.out GE382.out GE383.out))) (bB_ (bk_ BK382.out) hb) (bB_ (bk_ BK383.out) hb) (bS_ (bw2_ HB.out GE382.out GE383.out) hb); (try clear BK382); clear HB BK383; obtain ⟨HO388, BK382, BK383, HB⟩ := z_; (try clear ho0 hb); obtain ⟨Ao40, co40, eo40⟩ := Kd.N_slice HO388.out; subst eo40; have p389 : 0 ≤ (a2 : Int) := od_ as_; have q389 : a2 < (t386.length : Int) := od_ as_; obtain ⟨ad389, A389_0, c389_0, e389, hx389_0, hl389_0, hi389_0⟩ := at_L5 (Kd.N_reads' HO388.out).2.2 a2 p389 q389; cases e389; obtain ⟨ce389, hce389, hMe389, hcc389⟩ := Kd.N_get HO388.out [] a2 p389 (by first | exact q389 | exact od_ as_ | (have e_ := (Kd.N_reads' HO388.out).1; omega)); obtain ⟨ua389_0, uc389_0, rfl, ul389_0, ge389_0⟩ := Kd.FK_slice_open hMe389; have hv389_0 := hcc389 0 _ rfl; rw [Nat.add_zero, show ((Kd.slice 30 k30)).sz = 1 from rfl, Nat.mul_one] at hv389_0; replace hv389_0 := Option.some.inj (hv389_0.symm.trans hx389_0); injection hv389_0 with hva_ hvn_ hvc_; rw [hva_] at ge389_0; rw [hvc_] at ul389_0; have HL389_0 := M_ (show Kd.V k30 30 _ w.heap.size _ _ (rd_L5 t386 a2) from Kd.V_mk ul389_0 ge389_0); clear hce389 hcc389 ul389_0 ge389_0 hvc_ hvn_ hva_; have HR389_0 := M_ hi389_0; have HC389_0 := M_ hl389_0; clear hi389_0 hl389_0; replace p389 := eq_true p389; replace q389 := eq_true q389; have q41 : (1 : Int) ≤ (((rd_L5 t386 a2).length : Int) : Int) := od_ as_; obtain ⟨i041, hi041, _, hsz41, _⟩ := info_parts info30; have hroom41 : (rd_L5 t386 a2).length ≤ c389_0 := HC389_0.out; have hC41 : Kd.F k30 _ _ A389_0 (rd_L5 t386 a2).length (rd_L5 t386 a2) := (Kd.V_at (base := w.heap.size) HL389_0.out).2.2; have hcut41 := cut_from (P := Try.prog) 34 30 .i64 Try.underlying34 hi041 2 hsz41 A389_0 (rd_L5 t386 a2).length c389_0 1 (by omega) q41; have hr41 := Kd.F_cut (m := (1 : Int).toNat) (c := c389_0) hC41 (by omega) hroom41; obtain ⟨A41, hA41⟩ : ∃ A1, A1 = (if c389_0 = (1 : Int).toNat then A389_0 else (A389_0 : Option Addr).map (·.add ((1 : Int).toNat * 2))) := ⟨_, rfl⟩; obtain ⟨c41, hc41⟩ : ∃ c1, c1 = c389_0 - (1 : Int).toNat := ⟨_, rfl⟩; have hy41 : y390.length = (rd_L5 t386 a2).length - (1 : Int).toNat := (by rw [Ny390.out, List.length_drop] <;> omega); rw [show (rd_L5 t386 a2).drop (1 : Int).toNat = y390 from Ny390.out.symm] at hr41; replace hr41 : Kd.F k30 _ _ A41 y390.length y390 := (by rw [hA41]; exact hr41); rw [← hy41, ← hA41, ← hc41] at hcut41; have HO394 := M_ (show Kd.V k30 30 _ w.heap.size _ (.slice A41 y390.length c41) y390 from Kd.V_mk (by rw [hy41, hc41]; exact Nat.sub_le_sub_right hroom41 _) hr41); have HC394 := M_ (show y390.length ≤ c41 from by rw [hy41, hc41]; exact Nat.sub_le_sub_right hroom41 _); clear hr41 hC41 hroom41 hi041 hsz41 hc41; have KY41 := M_ hy41; have KA41 := M_ hA41; clear hy41 hA41; replace q41 := eq_true q41; have p32 : 0 ≤ (a2 : Int) := od_ as_; have q32 : (a2 : Int) < ((t386.length : Int) : Int) := od_ as_; obtain ⟨go32, co32, eo32, gb32, gl32, cl32, HG32⟩ := Kd.N_form HO388.out (by omega); (first | cases eo32 | (injection eo32 with ea_ en_ ec_; (first | subst ea_ | (injection ea_ with ea_; subst ea_)); subst ec_; clear en_)); have GB32 := M_ gb32; have GG32 := M_ HG32; clear gb32 gl32 HG32; (first | simp only [add_plain] at hx389_0 | skip); obtain ⟨ce32, hcl32, hM32, hcc32, hfr32⟩ := Kd.N_elem HO388.out [] (a2 : Int) p32 q32; obtain ⟨ua32_0, uc32_0, rfl, ul32_0, ge32_0⟩ := Kd.FK_slice_open hM32; have hx32_0 := hcc32 0 _ rfl; have hf32_0 := hfr32 0; (try simp only [show ((Kd.slice 30 k30)).sz = 1 from rfl, Nat.mul_one, Nat.add_zero] at hx32_0); (try simp only [show ((Kd.slice 30 k30)).sz = 1 from rfl, Nat.mul_one, Nat.add_zero] at hf32_0); (try clear hcl32 hcc32 hfr32 hM32); replace p32 := eq_true p32; replace q32 := eq_true q32; have HX42 := M_ (show Kd.N (Kd.slice 30 k30) 34 w39 w.heap.size (fun k_ => (w.heap.size ≤ k_) ∧ k_ ≠ gb382 ∧ k_ ≠ gb383) (.slice (some ⟨go32, 0, none⟩) t386.length co40) t386 from (kN_ HO388.out)); obtain ⟨ce42, hcl42, hM42, hcc42, hfr42⟩ := Kd.N_elem HX42.out [] (a2 : Int) (od_ as_) (by have h_ : (a2 : Int) < ((t386.length : Int) : Int) := od_ as_; first | exact h_ | (have e_ := (Kd.N_reads' HO388.out).1; omega) | simpa using h_); obtain ⟨ua42_0, uc42_0, rfl, ul42_0, ge42_0⟩ := Kd.FK_slice_open hM42; have HP42 := Kd.N_seg HX42.out (a2 : Int) (od_ as_) (by have h_ : (a2 : Int) < ((t386.length : Int) : Int) := od_ as_; first | exact h_ | (have e_ := (Kd.N_reads' HO388.out).1; omega) | simpa using h_) (seg := [.slice A41 y390.length c41]) (j := 0) hcl42 hcc42 (show 1 ≤ 1 from by decide) (x' := y390) (Kd.FK_slice_mk (Kd.V_reads' (Kd.V_mono (ok' := (fun k_ => ((fun k_ => (w.heap.size ≤ k_) ∧ k_ ≠ gb382 ∧ k_ ≠ gb383)) k_ ∧ k_ ≠ go32)) (HO394.out) (fun k_ hk => ⟨⟨hk.1.1, ⟨hk.1.2.1, hk.1.2.2⟩⟩, fun e_ => (hk.2) (by rw [e_]; rfl)⟩))).2.1 (Kd.V_F (Kd.V_mono (ok' := (fun k_ => ((fun k_ => (w.heap.size ≤ k_) ∧ k_ ≠ gb382 ∧ k_ ≠ gb383)) k_ ∧ k_ ≠ go32)) (HO394.out) (fun k_ hk => ⟨⟨hk.1.1, ⟨hk.1.2.1, hk.1.2.2⟩⟩, fun e_ => (hk.2) (by rw [e_]; rfl)⟩)))) (fun _ hk => hk); have hx42_0 := hcc42 0 _ rfl; (try simp only [show ((Kd.slice 30 k30)).sz = 1 from rfl, Nat.mul_one, Nat.add_zero] at hx42_0); have hf42_0 := hfr42 0; (try simp only [show ((Kd.slice 30 k30)).sz = 1 from rfl, Nat.mul_one, Nat.add_zero] at hf42_0); (try clear hcl42 hcc42 hfr42 hM42); (try simp only [show ((Kd.slice 30 k30)).sz = 1 from rfl, Nat.mul_one, Nat.add_zero] at HP42); (try simp only [show ((Kd.slice 30 k30)).sz = 1 from rfl, Nat.mul_one, Nat.add_zero] at HP42)) | ((with_reducible refine gate_store (t := 34) (p := 42) rfl ?_); refine store_event (t := 34) (p := 42) (v := ?vo_w43) (w1 := (w39.setCell ⟨go32, (a2 : Int).toNat, none⟩ (.slice A41 y390.length c41))) ?hg ?ho ?hn ?hr ?_; (case ho => rfl); (case hg => rfl); (case hn => rfl); (case hr => first | (go_simp; done) | (go_simp; rfl)); intro w43 hw; have hg : w39.grownBy w43 (some go32) := (by rw [hw]; exact HP42.2); have hp_ : Kd.N (Kd.slice 30 k30) 34 w43 w.heap.size (fun k_ => (w.heap.size ≤ k_) ∧ k_ ≠ gb382 ∧ k_ ≠ gb383) (.slice (some ⟨go32, 0, none⟩) t386.length co40) y395 := (by rw [hw, Ny395.out]; exact HP42.1); clear HP42; have z_ := t4_ (blk_grown (g := gb382) (o := .cells #[.string a0_0, .slice A0_1 l0_1.length c0_1, .slice A0_2 l0_2.length c0_2] 25 (0, 0)) (bk_ BK382.out) hg (Kd.N_ne HO388.out BK382.out (by decide))) (blk_grown (g := gb383) (o := .cells #[.int .i64 0, .int .i64 0] 30 (0, 0)) (bk_ BK383.out) hg (Kd.N_ne HO388.out BK383.out (by decide))) hp_ (by rw [hw]; exact below_set (HB.out) GB32.out : Below w.heap.size w w43); (try clear BK382); clear HO388 BK383; (try clear HO394 HL389_0); clear HB; obtain ⟨BK382, BK383, HO388, HB⟩ := z_; clear hg hw hp_))
          have z_ := t4_ (Kd.N_drew HO388.out) (blk_drew BK382.out) (blk_drew BK383.out) (below_drew1 HB.out)
          clear HO388
          (try clear BK382 HO394 HL389_0)
          clear HB BK383
          obtain ⟨HO388, BK382, BK383, HB⟩ := z_
          have p396 : 0 ≤ (a2 : Int) := od_ as_
          have q396 : a2 < (l1.length : Int) := od_ as_
          obtain ⟨ad396, A396_0, c396_0, e396, hx396_0, hl396_0, hi396_0⟩ := at_L5 HR1.out a2 p396 q396
          have hw396_0 := hx396_0
          obtain rfl : ad385 = ad396 := (by injection e396)
          replace hx396_0 := (HB.out.cell (World.block_lt_of_cell? w _ hx396_0)).trans hx396_0
          have HR396_0 := M_ hi396_0
          have HC396_0 := M_ hl396_0
          clear hi396_0 hl396_0
          replace p396 := eq_true p396
          replace q396 := eq_true q396
          have p397 : 0 ≤ (0 : Int) := (by omega)
          have q397 : 0 < ((rd_L5 l1 a2).length : Int) := od_ as_
          obtain ⟨ad397, e397, hx397_0, hx397_1⟩ := at_T30 HR396_0.out 0 p397 q397
          have hw397_1 := hx397_1
          (try rw [show ((0 : Int)).toNat = 0 from rfl] at hw397_1)
          (try rw [show 0 * 2 = 0 from rfl] at hw397_1)
          (try rw [Addr.add_zero'] at hw397_1)
          have hw397_0 := hx397_0
          (try rw [show ((0 : Int)).toNat = 0 from rfl] at hw397_0)
          (try rw [show 0 * 2 = 0 from rfl] at hw397_0)
          (try rw [Addr.add_zero'] at hw397_0)
          cases e397
          have qi397 : (0 < (rd_L5 l1 a2).length) = True := eq_true (by omega)
          (try rw [show ((0 : Int)).toNat = 0 from rfl] at hx397_0)
          (try rw [show 0 * 2 = 0 from rfl] at hx397_0)
          (try rw [Addr.add_zero'] at hx397_0)
          (try rw [show ((0 : Int)).toNat = 0 from rfl] at hx397_1)
          (try rw [show 0 * 2 = 0 from rfl] at hx397_1)
          (try rw [Addr.add_zero'] at hx397_1)
          replace hx397_0 := (HB.out.cell (World.block_lt_of_cell? w _ hx397_0)).trans hx397_0
          replace hx397_1 := (HB.out.cell (World.block_lt_of_cell? w _ hx397_1)).trans hx397_1
          replace p397 := eq_true p397
          replace q397 := eq_true q397
          refine start_ (n := 10) (S := fun w' => w'.cell? (ad385.add (a2).toNat) = some (.slice (some ad397) (rd_L5 l1 a2).length c396_0) ∧ w'.cell? ad397 = some (.int .i64 ((rd_T30 (rd_L5 l1 a2) 0).f0)) ∧ w'.cell? ⟨ad397.block, ad397.off + 1, none⟩ = some (.int .i64 ((rd_T30 (rd_L5 l1 a2) 0).f1))) (ds := []) (mk_ 10 0) (by kernel_rfl) rfl rfl ⟨((HB.out.cell (World.block_lt_of_cell? w _ hw396_0)).trans hw396_0), ((HB.out.cell (World.block_lt_of_cell? w _ hw397_0)).trans hw397_0), ((HB.out.cell (World.block_lt_of_cell? w _ hw397_1)).trans hw397_1)⟩ (fun hHeld => ?_); refine with_tabW impl_TakeMatrix.tab5 impl_TakeMatrix.bits5 (fun HT_ HW_ => ?_)
          generalize w43.drew = w44 at HO388 BK382 BK383 HB HR396_0 hx396_0 hx397_0 hx397_1 hHeld ⊢
          refine pu_ 0 (some 43) (mk_ 10 1) HT_.out ?_
          refine pu_ 1 (some 44) (mk_ 10 3) HT_.out ?_
          refine pu_ 2 (some 45) (mk_ 10 7) HT_.out ?_
          refine pu_ 3 (some 46) (mk_ 10 15) HT_.out ?_
          refine pu_ 7 (some 6) (mk_ 10 143) HT_.out ?_
          refine ta_ 4 (some 47) (mk_ 10 159) HT_.out HW_.out hHeld (hy := by rintro w' ⟨s0, s1, s2⟩; go_simp; with_reducible rfl) (h := ?_)
          refine pu_ 5 (some 48) (mk_ 10 191) HT_.out ?_
          refine ta_ 6 (some 49) (mk_ 10 255) HT_.out HW_.out hHeld (hy := by rintro w' ⟨s0, s1, s2⟩; go_simp; with_reducible rfl) (h := ?_)
          refine on_ 8 none (mk_ 10 511) HT_.out fun K hK => ?_
          have hs45 := cz_ BK383.out 0 (.int .i64 0)
          have hfs45 := fz_ BK383.out 0
          have hns45_0 := NB382_383.out
          have hms45_0 := NB383_382.out
          have hs46 := cz_ BK383.out 1 (.int .i64 0)
          have hfs46 := fz_ BK383.out 1
          have hns46_0 := NB382_383.out
          have hms46_0 := NB383_382.out
          refine skip_ (w1 := ?_) (by rfl) rfl ?_ ?_
          rotate_left
          ·go_simp
           rfl
          refine hK.out _ _ ⟨((cell_far (p := ⟨gb383, _, none⟩) (by first | exact Nat.ne_of_lt (Nat.lt_of_lt_of_le (by have := World.block_lt_of_cell? _ _ hw396_0; first | rwa [add_block] at this | exact this) GW383.out) | (rw [add_block]; exact Nat.ne_of_lt (Nat.lt_of_lt_of_le (by have := World.block_lt_of_cell? _ _ hw396_0; first | rwa [add_block] at this | exact this) GW383.out)) | (show (Addr.add _ _).block ≠ _; rw [add_block]; exact Nat.ne_of_lt (Nat.lt_of_lt_of_le (by have := World.block_lt_of_cell? _ _ hw396_0; first | rwa [add_block] at this | exact this) GW383.out)) | (dsimp only; exact Nat.ne_of_lt (Nat.lt_of_lt_of_le (by have := World.block_lt_of_cell? _ _ hw396_0; first | rwa [add_block] at this | exact this) GW383.out))) _).trans (((cell_far (p := ⟨gb383, _, none⟩) (by first | exact Nat.ne_of_lt (Nat.lt_of_lt_of_le (by have := World.block_lt_of_cell? _ _ hw396_0; first | rwa [add_block] at this | exact this) GW383.out) | (rw [add_block]; exact Nat.ne_of_lt (Nat.lt_of_lt_of_le (by have := World.block_lt_of_cell? _ _ hw396_0; first | rwa [add_block] at this | exact this) GW383.out)) | (show (Addr.add _ _).block ≠ _; rw [add_block]; exact Nat.ne_of_lt (Nat.lt_of_lt_of_le (by have := World.block_lt_of_cell? _ _ hw396_0; first | rwa [add_block] at this | exact this) GW383.out)) | (dsimp only; exact Nat.ne_of_lt (Nat.lt_of_lt_of_le (by have := World.block_lt_of_cell? _ _ hw396_0; first | rwa [add_block] at this | exact this) GW383.out))) _).trans (hHeld.1)))), ((cell_far (p := ⟨gb383, _, none⟩) (by first | exact Nat.ne_of_lt (Nat.lt_of_lt_of_le (by have := World.block_lt_of_cell? _ _ hw397_0; first | rwa [add_block] at this | exact this) GW383.out) | (rw [add_block]; exact Nat.ne_of_lt (Nat.lt_of_lt_of_le (by have := World.block_lt_of_cell? _ _ hw397_0; first | rwa [add_block] at this | exact this) GW383.out)) | (show (Addr.add _ _).block ≠ _; rw [add_block]; exact Nat.ne_of_lt (Nat.lt_of_lt_of_le (by have := World.block_lt_of_cell? _ _ hw397_0; first | rwa [add_block] at this | exact this) GW383.out)) | (dsimp only; exact Nat.ne_of_lt (Nat.lt_of_lt_of_le (by have := World.block_lt_of_cell? _ _ hw397_0; first | rwa [add_block] at this | exact this) GW383.out))) _).trans (((cell_far (p := ⟨gb383, _, none⟩) (by first | exact Nat.ne_of_lt (Nat.lt_of_lt_of_le (by have := World.block_lt_of_cell? _ _ hw397_0; first | rwa [add_block] at this | exact this) GW383.out) | (rw [add_block]; exact Nat.ne_of_lt (Nat.lt_of_lt_of_le (by have := World.block_lt_of_cell? _ _ hw397_0; first | rwa [add_block] at this | exact this) GW383.out)) | (show (Addr.add _ _).block ≠ _; rw [add_block]; exact Nat.ne_of_lt (Nat.lt_of_lt_of_le (by have := World.block_lt_of_cell? _ _ hw397_0; first | rwa [add_block] at this | exact this) GW383.out)) | (dsimp only; exact Nat.ne_of_lt (Nat.lt_of_lt_of_le (by have := World.block_lt_of_cell? _ _ hw397_0; first | rwa [add_block] at this | exact this) GW383.out))) _).trans (hHeld.2.1)))), ((cell_far (p := ⟨gb383, _, none⟩) (by first | exact Nat.ne_of_lt (Nat.lt_of_lt_of_le (by have := World.block_lt_of_cell? _ _ hw397_1; first | rwa [add_block] at this | exact this) GW383.out) | (rw [add_block]; exact Nat.ne_of_lt (Nat.lt_of_lt_of_le (by have := World.block_lt_of_cell? _ _ hw397_1; first | rwa [add_block] at this | exact this) GW383.out)) | (show (Addr.add _ _).block ≠ _; rw [add_block]; exact Nat.ne_of_lt (Nat.lt_of_lt_of_le (by have := World.block_lt_of_cell? _ _ hw397_1; first | rwa [add_block] at this | exact this) GW383.out)) | (dsimp only; exact Nat.ne_of_lt (Nat.lt_of_lt_of_le (by have := World.block_lt_of_cell? _ _ hw397_1; first | rwa [add_block] at this | exact this) GW383.out))) _).trans (((cell_far (p := ⟨gb383, _, none⟩) (by first | exact Nat.ne_of_lt (Nat.lt_of_lt_of_le (by have := World.block_lt_of_cell? _ _ hw397_1; first | rwa [add_block] at this | exact this) GW383.out) | (rw [add_block]; exact Nat.ne_of_lt (Nat.lt_of_lt_of_le (by have := World.block_lt_of_cell? _ _ hw397_1; first | rwa [add_block] at this | exact this) GW383.out)) | (show (Addr.add _ _).block ≠ _; rw [add_block]; exact Nat.ne_of_lt (Nat.lt_of_lt_of_le (by have := World.block_lt_of_cell? _ _ hw397_1; first | rwa [add_block] at this | exact this) GW383.out)) | (dsimp only; exact Nat.ne_of_lt (Nat.lt_of_lt_of_le (by have := World.block_lt_of_cell? _ _ hw397_1; first | rwa [add_block] at this | exact this) GW383.out))) _).trans (hHeld.2.2))))⟩ (fun hHeld => ?_)
          clear hK K
          refine pu_ 9 (some 8) (mk_ 10 1023) HT_.out ?_
          refine done_ (done_of HT_.out (by kernel_rfl)) ?_
          try go_wp2
          refine bodyPost_ret (results_list (rs := [.tmp 6, .cell 7 30, .tmp 8]) rfl (by simp) (.tmp (.cell gb383 30 #[.int .i64 ((rd_T30 (rd_L5 l1 a2) 0).f0), .int .i64 ((rd_T30 (rd_L5 l1 a2) 0).f1)] (0, 0) _ rfl (by refine bk_ ?_; refine blk_put (cs := #[.int .i64 ((rd_T30 (rd_L5 l1 a2) 0).f0), .int .i64 0]) ?_ 1 _ rfl; refine bk_ ?_; refine blk_put (cs := #[.int .i64 0, .int .i64 0]) ?_ 0 _ rfl; refine bk_ ?_; exact BK383.out) Try.underlying30 rfl (by kernel_rfl) (.tmp .nil)))) rfl ?_
          exact ⟨_, rb_, by refine kN_ ?_; exact Kd.N_mono (Kd.N_far (p := ⟨gb383, 1, none⟩) (Kd.N_far (p := ⟨gb383, 0, none⟩) (Kd.N_mono HO388.out (fun k_ hk => (⟨hk, hk.2.2⟩ : _ ∧ k_ ≠ gb383))) (fun _ hk => hk.2) (.int .i64 ((rd_T30 (rd_L5 l1 a2) 0).f0))) (fun _ hk => hk.2) (.int .i64 ((rd_T30 (rd_L5 l1 a2) 0).f1))) (fun _ hk => hk.1.1), bw2_ HB.out GE382.out GE383.out⟩
         ·rw [if_neg c33] at H
          exact absurd H (by simp)
        ·rw [if_neg c31] at H
         exact absurd H (by simp)
       ·rw [if_neg c30] at H
        exact absurd H (by simp)
     ·rw [if_neg c21] at H
      exact absurd H (by simp)
    ·rw [if_neg c20] at H
     exact absurd H (by simp)
 ·replace c5 := Bool.eq_false_iff.mpr c5
  subst c5
  rw [if_neg (show ¬ (false = true) by decide)] at H
  simp only [Option.some.injEq, Prod.mk.injEq] at H
  obtain ⟨rfl, rfl, rfl, rfl⟩ := H
  go_enter Try.func21, Try.ntmps21
  go_wp2_with (first | ((with_reducible refine gate_dst (N := 3) rfl ?_); (try (refine gate_guard (by rfl) ?_; dsimp only)); refine be_ 3 #[.string a0_0, .slice A0_1 l0_1.length c0_1, .slice A0_2 l0_2.length c0_2] 25 ?_; intro gb382 hg w47 hbox hb; have z_ := t3_ (bS_ (bw0_ HB.out) hb) hbox (gv_ hg (bw0_ HB.out) : w.heap.size ≤ gb382); clear HB; obtain ⟨HB, BK382, GE382⟩ := z_; clear hb hbox hg) | ((with_reducible refine gate_dst (N := 7) rfl ?_); (try (refine gate_guard (by rfl) ?_; dsimp only)); refine be_ 7 #[.int .i64 0, .int .i64 0] 30 ?_; intro gb383 hg w48 hbox hb; have z_ := t5_ (bB_ (bk_ BK382.out) hb) (bS_ (bw1_ HB.out GE382.out) hb) hbox (gv_ hg (bw1_ HB.out GE382.out) : w.heap.size ≤ gb383) (by rw [hg]; exact Nat.ne_of_lt (blk_lt (bk_ BK382.out)) : gb382 ≠ gb383); (try clear BK382); clear HB; obtain ⟨BK382, HB, BK383, GE383, NB382_383⟩ := z_; have NB383_382 := M_ NB382_383.out.symm; clear hb hbox hg; have hnb49 := NB382_383.out; have hnc49 := NB383_382.out; have hcz50_0 := cz_ BK382.out 0 (.string a0_0); have hcz50_1 := cz_ BK382.out 1 (.slice A0_1 l0_1.length c0_1); have hcz50_2 := cz_ BK382.out 2 (.slice A0_2 l0_2.length c0_2); have hfz50_0 := fz_ BK382.out 0; have hfz50_1 := fz_ BK382.out 1; have hfz50_2 := fz_ BK382.out 2) | ((with_reducible refine gate_callee (f := 44) rfl ?_); refine gl_ (some 12) Try.func44 #[.agg #[.string a0_0, .slice A0_1 l0_1.length c0_1, .slice A0_2 l0_2.length c0_2], .slice A1 l1.length c1] ?_; (with_reducible refine (impl_MagazineOk.calls k a0_0 _ _ l0_1 _ _ l0_2 _ _ l1 false _ ?side1 ?side2 ?side3 ?side4 ?side5 ?side6 A4.out).mono ?_); (case side1 => exact kC_ HR0_1.out HB.out); (case side2 => exact HC0_1.out); (case side3 => exact kC_ HR0_2.out HB.out); (case side4 => exact HC0_2.out); (case side5 => exact kC_ HR1.out HB.out); (case side6 => exact HC1.out); rintro e w51 ⟨rfl, hb⟩; refine ⟨_, rfl, ?_⟩; have n1_ := M_ (bB_ (bk_ BK383.out) hb); have n2_ := M_ (bS_ (bw2_ HB.out GE382.out GE383.out) hb); (try clear BK382); clear HB BK383; have BK383 := n1_; have HB := n2_; clear n1_ n2_; (try clear hb); have hcz52_0 := cz_ BK383.out 0 (.int .i64 0); have hcz52_1 := cz_ BK383.out 1 (.int .i64 0); have hfz52_0 := fz_ BK383.out 0; have hfz52_1 := fz_ BK383.out 1))
  refine bodyPost_ret (results_list (rs := [.tmp 6, .cell 7 30, .tmp 8]) rfl (by simp) (.tmp (.cell gb383 30 #[.int .i64 0, .int .i64 0] (0, 0) _ rfl (by refine bk_ ?_; refine blk_put (cs := #[.int .i64 0, .int .i64 0]) ?_ 1 _ rfl; refine bk_ ?_; refine blk_put (cs := #[.int .i64 0, .int .i64 0]) ?_ 0 _ rfl; refine bk_ ?_; exact BK383.out) Try.underlying30 rfl (by kernel_rfl) (.tmp .nil)))) rfl ?_
  exact ⟨_, rb_, by first | exact Kd.S_nil _ _ _ _ _ | exact Kd.N_nil _ _ _ _ _ | exact Kd.V_nil _ _ _ _ _ | exact Kd.Q_nil _ _ _ _ _ | exact Kd.R_nil _ _ _ _ _, bw2_ HB.out GE382.out GE383.out⟩

def spec_l1Fall.l0 : Nat → List Int → Int → List Int → Int → Int → Option (Int)
  | 0, _, _, _, _, _ => none
  | k + 1, x0, x1, x7, x8, x9 => if x9 < x8 then (if 0 ≤ x9 then (if x9 < (x7.length : Int) then ((spec_l1Part.f x1 (rd x7 x9)).bind fun t399 => (if t399 = true then (some x9) else (spec_l1Fall.l0 k x0 x1 x7 x8 (wrap64 (x9 + 1))))) else (none)) else (none)) else (some (x0.length : Int))
def spec_l1Fall.f (k : Nat) (l0 : List Int) (a1 : Int) : Option (Int) := spec_l1Fall.l0 k l0 a1 l0 (l0.length : Int) 0
theorem spec_l1Fall.mono_l : ∀ k, (∀ y0 y1 y2 y3 y4, LeO (spec_l1Fall.l0 k y0 y1 y2 y3 y4) (spec_l1Fall.l0 (k + 1) y0 y1 y2 y3 y4))
  | 0 => fun _ _ _ _ _ r h => by simp [spec_l1Fall.l0] at h
  | k + 1 => by
    have ih0 := spec_l1Fall.mono_l k
    · intro y0 y1 y2 y3 y4
      unfold spec_l1Fall.l0
      repeat' first | (with_reducible first | exact ih0 _ _ _ _ _ | exact LeO.refl _ | exact LeO.none _ | refine LeO.ite ?_ ?_ | refine LeO.bind ?_ (fun _ => ?_)) | exact ih0 _ _ _ _ _ | exact LeO.none _ | refine LeO.ite ?_ ?_ | refine LeO.bind ?_ (fun _ => ?_)
theorem spec_l1Fall.mono : ∀ a0 a1 k, LeO (spec_l1Fall.f k a0 a1) (spec_l1Fall.f (k + 1) a0 a1) := by
 intro a0 a1 k
 have ih0 := spec_l1Fall.mono_l k
 unfold spec_l1Fall.f
 repeat' first | (with_reducible first | exact ih0 _ _ _ _ _ | exact LeO.refl _ | exact LeO.none _ | refine LeO.ite ?_ ?_ | refine LeO.bind ?_ (fun _ => ?_)) | exact ih0 _ _ _ _ _ | exact LeO.none _ | refine LeO.ite ?_ ?_ | refine LeO.bind ?_ (fun _ => ?_)
set_option maxHeartbeats 8000000 in
set_option maxRecDepth 100000 in
theorem spec_l1Fall.calls (k : Nat) (A0 : Option Addr) (c0 : Nat) (l0 : List Int) (a1 : Int) (r : Int) (w : World) (hr0 : Kd.C (Kd.int .i64) w A0 l0.length l0) (hc0 : l0.length ≤ c0) (h : spec_l1Fall.f k l0 a1 = some r) :
    Calls Try.prog 97 #[.slice A0 l0.length c0, .int .i64 a1] w fun e w' => e = .returned (.int .i64 r) ∧ Drawn0 w w' := by
 have HR0 := M_ hr0
 have HC0 := M_ hc0
 clear hr0 hc0
 have H : (spec_l1Fall.l0 k l0 a1 l0 (l0.length : Int) 0) = some r := h
 clear h
 have H' := M_ H
 clear H
 go_enter Try.func97, Try.ntmps97
 go_wp2
 go_loopg [9] k (fun kq v9 w' => ∃ (x9_1 : Int), v9 = .int .i64 x9_1 ∧ Aside0 (spec_l1Fall.l0 kq l0 a1 l0 (l0.length : Int) x9_1 = some r) ∧ Aside0 (kq ≤ k) ∧ Drawn0 w w')
 case atStart => exact ⟨(0), (by first | rfl | (simp; done) | (simp [*]; done)), H', ⟨Nat.le_refl _⟩, dr_⟩
 case round =>
  clear H'
  try clear p2
  obtain ⟨x9_1, rfl, HA, HK1, ⟨m1, rfl⟩⟩ := hrel
  cases gk with
  | zero => exact absurd HA.out (by simp [spec_l1Fall.l0])
  | succ k1 =>
   have H := HA.out
   clear HA
   simp only [spec_l1Fall.l0] at H
   by_cases c3 : x9_1 < (l0.length : Int)
   ·rw [if_pos c3] at H
    have c3b0 := dt_ c3
    clear c3
    by_cases c4 : 0 ≤ x9_1
    ·rw [if_pos c4] at H
     have c4b0 := dt_ c4
     clear c4
     by_cases c5 : x9_1 < (l0.length : Int)
     ·rw [if_pos c5] at H
      have c5b0 := dt_ c5
      clear c5
      replace H := bs_ H
      obtain ⟨t399, A60, H⟩ := H
      (try dsimp only at H)
      have A6 := M_ A60
      clear A60
      by_cases c7 : t399 = true
      ·subst c7
       rw [if_pos rfl] at H
       obtain rfl := Option.some.inj H
       have p398 : 0 ≤ (x9_1 : Int) := od_ as_
       have q398 : x9_1 < (l0.length : Int) := od_ as_
       obtain ⟨ad398, e398, hx398_0⟩ := Kd.at_int HR0.out x9_1 p398 q398
       cases e398
       replace p398 := eq_true p398
       replace q398 := eq_true q398
       go_wp2_with (first | ((with_reducible refine gate_callee (f := 104) rfl ?_); refine gl_ (some 16) Try.func104 #[.int .i64 a1, .int .i64 (rd l0 x9_1)] ?_; (with_reducible refine (spec_l1Part.calls a1 (rd l0 x9_1) true _ A6.out).mono ?_); rintro e w' ⟨rfl, ⟨nd, rfl⟩⟩; refine ⟨_, rfl, ?_⟩))
       go_ret
       exact ⟨ra_, dr_⟩
      ·replace c7 := Bool.eq_false_iff.mpr c7
       subst c7
       rw [if_neg (show ¬ (false = true) by decide)] at H
       have H' := M_ H
       clear H
       have p398 : 0 ≤ (x9_1 : Int) := od_ as_
       have q398 : x9_1 < (l0.length : Int) := od_ as_
       obtain ⟨ad398, e398, hx398_0⟩ := Kd.at_int HR0.out x9_1 p398 q398
       cases e398
       replace p398 := eq_true p398
       replace q398 := eq_true q398
       go_wp2_with (first | ((with_reducible refine gate_callee (f := 104) rfl ?_); refine gl_ (some 16) Try.func104 #[.int .i64 a1, .int .i64 (rd l0 x9_1)] ?_; (with_reducible refine (spec_l1Part.calls a1 (rd l0 x9_1) false _ A6.out).mono ?_); rintro e w' ⟨rfl, ⟨nd, rfl⟩⟩; refine ⟨_, rfl, ?_⟩))
       go_roundg k1
       case measure => have := HK1.out; omega
       case rel => exact ⟨(wrap64 (x9_1 + 1)), (by first | rfl | (simp; done) | (simp [*]; done)), H', ⟨by have := HK1.out; omega⟩, dr_⟩
     ·rw [if_neg c5] at H
      exact absurd H (by simp)
    ·rw [if_neg c4] at H
     exact absurd H (by simp)
   ·rw [if_neg c3] at H
    have c3b0 := decide_eq_false c3
    clear c3
    obtain rfl := Option.some.inj H
    go_wp2
    go_ret
    exact ⟨ra_, dr_⟩

def spec_SortsAll.l0 : Nat → List Int → List Int → Int → Int → Option (Bool)
  | 0, _, _, _, _ => none
  | k + 1, x0, x5, x6, x7 => if x7 < x6 then (if 0 ≤ x7 then (if x7 < (x5.length : Int) then ((spec_l1Fall.f k x0 (rd x5 x7)).bind fun t401 => (if t401 = x7 then (spec_SortsAll.l0 k x0 x5 x6 (wrap64 (x7 + 1))) else (some false))) else (none)) else (none)) else ((spec_IsBar.f k x0).bind fun t402 => (some t402))
def spec_SortsAll.f (k : Nat) (l0 : List Int) : Option (Bool) := spec_SortsAll.l0 k l0 l0 (l0.length : Int) 0
theorem spec_SortsAll.mono_l : ∀ k, (∀ y0 y1 y2 y3, LeO (spec_SortsAll.l0 k y0 y1 y2 y3) (spec_SortsAll.l0 (k + 1) y0 y1 y2 y3))
  | 0 => fun _ _ _ _ r h => by simp [spec_SortsAll.l0] at h
  | k + 1 => by
    have ih0 := spec_SortsAll.mono_l k
    · intro y0 y1 y2 y3
      unfold spec_SortsAll.l0
      repeat' first | (with_reducible first | exact ih0 _ _ _ _ | exact spec_IsBar.mono _ _ | exact spec_l1Fall.mono _ _ _ | exact LeO.refl _ | exact LeO.none _ | refine LeO.ite ?_ ?_ | refine LeO.bind ?_ (fun _ => ?_)) | exact ih0 _ _ _ _ | exact spec_IsBar.mono _ _ | exact spec_l1Fall.mono _ _ _ | exact LeO.none _ | refine LeO.ite ?_ ?_ | refine LeO.bind ?_ (fun _ => ?_)
theorem spec_SortsAll.mono : ∀ a0 k, LeO (spec_SortsAll.f k a0) (spec_SortsAll.f (k + 1) a0) := by
 intro a0 k
 have ih0 := spec_SortsAll.mono_l k
 unfold spec_SortsAll.f
 repeat' first | (with_reducible first | exact ih0 _ _ _ _ | exact spec_IsBar.mono _ _ | exact spec_l1Fall.mono _ _ _ | exact LeO.refl _ | exact LeO.none _ | refine LeO.ite ?_ ?_ | refine LeO.bind ?_ (fun _ => ?_)) | exact ih0 _ _ _ _ | exact spec_IsBar.mono _ _ | exact spec_l1Fall.mono _ _ _ | exact LeO.none _ | refine LeO.ite ?_ ?_ | refine LeO.bind ?_ (fun _ => ?_)
set_option maxHeartbeats 8000000 in
set_option maxRecDepth 100000 in
theorem spec_SortsAll.calls (k : Nat) (A0 : Option Addr) (c0 : Nat) (l0 : List Int) (r : Bool) (w : World) (hr0 : Kd.C (Kd.int .i64) w A0 l0.length l0) (hc0 : l0.length ≤ c0) (h : spec_SortsAll.f k l0 = some r) :
    Calls Try.prog 82 #[.slice A0 l0.length c0] w fun e w' => e = .returned (.bool r) ∧ Drawn0 w w' := by
 have HR0 := M_ hr0
 have HC0 := M_ hc0
 clear hr0 hc0
 have H : (spec_SortsAll.l0 k l0 l0 (l0.length : Int) 0) = some r := h
 clear h
 have H' := M_ H
 clear H
 go_enter Try.func82, Try.ntmps82
 go_wp2
 go_loopg [7] k (fun kq v7 w' => ∃ (x7_1 : Int), v7 = .int .i64 x7_1 ∧ Aside0 (spec_SortsAll.l0 kq l0 l0 (l0.length : Int) x7_1 = some r) ∧ Aside0 (kq ≤ k) ∧ Drawn0 w w')
 case atStart => exact ⟨(0), (by first | rfl | (simp; done) | (simp [*]; done)), H', ⟨Nat.le_refl _⟩, dr_⟩
 case round =>
  clear H'
  obtain ⟨x7_1, rfl, HA, HK1, ⟨m1, rfl⟩⟩ := hrel
  cases gk with
  | zero => exact absurd HA.out (by simp [spec_SortsAll.l0])
  | succ k1 =>
   have H := HA.out
   clear HA
   simp only [spec_SortsAll.l0] at H
   by_cases c2 : x7_1 < (l0.length : Int)
   ·rw [if_pos c2] at H
    have c2b0 := dt_ c2
    clear c2
    by_cases c3 : 0 ≤ x7_1
    ·rw [if_pos c3] at H
     have c3b0 := dt_ c3
     clear c3
     by_cases c4 : x7_1 < (l0.length : Int)
     ·rw [if_pos c4] at H
      have c4b0 := dt_ c4
      clear c4
      replace H := bs_ H
      obtain ⟨t401, A50, H⟩ := H
      (try dsimp only at H)
      have A5 := M_ A50
      clear A50
      by_cases c6 : t401 = x7_1
      ·rw [if_pos c6] at H
       have c6b0 := beq_iff_eq.mpr c6
       have c6b1 := bne_eq_false_iff_eq.mpr c6
       clear c6
       have H' := M_ H
       clear H
       have p400 : 0 ≤ (x7_1 : Int) := od_ as_
       have q400 : x7_1 < (l0.length : Int) := od_ as_
       obtain ⟨ad400, e400, hx400_0⟩ := Kd.at_int HR0.out x7_1 p400 q400
       cases e400
       replace p400 := eq_true p400
       replace q400 := eq_true q400
       go_wp2_with (first | ((with_reducible refine gate_callee (f := 97) rfl ?_); refine gl_ (some 14) Try.func97 #[.slice (some ad400) l0.length c0, .int .i64 (rd l0 x7_1)] ?_; (with_reducible refine (spec_l1Fall.calls k1 _ _ l0 (rd l0 x7_1) t401 _ ?side1 ?side2 A5.out).mono ?_); (case side1 => exact kD_ HR0.out); (case side2 => exact HC0.out); rintro e w' ⟨rfl, ⟨nd, rfl⟩⟩; refine ⟨_, rfl, ?_⟩))
       go_roundg k1
       case measure => have := HK1.out; omega
       case rel => exact ⟨(wrap64 (x7_1 + 1)), (by first | rfl | (simp; done) | (simp [*]; done)), H', ⟨by have := HK1.out; omega⟩, dr_⟩
      ·rw [if_neg c6] at H
       have c6b0 : (t401 == x7_1) = false := beq_eq_false_iff_ne.mpr c6
       have c6b1 : (t401 != x7_1) = true := bne_iff_ne.mpr c6
       obtain rfl := Option.some.inj H
       have p400 : 0 ≤ (x7_1 : Int) := od_ as_
       have q400 : x7_1 < (l0.length : Int) := od_ as_
       obtain ⟨ad400, e400, hx400_0⟩ := Kd.at_int HR0.out x7_1 p400 q400
       cases e400
       replace p400 := eq_true p400
       replace q400 := eq_true q400
       go_wp2_with (first | ((with_reducible refine gate_callee (f := 97) rfl ?_); refine gl_ (some 14) Try.func97 #[.slice (some ad400) l0.length c0, .int .i64 (rd l0 x7_1)] ?_; (with_reducible refine (spec_l1Fall.calls k1 _ _ l0 (rd l0 x7_1) t401 _ ?side1 ?side2 A5.out).mono ?_); (case side1 => exact kD_ HR0.out); (case side2 => exact HC0.out); rintro e w' ⟨rfl, ⟨nd, rfl⟩⟩; refine ⟨_, rfl, ?_⟩))
       go_ret
       exact ⟨ra_, dr_⟩
     ·rw [if_neg c4] at H
      exact absurd H (by simp)
    ·rw [if_neg c3] at H
     exact absurd H (by simp)
   ·rw [if_neg c2] at H
    have c2b0 := decide_eq_false c2
    clear c2
    replace H := bs_ H
    obtain ⟨t402, A70, H⟩ := H
    (try dsimp only at H)
    have A7 := M_ A70
    clear A70
    obtain rfl := Option.some.inj H
    go_wp2_with (first | ((with_reducible refine gate_callee (f := 108) rfl ?_); refine gl_ (some 19) Try.func108 #[.slice A0 l0.length c0] ?_; (with_reducible refine (spec_IsBar.calls k1 _ _ l0 t402 _ ?side1 ?side2 A7.out).mono ?_); (case side1 => exact kD_ HR0.out); (case side2 => exact HC0.out); rintro e w' ⟨rfl, ⟨nd, rfl⟩⟩; refine ⟨_, rfl, ?_⟩))
    go_ret
    exact ⟨ra_, dr_⟩

end Go.Proofs.Ytilbngklgjjblaa.Q
