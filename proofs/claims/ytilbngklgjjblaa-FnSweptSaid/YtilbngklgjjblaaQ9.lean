/- Contracts of Go functions over this translation. Conditions: those that each theorem names. -/
import Derived.Test.YtilbngklgjjblaaQ0
import Derived.Test.YtilbngklgjjblaaQ7
namespace Go.Proofs.Ytilbngklgjjblaa.Q
open Go.RowKit Go.Proofs.YtilbngklgjjblaaW.PrintWords Go.Proofs.YtilbngklgjjblaaW.PrintLast Go.Proofs.YtilbngklgjjblaaW.PrintMore
attribute [local go_sem] max2_int min2_int max_two min_two max_three min_three max_four min_four
set_option linter.unusedVariables false
set_option linter.unusedSimpArgs false

mutual
def impl_SweepMagazine.l0 : Nat → List (List (S30)) → List (S30) → List (List (S30)) → Int → Int → Option ((List (List (S30))) × Int × Bool)
  | 0, _, _, _, _, _ => none
  | k + 1, x7, x8, x23, x24, x25 => if x25 < x24 then (if 0 ≤ x25 then (if x25 < (x23.length : Int) then (impl_SweepMagazine.l1 k x7 x8 x25 x23 x24 x25 (rd_L2 x23 x25) ((rd_L2 x23 x25).length : Int) 0) else (none)) else (none)) else (impl_SweepMagazine.l2 k x7 x8 x8 (x8.length : Int) 0)
def impl_SweepMagazine.l1 : Nat → List (List (S30)) → List (S30) → Int → List (List (S30)) → Int → Int → List (S30) → Int → Int → Option ((List (List (S30))) × Int × Bool)
  | 0, _, _, _, _, _, _, _, _, _ => none
  | k + 1, x7, x8, x9, x23, x24, x25, x30, x31, x32 => if x32 < x31 then (if 0 ≤ x32 then (if x32 < (x30.length : Int) then (if ((rd_T30 x30 x32).f0) = x9 then (if 0 ≤ x9 then (if x9 < (x7.length : Int) then (if (rd_L2 x7 x9).length < 8796093022208 then (impl_SweepMagazine.l1 k (x7.set (x9 : Int).toNat ((rd_L2 x7 x9) ++ [(⟨(rd_T30 x30 x32).f0, (rd_T30 x30 x32).f1⟩ : S30)])) x8 x9 x23 x24 x25 x30 x31 (wrap64 (x32 + 1))) else (none)) else (none)) else (none)) else (if x8.length < 8796093022208 then (impl_SweepMagazine.l1 k x7 (x8 ++ [(⟨(rd_T30 x30 x32).f0, (rd_T30 x30 x32).f1⟩ : S30)]) x9 x23 x24 x25 x30 x31 (wrap64 (x32 + 1))) else (none))) else (none)) else (none)) else (impl_SweepMagazine.l0 k x7 x8 x23 x24 (wrap64 (x25 + 1)))
def impl_SweepMagazine.l2 : Nat → List (List (S30)) → List (S30) → List (S30) → Int → Int → Option ((List (List (S30))) × Int × Bool)
  | 0, _, _, _, _, _ => none
  | k + 1, x7, x8, x56, x57, x58 => if x58 < x57 then (if 0 ≤ x58 then (if x58 < (x56.length : Int) then (if 0 ≤ ((rd_T30 x56 x58).f0) then (if ((rd_T30 x56 x58).f0) < (x7.length : Int) then (if (rd_L2 x7 ((rd_T30 x56 x58).f0)).length < 8796093022208 then ((some (x7.set (((rd_T30 x56 x58).f0) : Int).toNat ((rd_L2 x7 ((rd_T30 x56 x58).f0)) ++ [(⟨(rd_T30 x56 x58).f0, (rd_T30 x56 x58).f1⟩ : S30)]) : List (List (S30)))).bind fun y178 => (if ((rd_L2 y178 ((rd_T30 x56 x58).f0)).length : Int) > 20 then (some (([] : List (List (S30))), 0, false)) else (impl_SweepMagazine.l2 k y178 x8 x56 x57 (wrap64 (x58 + 1))))) else (none)) else (none)) else (none)) else (none)) else (none)) else (some (x7, (x8.length : Int), true))
end
def impl_SweepMagazine.f (k : Nat) (a0_0 : ByteArray) (l0_1 : List Int) (l0_2 : List Int) (l1 : List (List (S30))) : Option ((List (List (S30))) × Int × Bool) := (impl_MagazineOk.f k a0_0 l0_1 l0_2 l1).bind fun t154 => (if t154 = true then (if 0 ≤ (l1.length : Int) then (if ((l1.length : Int) : Int).toNat ≤ 11728124029610 then (impl_SweepMagazine.l0 k (List.replicate ((l1.length : Int) : Int).toNat []) (([] : List (S30))) l1 (l1.length : Int) 0) else (none)) else (none)) else (some (([] : List (List (S30))), 0, false)))
theorem impl_SweepMagazine.mono_l : ∀ k, (∀ y0 y1 y2 y3 y4, LeO (impl_SweepMagazine.l0 k y0 y1 y2 y3 y4) (impl_SweepMagazine.l0 (k + 1) y0 y1 y2 y3 y4)) ∧ (∀ y0 y1 y2 y3 y4 y5 y6 y7 y8, LeO (impl_SweepMagazine.l1 k y0 y1 y2 y3 y4 y5 y6 y7 y8) (impl_SweepMagazine.l1 (k + 1) y0 y1 y2 y3 y4 y5 y6 y7 y8)) ∧ (∀ y0 y1 y2 y3 y4, LeO (impl_SweepMagazine.l2 k y0 y1 y2 y3 y4) (impl_SweepMagazine.l2 (k + 1) y0 y1 y2 y3 y4))
  | 0 => ⟨fun _ _ _ _ _ r h => by simp [impl_SweepMagazine.l0] at h, fun _ _ _ _ _ _ _ _ _ r h => by simp [impl_SweepMagazine.l1] at h, fun _ _ _ _ _ r h => by simp [impl_SweepMagazine.l2] at h⟩
  | k + 1 => by
    obtain ⟨ih0, ih1, ih2⟩ := impl_SweepMagazine.mono_l k
    refine ⟨?_, ?_, ?_⟩ <;> intros <;> (first | unfold impl_SweepMagazine.l0 | unfold impl_SweepMagazine.l1 | unfold impl_SweepMagazine.l2) <;> repeat' first | (with_reducible first | exact ih0 _ _ _ _ _ | exact ih1 _ _ _ _ _ _ _ _ _ | exact ih2 _ _ _ _ _ | exact impl_MagazineOk.mono _ _ _ _ _ | exact LeO.refl _ | exact LeO.none _ | refine LeO.ite ?_ ?_ | refine LeO.bind ?_ (fun _ => ?_)) | exact ih0 _ _ _ _ _ | exact ih1 _ _ _ _ _ _ _ _ _ | exact ih2 _ _ _ _ _ | exact impl_MagazineOk.mono _ _ _ _ _ | exact LeO.none _ | refine LeO.ite ?_ ?_ | refine LeO.bind ?_ (fun _ => ?_)
theorem impl_SweepMagazine.mono : ∀ a0 a1 a2 a3 k, LeO (impl_SweepMagazine.f k a0 a1 a2 a3) (impl_SweepMagazine.f (k + 1) a0 a1 a2 a3) := by
 intro a0 a1 a2 a3 k
 obtain ⟨ih0, ih1, ih2⟩ := impl_SweepMagazine.mono_l k
 unfold impl_SweepMagazine.f
 repeat' first | (with_reducible first | exact ih0 _ _ _ _ _ | exact ih1 _ _ _ _ _ _ _ _ _ | exact ih2 _ _ _ _ _ | exact impl_MagazineOk.mono _ _ _ _ _ | exact LeO.refl _ | exact LeO.none _ | refine LeO.ite ?_ ?_ | refine LeO.bind ?_ (fun _ => ?_)) | exact ih0 _ _ _ _ _ | exact ih1 _ _ _ _ _ _ _ _ _ | exact ih2 _ _ _ _ _ | exact impl_MagazineOk.mono _ _ _ _ _ | exact LeO.none _ | refine LeO.ite ?_ ?_ | refine LeO.bind ?_ (fun _ => ?_)
def impl_SweepMagazine.T11 : Bool × List (List Nat × List Nat) := (true, [([], []), ([], []), ([], []), ([], []), ([2, 3], [2, 3]), ([4], [4]), ([], []), ([6], [6]), ([5, 7], [5, 7]), ([0, 1, 0, 1, 2, 3, 4, 5, 6, 7, 8], [0, 1]), ([9, 8, 8, 0, 1, 2, 3, 4, 5, 6, 7, 8], [8, 9])])
def impl_SweepMagazine.B11 : List Nat := [0, 0, 0, 0, 12, 28, 0, 64, 252, 511, 1023]
theorem impl_SweepMagazine.tab11 : rtab .any (opsOf Try.f66 11) = impl_SweepMagazine.T11 := by kernel_rfl
theorem impl_SweepMagazine.bits11 : waitsOk impl_SweepMagazine.T11.2 impl_SweepMagazine.B11 = true := by kernel_rfl
def impl_SweepMagazine.T18 : Bool × List (List Nat × List Nat) := (true, [([], []), ([], []), ([1], [1]), ([], []), ([], []), ([4], [4]), ([3, 5], [3, 5]), ([6], [6]), ([], []), ([8], [8]), ([7, 9], [7, 9]), ([0, 2, 0, 1, 2, 3, 4, 5, 6, 7, 8, 9, 10], [0, 2]), ([11, 10, 10, 0, 1, 2, 3, 4, 5, 6, 7, 8, 9, 10], [10, 11])])
def impl_SweepMagazine.B18 : List Nat := [0, 0, 2, 0, 0, 16, 56, 120, 0, 256, 1016, 2047, 4095]
theorem impl_SweepMagazine.tab18 : rtab .any (opsOf Try.f66 18) = impl_SweepMagazine.T18 := by kernel_rfl
theorem impl_SweepMagazine.bits18 : waitsOk impl_SweepMagazine.T18.2 impl_SweepMagazine.B18 = true := by kernel_rfl
set_option maxHeartbeats 8000000 in
set_option maxRecDepth 100000 in
theorem impl_SweepMagazine.calls (k : Nat) (a0_0 : ByteArray) (A0_1 : Option Addr) (c0_1 : Nat) (l0_1 : List Int) (A0_2 : Option Addr) (c0_2 : Nat) (l0_2 : List Int) (A1 : Option Addr) (c1 : Nat) (l1 : List (List (S30))) (r1 : List (List (S30))) (r2 : Int) (r3 : Bool) (w : World) (hr0_1 : Kd.C (Kd.int .i64) w A0_1 l0_1.length l0_1) (hc0_1 : l0_1.length ≤ c0_1) (hr0_2 : Kd.C (Kd.int .i64) w A0_2 l0_2.length l0_2) (hc0_2 : l0_2.length ≤ c0_2) (hr1 : Kd.C (Kd.slice 30 k30) w A1 l1.length l1) (hc1 : l1.length ≤ c1) (h : impl_SweepMagazine.f k a0_0 l0_1 l0_2 l1 = some (r1, r2, r3)) :
    Calls Try.prog 66 #[.agg #[.string a0_0, .slice A0_1 l0_1.length c0_1, .slice A0_2 l0_2.length c0_2], .slice A1 l1.length c1] w fun e w' => ∃ v0_ : Value, e = .returned (.tuple #[v0_, .int .i64 r2, .bool r3]) ∧ Kd.S (Kd.slice 30 k30) 34 w' w.heap.size (fun _ => True) v0_ r1 ∧ Below w.heap.size w w' := by
 have hu25 := Try.underlying25
 have hu30 := Try.underlying30
 have HR0_1 := M_ hr0_1
 have HC0_1 := M_ hc0_1
 clear hr0_1 hc0_1
 have HR0_2 := M_ hr0_2
 have HC0_2 := M_ hc0_2
 clear hr0_2 hc0_2
 have HR1 := M_ hr1
 have HC1 := M_ hc1
 clear hr1 hc1
 have HB := M_ (Below.refl w.heap.size w)
 have H : ((impl_MagazineOk.f k a0_0 l0_1 l0_2 l1).bind fun t154 => (if t154 = true then (if 0 ≤ (l1.length : Int) then (if ((l1.length : Int) : Int).toNat ≤ 11728124029610 then (impl_SweepMagazine.l0 k (List.replicate ((l1.length : Int) : Int).toNat []) (([] : List (S30))) l1 (l1.length : Int) 0) else (none)) else (none)) else (some (([] : List (List (S30))), 0, false)))) = some (r1, r2, r3) := h
 clear h
 replace H := bs_ H
 obtain ⟨t154, A30, H⟩ := H
 (try dsimp only at H)
 have A3 := M_ A30
 clear A30
 by_cases c4 : t154 = true
 ·subst c4
  rw [if_pos rfl] at H
  by_cases c5 : 0 ≤ (l1.length : Int)
  ·rw [if_pos c5] at H
   have c5b0 := eq_true c5
   have c5b1 := dt_ c5
   clear c5
   by_cases c6 : ((l1.length : Int) : Int).toNat ≤ 11728124029610
   ·rw [if_pos c6] at H
    have c6b0 := eq_true c6
    have c6b1 := dt_ c6
    clear c6
    obtain ⟨y155, hy155⟩ : ∃ y_ : List (List (S30)), y_ = (List.replicate ((l1.length : Int) : Int).toNat []) := ⟨_, rfl⟩
    replace H : (impl_SweepMagazine.l0 k y155 (([] : List (S30))) l1 (l1.length : Int) 0) = some (r1, r2, r3) := by first | (rw [hy155]; with_reducible exact H) | (have H2_ := (Option.bind_some _ _).symm.trans H; rw [hy155]; with_reducible exact H2_) | (have H2_ := (Option.bind_some _ _).symm.trans H; with_reducible exact H2_) | with_reducible exact H | (rw [hy155]; exact H) | exact H
    have Ny155 := M_ hy155
    clear hy155
    obtain ⟨y158, hy158⟩ : ∃ y_ : List (S30), y_ = (([] : List (S30))) := ⟨_, rfl⟩
    replace H : (impl_SweepMagazine.l0 k y155 y158 l1 (l1.length : Int) 0) = some (r1, r2, r3) := by first | (rw [hy158]; with_reducible exact H) | (have H2_ := (Option.bind_some _ _).symm.trans H; rw [hy158]; with_reducible exact H2_) | (have H2_ := (Option.bind_some _ _).symm.trans H; with_reducible exact H2_) | with_reducible exact H | (rw [hy158]; exact H) | exact H
    have Ny158 := M_ hy158
    clear hy158
    have H' := M_ H
    clear H
    go_enter Try.func66, Try.ntmps66
    go_wp2_with (first | ((with_reducible refine gate_dst (N := 2) rfl ?_); refine be_ 2 #[.string a0_0, .slice A0_1 l0_1.length c0_1, .slice A0_2 l0_2.length c0_2] 25 ?_; intro gb153 hg w7 hbox hb; have z_ := t3_ (bS_ (bw0_ HB.out) hb) hbox (gv_ hg (bw0_ HB.out) : w.heap.size ≤ gb153); clear HB; obtain ⟨HB, BK153, GE153⟩ := z_; clear hb hbox hg; have hcz8_0 := cz_ BK153.out 0 (.string a0_0); have hcz8_1 := cz_ BK153.out 1 (.slice A0_1 l0_1.length c0_1); have hcz8_2 := cz_ BK153.out 2 (.slice A0_2 l0_2.length c0_2); have hfz8_0 := fz_ BK153.out 0; have hfz8_1 := fz_ BK153.out 1; have hfz8_2 := fz_ BK153.out 2) | ((with_reducible refine gate_callee (f := 44) rfl ?_); refine gl_ (some 17) Try.func44 #[.agg #[.string a0_0, .slice A0_1 l0_1.length c0_1, .slice A0_2 l0_2.length c0_2], .slice A1 l1.length c1] ?_; (with_reducible refine (impl_MagazineOk.calls k a0_0 _ _ l0_1 _ _ l0_2 _ _ l1 true _ ?side1 ?side2 ?side3 ?side4 ?side5 ?side6 A3.out).mono ?_); (case side1 => exact kC_ HR0_1.out HB.out); (case side2 => exact HC0_1.out); (case side3 => exact kC_ HR0_2.out HB.out); (case side4 => exact HC0_2.out); (case side5 => exact kC_ HR1.out HB.out); (case side6 => exact HC1.out); rintro e w9 ⟨rfl, hb⟩; refine ⟨_, rfl, ?_⟩; have z_ := t2_ (bB_ (bk_ BK153.out) hb) (bS_ (bw1_ HB.out GE153.out) hb); (try clear BK153); clear HB; obtain ⟨BK153, HB⟩ := z_; (try clear hb)) | ((with_reducible refine gate_dst (N := 21) rfl ?_); refine Kd.S_make (Kd.slice 30 k30) _ 34 rfl (N := 21) rfl 26 _ _ rfl (l1.length : Int) rfl rfl Try.underlying26 (.slice none 0 0) 24 info34 rfl (by decide) (by omega) [] (ok := fun _ => True) (okp := fun _ => True) ⟨_, rfl, Kd.R_nil _ _ _ _ _⟩ (fun _ hk => hk) trivial (od_ as_) (Nat.le_trans (Nat.mul_le_mul_right _ (od_ as_ : (l1.length : Int).toNat ≤ 11728124029610)) (by omega)) (Below.refl _ _) (Nat.le_refl _) ?_; intro v156 w10 ho11 hb hg_ hnew_; clear hg_ hnew_; (first | rw [← Ny155.out] at ho11 | (simp only [Int.reduceToNat] at ho11; rw [← Ny155.out] at ho11)); have z_ := t3_ (Kd.S_lower ho11 (below_size (bw1_ HB.out GE153.out))) (bB_ (bk_ BK153.out) hb) (bS_ (bw1_ HB.out GE153.out) hb); (try clear BK153); clear HB; obtain ⟨HO157, BK153, HB⟩ := z_; clear hb ho11) | ((with_reducible refine gate_dst (N := 22) rfl ?_); refine Kd.R_lit k30 _ 30 ?hg (N := 22) ?hd (xs := ([] : List (S30))) (inner := []) (ok := fun _ => True) (okp := fun _ => True) ?hr ?hp (fun _ hk => hk) trivial (Below.refl _ _) (Nat.le_refl _) (by simp) ?_; (case hd => rfl); (case hg => rfl); (case hr => first | (go_simp; done) | (go_simp; rfl)); (case hp => exact (Reps.none _ _)); intro v159 w12 ho13 hb hg_ hnew_; clear hg_ hnew_; (first | rw [← Ny158.out] at ho13 | (simp only [Int.reduceToNat] at ho13; rw [← Ny158.out] at ho13)); have z_ := t4_ (Kd.S_elder' (kS_ HO157.out) (Kd.R_base ho13) hb) (Kd.R_lower ho13 (below_size (bw1_ HB.out GE153.out))) (bB_ (bk_ BK153.out) hb) (bS_ (bw1_ HB.out GE153.out) hb); clear HO157; (try clear BK153); clear HB; obtain ⟨HO157, HO160, BK153, HB⟩ := z_; clear hb ho13))
    go_loopg [8, 25] k (fun kq v8 v25 w' => ∃ (x7_1 : List (List (S30))) (x8_1 : List (S30)) (x25_1 : Int), v25 = .int .i64 x25_1 ∧ Aside0 (impl_SweepMagazine.l0 kq x7_1 x8_1 l1 (l1.length : Int) x25_1 = some (r1, r2, r3)) ∧ Aside0 (kq ≤ k) ∧ Aside0 (Kd.S (Kd.slice 30 k30) 34 w' w.heap.size (fun k_ => some k_ ≠ (v8 : Value).ownBlock) v156 x7_1) ∧ Aside0 (Kd.R k30 30 w' w.heap.size (fun _ => True) v8 x8_1) ∧ Aside0 (w'.heap[gb153]? = some (.cells #[.string a0_0, (.slice A0_1 l0_1.length c0_1), (.slice A0_2 l0_2.length c0_2)] 25 (0, 0))) ∧ Aside0 (Below w.heap.size w w'))
    case atStart => exact ⟨(y155), (y158), (0), (by first | rfl | (simp; done) | (simp [*]; done)), H', ⟨Nat.le_refl _⟩, ⟨by refine kS_ ?_; exact Kd.S_mono HO157.out (fun _ hk => hk.2)⟩, ⟨by refine kR_ ?_; exact HO160.out⟩, ⟨by refine bk_ ?_; exact BK153.out⟩, ⟨bw1_ HB.out GE153.out⟩⟩
    case round =>
     clear H'
     (try clear hfz8_2 hfz8_1 hfz8_0 hcz8_2 hcz8_1 hcz8_0 c6b1 c6b0 c6 c5b1 c5b0 c5 c4 p2 c1)
     obtain ⟨x7_1, x8_1, x25_1, rfl, HA, HK1, HO_7, HO_8, BK153, HB⟩ := hrel
     cases gk with
     | zero => exact absurd HA.out (by simp [impl_SweepMagazine.l0])
     | succ k1 =>
      have H := HA.out
      clear HA
      simp only [impl_SweepMagazine.l0] at H
      by_cases c14 : x25_1 < (l1.length : Int)
      ·rw [if_pos c14] at H
       have c14b0 := dt_ c14
       clear c14
       by_cases c15 : 0 ≤ x25_1
       ·rw [if_pos c15] at H
        have c15b0 := dt_ c15
        clear c15
        by_cases c16 : x25_1 < (l1.length : Int)
        ·rw [if_pos c16] at H
         have c16b0 := dt_ c16
         clear c16
         have H' := M_ H
         clear H
         have p161 : 0 ≤ (x25_1 : Int) := od_ as_
         have q161 : x25_1 < (l1.length : Int) := od_ as_
         obtain ⟨ad161, A161_0, c161_0, e161, hx161_0, hl161_0, hi161_0⟩ := at_L2 HR1.out x25_1 p161 q161
         cases e161
         replace hx161_0 := (HB.out.cell (World.block_lt_of_cell? w _ hx161_0)).trans hx161_0
         have HR161_0 := M_ hi161_0
         have HC161_0 := M_ hl161_0
         clear hi161_0 hl161_0
         replace p161 := eq_true p161
         replace q161 := eq_true q161
         go_wp2
         go_loopg [8, 32] k1 (fun kq v8 v32 w' => ∃ (x7_2 : List (List (S30))) (x8_2 : List (S30)) (x32_2 : Int), v32 = .int .i64 x32_2 ∧ Aside0 (impl_SweepMagazine.l1 kq x7_2 x8_2 x25_1 l1 (l1.length : Int) x25_1 (rd_L2 l1 x25_1) ((rd_L2 l1 x25_1).length : Int) x32_2 = some (r1, r2, r3)) ∧ Aside0 (kq ≤ k1) ∧ Aside0 (Kd.S (Kd.slice 30 k30) 34 w' w.heap.size (fun k_ => some k_ ≠ (v8 : Value).ownBlock) v156 x7_2) ∧ Aside0 (Kd.R k30 30 w' w.heap.size (fun _ => True) v8 x8_2) ∧ Aside0 (w'.heap[gb153]? = some (.cells #[.string a0_0, (.slice A0_1 l0_1.length c0_1), (.slice A0_2 l0_2.length c0_2)] 25 (0, 0))) ∧ Aside0 (Below w.heap.size w w'))
         case atStart => exact ⟨(x7_1), (x8_1), (0), (by first | rfl | (simp; done) | (simp [*]; done)), H', ⟨Nat.le_refl _⟩, ⟨by refine kS_ ?_; exact HO_7.out⟩, ⟨by refine kR_ ?_; exact HO_8.out⟩, ⟨by refine bk_ ?_; exact BK153.out⟩, ⟨bw1_ HB.out GE153.out⟩⟩
         case round =>
          clear H'
          (try clear q161 p2 p161 hx161_0 hfz8_2 hfz8_1 hfz8_0 hcz8_2 hcz8_1 hcz8_0 hx16 q16 p16 c16b0 c16 c15b0 c15 c14b0 c14 c6b1 c6b0 c6 c5b1 c5b0 c5 c4 p2 hx1 q1 p1 c1)
          obtain ⟨x7_2, x8_2, x32_2, rfl, HA, HK2, HO_7, HO_8, BK153, HB⟩ := hrel
          cases gk with
          | zero => exact absurd HA.out (by simp [impl_SweepMagazine.l1])
          | succ k2 =>
           have H := HA.out
           clear HA
           simp only [impl_SweepMagazine.l1] at H
           by_cases c17 : x32_2 < ((rd_L2 l1 x25_1).length : Int)
           ·rw [if_pos c17] at H
            have c17b0 := dt_ c17
            clear c17
            by_cases c18 : 0 ≤ x32_2
            ·rw [if_pos c18] at H
             have c18b0 := dt_ c18
             clear c18
             by_cases c19 : x32_2 < ((rd_L2 l1 x25_1).length : Int)
             ·rw [if_pos c19] at H
              have c19b0 := dt_ c19
              clear c19
              by_cases c20 : ((rd_T30 (rd_L2 l1 x25_1) x32_2).f0) = x25_1
              ·rw [if_pos c20] at H
               have c20b0 := beq_iff_eq.mpr c20
               have c20b1 := bne_eq_false_iff_eq.mpr c20
               clear c20
               by_cases c21 : 0 ≤ x25_1
               ·rw [if_pos c21] at H
                have c21b0 := dt_ c21
                clear c21
                by_cases c22 : x25_1 < (x7_2.length : Int)
                ·rw [if_pos c22] at H
                 have c22b0 := dt_ c22
                 clear c22
                 by_cases c23 : (rd_L2 x7_2 x25_1).length < 8796093022208
                 ·rw [if_pos c23] at H
                  have LMc23 := M_ c23
                  clear c23
                  obtain ⟨y165, hy165⟩ : ∃ y_ : List (S30), y_ = ((rd_L2 x7_2 x25_1) ++ [(⟨(rd_T30 (rd_L2 l1 x25_1) x32_2).f0, (rd_T30 (rd_L2 l1 x25_1) x32_2).f1⟩ : S30)]) := ⟨_, rfl⟩
                  replace H : (impl_SweepMagazine.l1 k2 (x7_2.set (x25_1 : Int).toNat y165) x8_2 x25_1 l1 (l1.length : Int) x25_1 (rd_L2 l1 x25_1) ((rd_L2 l1 x25_1).length : Int) (wrap64 (x32_2 + 1))) = some (r1, r2, r3) := by first | (rw [hy165]; with_reducible exact H) | (have H2_ := (Option.bind_some _ _).symm.trans H; rw [hy165]; with_reducible exact H2_) | (have H2_ := (Option.bind_some _ _).symm.trans H; with_reducible exact H2_) | with_reducible exact H | (rw [hy165]; exact H) | exact H
                  have Ny165 := M_ hy165
                  clear hy165
                  obtain ⟨y168, hy168⟩ : ∃ y_ : List (List (S30)), y_ = (x7_2.set (x25_1 : Int).toNat y165) := ⟨_, rfl⟩
                  replace H : (impl_SweepMagazine.l1 k2 y168 x8_2 x25_1 l1 (l1.length : Int) x25_1 (rd_L2 l1 x25_1) ((rd_L2 l1 x25_1).length : Int) (wrap64 (x32_2 + 1))) = some (r1, r2, r3) := by first | (rw [hy168]; with_reducible exact H) | (have H2_ := (Option.bind_some _ _).symm.trans H; rw [hy168]; with_reducible exact H2_) | (have H2_ := (Option.bind_some _ _).symm.trans H; with_reducible exact H2_) | with_reducible exact H | (rw [hy168]; exact H) | exact H
                  have Ny168 := M_ hy168
                  clear hy168
                  have H' := M_ H
                  clear H
                  have p162 : 0 ≤ (x32_2 : Int) := od_ as_
                  have q162 : x32_2 < ((rd_L2 l1 x25_1).length : Int) := od_ as_
                  obtain ⟨ad162, e162, hx162_0, hx162_1⟩ := at_T30 HR161_0.out x32_2 p162 q162
                  cases e162
                  replace hx162_0 := (HB.out.cell (World.block_lt_of_cell? w _ hx162_0)).trans hx162_0
                  replace hx162_1 := (HB.out.cell (World.block_lt_of_cell? w _ hx162_1)).trans hx162_1
                  replace p162 := eq_true p162
                  replace q162 := eq_true q162
                  try go_wp2_with (first | ((with_reducible refine gate_dst (N := 12) rfl ?_); refine be_ 12 #[.int .i64 0, .int .i64 0] 30 ?_; intro gb163 hg w25 hbox hb; have z_ := t7_ (sB_ (Kd.S_elderB (kS_ HO_7.out) gb163 (Nat.le_of_eq hg.symm)) hb) (rB_ (Kd.R_elderB (kR_ HO_8.out) gb163 (Nat.le_of_eq hg.symm)) hb) (bB_ (bk_ BK153.out) hb) (bS_ (bw1_ HB.out GE153.out) hb) hbox (gv_ hg (bw1_ HB.out GE153.out) : w.heap.size ≤ gb163) (by rw [hg]; exact Nat.ne_of_lt (blk_lt (bk_ BK153.out)) : gb153 ≠ gb163); clear HO_8 HO_7; (try clear BK153); clear HB; obtain ⟨HO_7, HO_8, BK153, HB, BK163, GE163, NB153_163⟩ := z_; have NB163_153 := M_ NB153_163.out.symm; clear hb hbox hg; have hnb26 := NB163_153.out; have hnc26 := NB153_163.out; have hcz27_0 := cz_ BK163.out 0 (.int .i64 0); have hcz27_1 := cz_ BK163.out 1 (.int .i64 0); have hfz27_0 := fz_ BK163.out 0; have hfz27_1 := fz_ BK163.out 1))
                  have n0_ : Aside0 (Kd.S (Kd.slice 30 k30) 34 ((w25.setCell ⟨gb163, 0, none⟩ (.int .i64 ((rd_T30 (rd_L2 l1 x25_1) x32_2).f0))).setCell ⟨gb163, 1, none⟩ (.int .i64 ((rd_T30 (rd_L2 l1 x25_1) x32_2).f1))) w.heap.size (fun k_ => some k_ ≠ (u8 : Value).ownBlock ∧ k_ ≠ gb163) v156 x7_2) := ⟨by refine kS_ ?_; exact Kd.S_mono (Kd.S_far (p := ⟨gb163, 1, none⟩) (Kd.S_far (p := ⟨gb163, 0, none⟩) (Kd.S_mono HO_7.out (fun k_ hk => (⟨hk, hk.2⟩ : _ ∧ k_ ≠ gb163))) (fun _ hk => hk.2) (.int .i64 ((rd_T30 (rd_L2 l1 x25_1) x32_2).f0))) (fun _ hk => hk.2) (.int .i64 ((rd_T30 (rd_L2 l1 x25_1) x32_2).f1))) (fun _ hk => ⟨hk.1.1, hk.1.2⟩)⟩
                  have n1_ : Aside0 (Kd.R k30 30 ((w25.setCell ⟨gb163, 0, none⟩ (.int .i64 ((rd_T30 (rd_L2 l1 x25_1) x32_2).f0))).setCell ⟨gb163, 1, none⟩ (.int .i64 ((rd_T30 (rd_L2 l1 x25_1) x32_2).f1))) w.heap.size (fun k_ => k_ ≠ gb163) u8 x8_2) := ⟨by refine kR_ ?_; exact Kd.R_mono (Kd.R_far (p := ⟨gb163, 1, none⟩) (Kd.R_far (p := ⟨gb163, 0, none⟩) (Kd.R_mono HO_8.out (fun k_ hk => (⟨hk, hk.2⟩ : _ ∧ k_ ≠ gb163))) (fun _ hk => hk.2) (.int .i64 ((rd_T30 (rd_L2 l1 x25_1) x32_2).f0))) (fun _ hk => hk.2) (.int .i64 ((rd_T30 (rd_L2 l1 x25_1) x32_2).f1))) (fun _ hk => hk.1.2)⟩
                  have n2_ : Aside0 (((w25.setCell ⟨gb163, 0, none⟩ (.int .i64 ((rd_T30 (rd_L2 l1 x25_1) x32_2).f0))).setCell ⟨gb163, 1, none⟩ (.int .i64 ((rd_T30 (rd_L2 l1 x25_1) x32_2).f1))).heap[gb153]? = some (.cells #[.string a0_0, .slice A0_1 l0_1.length c0_1, .slice A0_2 l0_2.length c0_2] 25 (0, 0))) := ⟨by refine bk_ ?_; refine blk_far ?_ NB153_163.out _; refine bk_ ?_; refine blk_far ?_ NB153_163.out _; refine bk_ ?_; exact BK153.out⟩
                  have n3_ : Aside0 (((w25.setCell ⟨gb163, 0, none⟩ (.int .i64 ((rd_T30 (rd_L2 l1 x25_1) x32_2).f0))).setCell ⟨gb163, 1, none⟩ (.int .i64 ((rd_T30 (rd_L2 l1 x25_1) x32_2).f1))).heap[gb163]? = some (.cells #[.int .i64 ((rd_T30 (rd_L2 l1 x25_1) x32_2).f0), .int .i64 ((rd_T30 (rd_L2 l1 x25_1) x32_2).f1)] 30 (0, 0))) := ⟨by refine bk_ ?_; refine blk_put (cs := #[.int .i64 ((rd_T30 (rd_L2 l1 x25_1) x32_2).f0), .int .i64 0]) ?_ 1 _ rfl; refine bk_ ?_; refine blk_put (cs := #[.int .i64 0, .int .i64 0]) ?_ 0 _ rfl; refine bk_ ?_; exact BK163.out⟩
                  have n4_ : Aside0 (Below w.heap.size w ((w25.setCell ⟨gb163, 0, none⟩ (.int .i64 ((rd_T30 (rd_L2 l1 x25_1) x32_2).f0))).setCell ⟨gb163, 1, none⟩ (.int .i64 ((rd_T30 (rd_L2 l1 x25_1) x32_2).f1)))) := ⟨bw2_ HB.out GE153.out GE163.out⟩
                  (try clear HB BK163 BK153 HO_8 HO_7)
                  generalize ((w25.setCell ⟨gb163, 0, none⟩ (.int .i64 ((rd_T30 (rd_L2 l1 x25_1) x32_2).f0))).setCell ⟨gb163, 1, none⟩ (.int .i64 ((rd_T30 (rd_L2 l1 x25_1) x32_2).f1))) = w28 at n0_ n1_ n2_ n3_ n4_ ⊢
                  have HO_7 := n0_
                  have HO_8 := n1_
                  have BK153 := n2_
                  have BK163 := n3_
                  have HB := n4_
                  clear n0_ n1_ n2_ n3_ n4_
                  have z_ := t5_ (Kd.S_drew HO_7.out) (Kd.R_drew HO_8.out) (blk_drew BK153.out) (blk_drew BK163.out) (below_drew1 HB.out)
                  clear HO_8 HO_7
                  (try clear BK163 BK153)
                  clear HB
                  obtain ⟨HO_7, HO_8, BK153, BK163, HB⟩ := z_
                  obtain ⟨Ao30, co30, eo30⟩ := Kd.S_slice HO_7.out
                  (first | subst eo30 | (injection eo30 with f1_ f2_ f3_; have f4_ := f1_.symm; have f5_ := f3_.symm; clear f1_ f2_ f3_; subst f4_; subst f5_))
                  have p164 : 0 ≤ (x25_1 : Int) := od_ as_
                  have q164 : x25_1 < (x7_2.length : Int) := od_ as_
                  obtain ⟨ad164, A164_0, c164_0, e164, hx164_0, hl164_0, hi164_0⟩ := at_L2 (Kd.S_reads' HO_7.out).2.2 x25_1 p164 q164
                  cases e164
                  obtain ⟨ce164, hce164, hMe164, hcc164⟩ := Kd.S_get HO_7.out [] x25_1 p164 (by first | exact q164 | exact od_ as_ | (have e_ := (Kd.S_reads' HO_7.out).1; omega))
                  obtain ⟨ve164_0, rfl, ge164_0⟩ := hMe164
                  have hv164_0 := hcc164 0 _ rfl
                  rw [Nat.add_zero, show ((Kd.slice 30 k30)).sz = 1 from rfl, Nat.mul_one] at hv164_0
                  replace hv164_0 := Option.some.inj (hv164_0.symm.trans hx164_0)
                  rw [hv164_0] at ge164_0
                  have HL164_0 := M_ (show Kd.R k30 30 _ _ _ _ (rd_L2 x7_2 x25_1) from ge164_0)
                  clear hv164_0 ge164_0
                  have HX164_0 := M_ hx164_0
                  clear hcc164 hce164
                  have HR164_0 := M_ hi164_0
                  have HC164_0 := M_ hl164_0
                  clear hi164_0 hl164_0
                  replace p164 := eq_true p164
                  replace q164 := eq_true q164
                  obtain ⟨go31, co31, eo31, gb31, gl31, cl31, HG31⟩ := Kd.S_form HO_7.out (by have h_ : (x25_1 : Int) < ((x7_2.length : Int) : Int) := od_ as_; have h2_ : 0 ≤ (x25_1 : Int) := (od_ as_); omega)
                  (first | cases eo31 | (injection eo31 with ea_ en_ ec_; (first | subst ea_ | (injection ea_ with ea_; subst ea_)); subst ec_; clear en_))
                  have GB31 := M_ gb31
                  have GG31 := M_ HG31
                  clear gb31 gl31 HG31
                  (first | simp only [add_plain] at hx164_0 | skip)
                  obtain ⟨oki31, ce31, hcl31, hM31, hcc31, _, _, hH31⟩ := Kd.S_elem HO_7.out [] (x25_1 : Int) (od_ as_) (by have h_ : (x25_1 : Int) < ((x7_2.length : Int) : Int) := od_ as_; first | exact h_ | (have e_ := (Kd.S_reads' HO_7.out).1; omega) | simpa using h_)
                  obtain ⟨ve31_0, rfl, ge31_0⟩ := hM31
                  have hv31 := hcc31 0 _ rfl
                  have hX31 := HX164_0.out
                  (try simp only [add_plain] at hX31)
                  (try simp only [Nat.add_zero] at hv31)
                  (try rw [show ((Kd.slice 30 k30)).sz = 1 from rfl, Nat.mul_one] at hv31)
                  replace hv31 := Option.some.inj (hv31.symm.trans hX31)
                  subst hv31
                  clear hX31 hcc31 hcl31
                  have UU31 := M_ (show Kd.R k30 30 _ w.heap.size oki31 (.slice A164_0 (rd_L2 x7_2 x25_1).length c164_0) (rd_L2 x7_2 x25_1) from ge31_0)
                  have HH31 := M_ hH31
                  have HN31 := M_ (Kd.S_reads' HO_7.out).1
                  clear hH31 ge31_0
                  refine start_ (n := 11) (S := fun w' => w'.cell? ⟨gb163, 0, none⟩ = some (.int .i64 ((rd_T30 (rd_L2 l1 x25_1) x32_2).f0)) ∧ w'.cell? ⟨gb163, 1, none⟩ = some (.int .i64 ((rd_T30 (rd_L2 l1 x25_1) x32_2).f1)) ∧ w'.cell? ⟨go31, (x25_1).toNat, none⟩ = some (.slice A164_0 (rd_L2 x7_2 x25_1).length c164_0)) (ds := [10]) (mk_ 11 0) (by kernel_rfl) rfl rfl ⟨(blk_cell BK163.out 0).trans rfl, (blk_cell BK163.out 1).trans rfl, hx164_0⟩ (fun hHeld => ?_); refine with_tabW impl_SweepMagazine.tab11 impl_SweepMagazine.bits11 (fun HT_ HW_ => ?_)
                  generalize w28.drew = w29 at HO_7 HO_8 BK153 BK163 HB GG31 HH31 HL164_0 HR164_0 HX164_0 UU31 hx164_0 hHeld ⊢
                  refine pu_ 0 (some 40) (mk_ 11 1) HT_.out ?_
                  refine pu_ 1 (some 41) (mk_ 11 3) HT_.out ?_
                  refine pu_ 2 (some 42) (mk_ 11 7) HT_.out ?_
                  refine pu_ 3 (some 43) (mk_ 11 15) HT_.out ?_
                  refine pu_ 4 (some 44) (mk_ 11 31) HT_.out ?_
                  refine ta_ 5 (some 45) (mk_ 11 63) HT_.out HW_.out hHeld (hy := by rintro w' ⟨s0, s1, s2⟩; go_simp; with_reducible rfl) (h := ?_)
                  refine ta_ 6 (some 46) (mk_ 11 127) HT_.out HW_.out hHeld (hy := by rintro w' ⟨s0, s1, s2⟩; go_simp; with_reducible rfl) (h := ?_)
                  refine on_ 7 (some 47) (mk_ 11 255) HT_.out fun K hK => ?_
                  refine value_ (w1 := ?_) (v := ?_) (by rfl) rfl ?_ ?_
                  rotate_left 2
                  ·go_simp
                   constructor
                   ·rfl
                   ·rfl
                  refine hK.out _ _ ⟨(blk_cell (blk_alloc BK163.out _) 0).trans rfl, (blk_cell (blk_alloc BK163.out _) 1).trans rfl, (World.cell?_alloc_lt _ _ _ (World.block_lt_of_cell? _ _ (hHeld.2.2))).trans (hHeld.2.2)⟩ (fun hHeld => ?_)
                  clear hK K
                  refine norm_ (a' := ?_) ?_ ?_
                  rotate_left
                  ·show Act.put _ (some 47) _ = _
                   simp only [Act.put, lA_, lB_, lC_, i64_w, i32_w]
                   rfl
                  refine on_ 8 (some 48) (mk_ 11 511) HT_.out fun K hK => ?_
                  refine Kd.R_append_step k30 (w0 := w) w.heap.size (by rfl) (.tmp 45) (.tmp 47) 34 30 (.agg #[(.int .i64 0), (.int .i64 0)]) 16 rfl Try.underlying34 info30 rfl (by decide) (by omega) (.slice A164_0 (rd_L2 x7_2 x25_1).length c164_0) (rd_L2 x7_2 x25_1) (⟨(rd_T30 (rd_L2 l1 x25_1) x32_2).f0, (rd_T30 (rd_L2 l1 x25_1) x32_2).f1⟩ : S30) [.int .i64 ((rd_T30 (rd_L2 l1 x25_1) x32_2).f0), .int .i64 ((rd_T30 (rd_L2 l1 x25_1) x32_2).f1)] (fun k_ => oki31 k_ ∨ ((fun k_ => some k_ ≠ (u8 : Value).ownBlock ∧ k_ ≠ gb163)) k_ ∧ w29.heap.size ≤ k_) (fun _ => False) rfl rfl ?aP (fun _ hk => hk.elim) ?aF ?aO ?aB ?aS ?aL ?_
                  (case aP => exact k30_mkM _ _ _ (⟨(rd_T30 (rd_L2 l1 x25_1) x32_2).f0, (rd_T30 (rd_L2 l1 x25_1) x32_2).f1⟩ : S30))
                  (case aB => exact (bw2_ HB.out GE153.out GE163.out))
                  (case aF => exact (fun k_ hk => .inr ⟨⟨Kd.fresh' (Kd.R_lt (kR_ HO_8.out)) k_ hk, Kd.freshB (g := gb163) (o := .cells #[.int .i64 ((rd_T30 (rd_L2 l1 x25_1) x32_2).f0), .int .i64 ((rd_T30 (rd_L2 l1 x25_1) x32_2).f1)] 30 (0, 0)) (bk_ BK163.out) k_ hk⟩, hk⟩))
                  (case aO => exact (by refine kR_ ?_; exact Kd.R_mono UU31.out (fun _ hk => .inl hk)))
                  (case aS => exact (below_size (bw2_ HB.out GE153.out GE163.out)))
                  (case aL => have := LMc23.out; omega)
                  intro v166 w32 ho hb hg hat
                  (first | have HS2_ := cell_grown hg (hHeld.2.2) (by first | (rw [add_block]; exact (fun e_ => ((HL164_0.out.1 _ e_.symm).2) rfl)) | (show some (Addr.add _ _).block ≠ _; rw [add_block]; exact (fun e_ => ((HL164_0.out.1 _ e_.symm).2) rfl)) | exact (fun e_ => ((HL164_0.out.1 _ e_.symm).2) rfl)) | have HS2_ := cell_grown hg (cell_unalloc (hHeld.2.2) (by first | (rw [add_block]; exact Kd.S_lt HO_7.out _ rfl) | (show (Addr.add _ _).block < _; rw [add_block]; exact Kd.S_lt HO_7.out _ rfl) | exact Kd.S_lt HO_7.out _ rfl)) (by first | (rw [add_block]; exact (fun e_ => ((HL164_0.out.1 _ e_.symm).2) rfl)) | (show some (Addr.add _ _).block ≠ _; rw [add_block]; exact (fun e_ => ((HL164_0.out.1 _ e_.symm).2) rfl)) | exact (fun e_ => ((HL164_0.out.1 _ e_.symm).2) rfl)))
                  rw [← Ny165.out] at ho
                  have z_ := t6_ (Kd.R_grown2 (kR_ HO_8.out) rfl hg (fun k_ e_ => (HL164_0.out.1 k_ e_).1.1)) (blk_grown (g := gb153) (o := .cells #[.string a0_0, .slice A0_1 l0_1.length c0_1, .slice A0_2 l0_2.length c0_2] 25 (0, 0)) (bk_ BK153.out) hg (Kd.R_ne HL164_0.out BK153.out (by decide))) (blk_grown (g := gb163) (o := .cells #[.int .i64 ((rd_T30 (rd_L2 l1 x25_1) x32_2).f0), .int .i64 ((rd_T30 (rd_L2 l1 x25_1) x32_2).f1)] 30 (0, 0)) (bk_ BK163.out) hg (Kd.R_away HL164_0.out (fun _ hk => hk.1.2))) hb (Kd.H_grown (Kd.H_widen (by repeat (first | exact HH31.out | refine Kd.H_alloc ?_ _ | refine Kd.H_drewN ?_ _ | refine Kd.H_drew ?_))) hg (fun k_ e_ => .inl (UU31.out.1 k_ e_))) ho
                  clear HO_8
                  (try clear BK163 BK153)
                  clear HL164_0 UU31 HO_7 HH31 HB
                  obtain ⟨HO_8, BK153, BK163, HB, HH31, HO167⟩ := z_
                  clear ho hb hg hat
                  have p24 : 0 ≤ (x25_1 : Int) := od_ as_
                  have q24 : (x25_1 : Int) < ((x7_2.length : Int) : Int) := od_ as_
                  replace p24 := eq_true p24
                  replace q24 := eq_true q24
                  obtain ⟨Ao35, co35, eo35⟩ := Kd.R_slice HO167.out
                  (first | subst eo35 | (injection eo35 with f1_ f2_ f3_; have f4_ := f1_.symm; have f5_ := f3_.symm; clear f1_ f2_ f3_; subst f4_; subst f5_))
                  obtain ⟨_, _, hraw33, _, _, hcc33, _⟩ := Kd.H_raw HH31.out (od_ as_) (by have h_ : (x25_1 : Int) < ((x7_2.length : Int) : Int) := od_ as_; first | exact h_ | (have e_ := (HN31.out); omega) | simpa using h_)
                  obtain ⟨_, hfr33⟩ := Kd.H_at HH31.out (od_ as_) (by have h_ : (x25_1 : Int) < ((x7_2.length : Int) : Int) := od_ as_; first | exact h_ | (have e_ := (HN31.out); omega) | simpa using h_)
                  have hx33_0 := hcc33 0 _ rfl
                  have hf33_0 := hfr33 0
                  (try simp only [Nat.add_zero] at hx33_0 hf33_0)
                  (try rw [show ((Kd.slice 30 k30)).sz = 1 from rfl, Nat.mul_one] at hx33_0)
                  (try rw [show ((Kd.slice 30 k30)).sz = 1 from rfl, Nat.mul_one] at hf33_0)
                  have HP33 := Kd.S_seg0 HH31.out (od_ as_) (by have h_ : (x25_1 : Int) < ((x7_2.length : Int) : Int) := od_ as_; first | exact h_ | (have e_ := (HN31.out); omega) | simpa using h_) (seg := [.slice Ao35 y165.length co35]) (j := 0) (show 1 ≤ 1 from by decide) (x' := y165) (Kd.M_row HO167.out) (fun _ hk => hk)
                  (try simp only [show ((Kd.slice 30 k30)).sz = 1 from rfl, Nat.mul_one, Nat.add_zero] at HP33)
                  clear hcc33 hfr33
                  have HNB153_go31 := M_ (show gb153 ≠ go31 from by have h_ := Kd.R_ne hraw33 BK153.out (by decide); intro e_; exact h_ (by rw [e_]; rfl))
                  have HNB163_go31 := M_ (show gb163 ≠ go31 from by have h_ := Kd.R_ne hraw33 BK163.out (by decide); intro e_; exact h_ (by rw [e_]; rfl))
                  have HS33 := HP33.1
                  rw [← Ny168.out] at HS33
                  have HQ33 := M_ HS33
                  obtain ⟨_, hgg33⟩ := Kd.R_typed hraw33 go31 rfl
                  have GG33_ := M_ hgg33
                  clear HP33 HS33 hgg33
                  refine hK.out _ _ ⟨(blk_cell BK163.out 0).trans rfl, (blk_cell BK163.out 1).trans rfl, HS2_⟩ (fun hHeld => ?_)
                  clear hK K
                  refine norm_ (a' := ?_) ?_ ?_
                  rotate_left
                  ·show Act.put _ (some 48) _ = _
                   simp only [Act.put, lA_, lB_, lC_, i64_w, i32_w]
                   rfl
                  refine pu_ 9 (some 49) (mk_ 11 1023) HT_.out ?_
                  refine la_ 10 none (mk_ 11 2047) HT_.out fun K hK => ?_
                  refine skip_ (w1 := ?_) (by rfl) rfl ?_ ?_
                  rotate_left
                  ·go_simp
                   rfl
                  refine hK.out _ _ ?_
                  clear hK K
                  refine done_ (done_of HT_.out (by kernel_rfl)) ?_
                  try go_wp2
                  go_roundg k2
                  case measure => have := HK1.out; have := HK2.out; omega
                  case rel => exact ⟨(y168), (x8_2), (wrap64 (x32_2 + 1)), (by first | rfl | (simp; done) | (simp [*]; done)), H', ⟨by have := HK1.out; have := HK2.out; omega⟩, ⟨by refine kS_ ?_; exact Kd.S_mono HQ33.out (fun _ hk => hk.1)⟩, ⟨by refine kR_ ?_; exact Kd.R_mono (Kd.R_far (p := ⟨go31, (x25_1 : Int).toNat, none⟩) (Kd.R_types HO_8.out GG33_.out (by decide)) (fun _ hk => hk.2) (.slice Ao35 y165.length co35)) (fun _ hk => trivial)⟩, ⟨by refine bk_ ?_; refine blk_far ?_ HNB153_go31.out _; refine bk_ ?_; exact BK153.out⟩, ⟨bw3_ HB.out GB31.out GE153.out GE163.out⟩⟩
                 ·rw [if_neg c23] at H
                  exact absurd H (by simp)
                ·rw [if_neg c22] at H
                 exact absurd H (by simp)
               ·rw [if_neg c21] at H
                exact absurd H (by simp)
              ·rw [if_neg c20] at H
               have c20b0 : (((rd_T30 (rd_L2 l1 x25_1) x32_2).f0) == x25_1) = false := beq_eq_false_iff_ne.mpr c20
               have c20b1 : (((rd_T30 (rd_L2 l1 x25_1) x32_2).f0) != x25_1) = true := bne_iff_ne.mpr c20
               by_cases c36 : x8_2.length < 8796093022208
               ·rw [if_pos c36] at H
                have LMc36 := M_ c36
                clear c36
                obtain ⟨y169, hy169⟩ : ∃ y_ : List (S30), y_ = (x8_2 ++ [(⟨(rd_T30 (rd_L2 l1 x25_1) x32_2).f0, (rd_T30 (rd_L2 l1 x25_1) x32_2).f1⟩ : S30)]) := ⟨_, rfl⟩
                replace H : (impl_SweepMagazine.l1 k2 x7_2 y169 x25_1 l1 (l1.length : Int) x25_1 (rd_L2 l1 x25_1) ((rd_L2 l1 x25_1).length : Int) (wrap64 (x32_2 + 1))) = some (r1, r2, r3) := by first | (rw [hy169]; with_reducible exact H) | (have H2_ := (Option.bind_some _ _).symm.trans H; rw [hy169]; with_reducible exact H2_) | (have H2_ := (Option.bind_some _ _).symm.trans H; with_reducible exact H2_) | with_reducible exact H | (rw [hy169]; exact H) | exact H
                have Ny169 := M_ hy169
                clear hy169
                have H' := M_ H
                clear H
                have p162 : 0 ≤ (x32_2 : Int) := od_ as_
                have q162 : x32_2 < ((rd_L2 l1 x25_1).length : Int) := od_ as_
                obtain ⟨ad162, e162, hx162_0, hx162_1⟩ := at_T30 HR161_0.out x32_2 p162 q162
                cases e162
                replace hx162_0 := (HB.out.cell (World.block_lt_of_cell? w _ hx162_0)).trans hx162_0
                replace hx162_1 := (HB.out.cell (World.block_lt_of_cell? w _ hx162_1)).trans hx162_1
                replace p162 := eq_true p162
                replace q162 := eq_true q162
                go_wp2_with (first | ((with_reducible refine gate_dst (N := 12) rfl ?_); refine be_ 12 #[.int .i64 0, .int .i64 0] 30 ?_; intro gb163 hg w37 hbox hb; have z_ := t7_ (sB_ (Kd.S_elderB (kS_ HO_7.out) gb163 (Nat.le_of_eq hg.symm)) hb) (rB_ (Kd.R_elderB (kR_ HO_8.out) gb163 (Nat.le_of_eq hg.symm)) hb) (bB_ (bk_ BK153.out) hb) (bS_ (bw1_ HB.out GE153.out) hb) hbox (gv_ hg (bw1_ HB.out GE153.out) : w.heap.size ≤ gb163) (by rw [hg]; exact Nat.ne_of_lt (blk_lt (bk_ BK153.out)) : gb153 ≠ gb163); clear HO_8 HO_7; (try clear BK153); clear HB; obtain ⟨HO_7, HO_8, BK153, HB, BK163, GE163, NB153_163⟩ := z_; have NB163_153 := M_ NB153_163.out.symm; clear hb hbox hg; have hnb38 := NB163_153.out; have hnc38 := NB153_163.out; have hcz39_0 := cz_ BK163.out 0 (.int .i64 0); have hcz39_1 := cz_ BK163.out 1 (.int .i64 0); have hfz39_0 := fz_ BK163.out 0; have hfz39_1 := fz_ BK163.out 1) | ((with_reducible refine gate_builtin (b := .append) (xs := #[.tmp 50, .tmp 52]) rfl ?_); at_builtin; refine Kd.R_append k30 (w0 := w) w.heap.size rfl (.tmp 50) (.tmp 52) 34 30 (.agg #[(.int .i64 0), (.int .i64 0)]) 16 rfl Try.underlying34 info30 rfl (by decide) (by omega) u8 x8_2 (⟨(rd_T30 (rd_L2 l1 x25_1) x32_2).f0, (rd_T30 (rd_L2 l1 x25_1) x32_2).f1⟩ : S30) [.int .i64 ((rd_T30 (rd_L2 l1 x25_1) x32_2).f0), .int .i64 ((rd_T30 (rd_L2 l1 x25_1) x32_2).f1)] (fun k_ => k_ ≠ gb163) (fun _ => False) rfl (by first | (go_simp; done) | (go_simp; rfl)) ?aP (fun _ hk => hk.elim) ?aF ?aO ?aB ?aS ?aL ?_; (case aP => exact k30_mkM _ _ _ (⟨(rd_T30 (rd_L2 l1 x25_1) x32_2).f0, (rd_T30 (rd_L2 l1 x25_1) x32_2).f1⟩ : S30)); (case aB => exact (bw2_ HB.out GE153.out GE163.out)); (case aF => exact (fun k_ hk => Kd.freshB (g := gb163) (o := .cells #[.int .i64 ((rd_T30 (rd_L2 l1 x25_1) x32_2).f0), .int .i64 ((rd_T30 (rd_L2 l1 x25_1) x32_2).f1)] 30 (0, 0)) (by refine bk_ ?_; refine blk_put (cs := #[.int .i64 ((rd_T30 (rd_L2 l1 x25_1) x32_2).f0), .int .i64 0]) ?_ 1 _ rfl; refine bk_ ?_; refine blk_put (cs := #[.int .i64 0, .int .i64 0]) ?_ 0 _ rfl; refine bk_ ?_; exact BK163.out) k_ hk)); (case aO => exact (by refine kR_ ?_; exact Kd.R_mono (Kd.R_far (p := ⟨gb163, 1, none⟩) (Kd.R_far (p := ⟨gb163, 0, none⟩) (Kd.R_mono HO_8.out (fun k_ hk => (⟨hk, hk.2⟩ : _ ∧ k_ ≠ gb163))) (fun _ hk => hk.2) (.int .i64 ((rd_T30 (rd_L2 l1 x25_1) x32_2).f0))) (fun _ hk => hk.2) (.int .i64 ((rd_T30 (rd_L2 l1 x25_1) x32_2).f1))) (fun _ hk => hk.1.2))); (case aS => exact (below_size (bw2_ HB.out GE153.out GE163.out))); (case aL => have := LMc36.out; omega); intro v170 w40 ho hb hg hat; rw [← Ny169.out] at ho; have z_ := t4_ (Kd.S_after (ok := (fun k_ => k_ ≠ gb163)) (by refine kS_ ?_; exact Kd.S_mono (Kd.S_far (p := ⟨gb163, 1, none⟩) (Kd.S_far (p := ⟨gb163, 0, none⟩) (Kd.S_mono HO_7.out (fun k_ hk => (⟨hk, hk.2⟩ : _ ∧ k_ ≠ gb163))) (fun _ hk => hk.2) (.int .i64 ((rd_T30 (rd_L2 l1 x25_1) x32_2).f0))) (fun _ hk => hk.2) (.int .i64 ((rd_T30 (rd_L2 l1 x25_1) x32_2).f1))) (fun _ hk => ⟨hk.1.2, hk.1.1⟩)) hg hat) (blk_grown (g := gb153) (o := .cells #[.string a0_0, .slice A0_1 l0_1.length c0_1, .slice A0_2 l0_2.length c0_2] 25 (0, 0)) (by refine bk_ ?_; refine blk_far ?_ NB153_163.out _; refine bk_ ?_; refine blk_far ?_ NB153_163.out _; refine bk_ ?_; exact BK153.out) hg (Kd.R_ne HO_8.out BK153.out (by decide))) hb ho; clear HO_7; (try clear BK163 BK153); clear HO_8 HB; obtain ⟨HO_7, BK153, HB, HO171⟩ := z_; clear ho hb hg hat))
                go_roundg k2
                case measure => have := HK1.out; have := HK2.out; omega
                case rel => exact ⟨(x7_2), (y169), (wrap64 (x32_2 + 1)), (by first | rfl | (simp; done) | (simp [*]; done)), H', ⟨by have := HK1.out; have := HK2.out; omega⟩, ⟨by refine kS_ ?_; exact Kd.S_mono HO_7.out (fun _ hk => hk.2)⟩, ⟨by refine kR_ ?_; exact Kd.R_mono HO171.out (fun _ hk => trivial)⟩, ⟨by refine bk_ ?_; exact BK153.out⟩, ⟨bw2_ HB.out GE153.out GE163.out⟩⟩
               ·rw [if_neg c36] at H
                exact absurd H (by simp)
             ·rw [if_neg c19] at H
              exact absurd H (by simp)
            ·rw [if_neg c18] at H
             exact absurd H (by simp)
           ·rw [if_neg c17] at H
            have c17b0 := decide_eq_false c17
            clear c17
            have H' := M_ H
            clear H
            go_wp2
            go_roundg k2
            case measure => have := HK1.out; have := HK2.out; omega
            case rel => exact ⟨(x7_2), (x8_2), (wrap64 (x25_1 + 1)), (by first | rfl | (simp; done) | (simp [*]; done)), H', ⟨by have := HK1.out; have := HK2.out; omega⟩, ⟨by refine kS_ ?_; exact HO_7.out⟩, ⟨by refine kR_ ?_; exact HO_8.out⟩, ⟨by refine bk_ ?_; exact BK153.out⟩, ⟨bw1_ HB.out GE153.out⟩⟩
        ·rw [if_neg c16] at H
         exact absurd H (by simp)
       ·rw [if_neg c15] at H
        exact absurd H (by simp)
      ·rw [if_neg c14] at H
       have c14b0 := decide_eq_false c14
       clear c14
       have H' := M_ H
       clear H
       obtain ⟨Ao41, co41, eo41⟩ := Kd.R_slice HO_8.out
       subst eo41
       go_wp2
       go_loopg [58] k1 (fun kq v58 w' => ∃ (x7_2 : List (List (S30))) (x58_2 : Int), v58 = .int .i64 x58_2 ∧ Aside0 (impl_SweepMagazine.l2 kq x7_2 x8_1 x8_1 (x8_1.length : Int) x58_2 = some (r1, r2, r3)) ∧ Aside0 (kq ≤ k1) ∧ Aside0 (Kd.S (Kd.slice 30 k30) 34 w' w.heap.size (fun k_ => some k_ ≠ ((.slice Ao41 x8_1.length co41) : Value).ownBlock ∧ some k_ ≠ ((.slice Ao41 x8_1.length co41) : Value).ownBlock) v156 x7_2) ∧ Aside0 (Kd.R k30 30 w' w.heap.size (fun _ => True) (.slice Ao41 x8_1.length co41) x8_1) ∧ Aside0 (Kd.R k30 30 w' w.heap.size (fun _ => True) (.slice Ao41 x8_1.length co41) x8_1) ∧ Aside0 (w'.heap[gb153]? = some (.cells #[.string a0_0, (.slice A0_1 l0_1.length c0_1), (.slice A0_2 l0_2.length c0_2)] 25 (0, 0))) ∧ Aside0 (Below w.heap.size w w'))
       case atStart => exact ⟨(x7_1), (0), (by first | rfl | (simp; done) | (simp [*]; done)), H', ⟨Nat.le_refl _⟩, ⟨by refine kS_ ?_; exact Kd.S_mono HO_7.out (fun _ hk => ⟨hk, hk⟩)⟩, ⟨by refine kR_ ?_; exact HO_8.out⟩, ⟨by refine kR_ ?_; exact HO_8.out⟩, ⟨by refine bk_ ?_; exact BK153.out⟩, ⟨bw1_ HB.out GE153.out⟩⟩
       case round =>
        clear H'
        (try clear q24 q164 q162 q161 q16 q1 p24 p2 p164 p162 p161 p16 p1 hx33_0 hx164_0 hx162_1 hx162_0 hx161_0 hfz8_2 hfz8_1 hfz8_0 hfz39_1 hfz39_0 hfz27_1 hfz27_0 hcz8_2 hcz8_1 hcz8_0 hcz39_1 hcz39_0 hcz27_1 hcz27_0 c38 c36 hf33 hx33 c33 c31 c26 q24 p24 c23 c22b0 c22 c21b0 c21 c20b1 c20b0 c20 c19b0 c19 c18b0 c18 c17b0 c17 hx16 q16 p16 c16b0 c16 c15b0 c15 c14b0 c14 p6 c6b1 c6b0 c6 c5b1 c5b0 c5 c4 hf3 hx3 c3 q2 p2 c2 hx1 q1 p1 c1)
        obtain ⟨x7_2, x58_2, rfl, HA, HK2, HO_7, HO_8, HO_56, BK153, HB⟩ := hrel
        cases gk with
        | zero => exact absurd HA.out (by simp [impl_SweepMagazine.l2])
        | succ k2 =>
         have H := HA.out
         clear HA
         simp only [impl_SweepMagazine.l2] at H
         by_cases c42 : x58_2 < (x8_1.length : Int)
         ·rw [if_pos c42] at H
          have c42b0 := dt_ c42
          clear c42
          by_cases c43 : 0 ≤ x58_2
          ·rw [if_pos c43] at H
           have c43b0 := dt_ c43
           clear c43
           by_cases c44 : x58_2 < (x8_1.length : Int)
           ·rw [if_pos c44] at H
            have c44b0 := dt_ c44
            clear c44
            by_cases c45 : 0 ≤ ((rd_T30 x8_1 x58_2).f0)
            ·rw [if_pos c45] at H
             have c45b0 := dt_ c45
             clear c45
             by_cases c46 : ((rd_T30 x8_1 x58_2).f0) < (x7_2.length : Int)
             ·rw [if_pos c46] at H
              have c46b0 := dt_ c46
              clear c46
              by_cases c47 : (rd_L2 x7_2 ((rd_T30 x8_1 x58_2).f0)).length < 8796093022208
              ·rw [if_pos c47] at H
               have LMc47 := M_ c47
               clear c47
               obtain ⟨y175, hy175⟩ : ∃ y_ : List (S30), y_ = ((rd_L2 x7_2 ((rd_T30 x8_1 x58_2).f0)) ++ [(⟨(rd_T30 x8_1 x58_2).f0, (rd_T30 x8_1 x58_2).f1⟩ : S30)]) := ⟨_, rfl⟩
               replace H : ((some (x7_2.set (((rd_T30 x8_1 x58_2).f0) : Int).toNat y175 : List (List (S30)))).bind fun y178 => (if ((rd_L2 y178 ((rd_T30 x8_1 x58_2).f0)).length : Int) > 20 then (some (([] : List (List (S30))), 0, false)) else (impl_SweepMagazine.l2 k2 y178 x8_1 x8_1 (x8_1.length : Int) (wrap64 (x58_2 + 1))))) = some (r1, r2, r3) := by first | (rw [hy175]; with_reducible exact H) | (have H2_ := (Option.bind_some _ _).symm.trans H; rw [hy175]; with_reducible exact H2_) | (have H2_ := (Option.bind_some _ _).symm.trans H; with_reducible exact H2_) | with_reducible exact H | (rw [hy175]; exact H) | exact H
               have Ny175 := M_ hy175
               clear hy175
               obtain ⟨y178, hy178⟩ : ∃ y_ : List (List (S30)), y_ = (x7_2.set (((rd_T30 x8_1 x58_2).f0) : Int).toNat y175) := ⟨_, rfl⟩
               replace H : (if ((rd_L2 y178 ((rd_T30 x8_1 x58_2).f0)).length : Int) > 20 then (some (([] : List (List (S30))), 0, false)) else (impl_SweepMagazine.l2 k2 y178 x8_1 x8_1 (x8_1.length : Int) (wrap64 (x58_2 + 1)))) = some (r1, r2, r3) := by first | (rw [hy178]; with_reducible exact H) | (have H2_ := (Option.bind_some _ _).symm.trans H; rw [hy178]; with_reducible exact H2_) | (have H2_ := (Option.bind_some _ _).symm.trans H; with_reducible exact H2_) | with_reducible exact H | (rw [hy178]; exact H) | exact H
               have Ny178 := M_ hy178
               clear hy178
               by_cases c49 : ((rd_L2 y178 ((rd_T30 x8_1 x58_2).f0)).length : Int) > 20
               ·rw [if_pos c49] at H
                have c49b0 : decide (20 < ((rd_L2 y178 ((rd_T30 x8_1 x58_2).f0)).length : Int)) = true := dt_ c49
                have c49b1 : decide (20 < (rd_L2 y178 ((rd_T30 x8_1 x58_2).f0)).length) = true := dt_ (by omega)
                clear c49
                simp only [Option.some.injEq, Prod.mk.injEq] at H
                obtain ⟨rfl, rfl, rfl⟩ := H
                have p172 : 0 ≤ (x58_2 : Int) := od_ as_
                have q172 : x58_2 < (x8_1.length : Int) := od_ as_
                obtain ⟨ad172, e172, hx172_0, hx172_1⟩ := at_T30 (Kd.R_reads' HO_56.out).2.2 x58_2 p172 q172
                cases e172
                replace p172 := eq_true p172
                replace q172 := eq_true q172
                try go_wp2_with (first | ((with_reducible refine gate_dst (N := 14) rfl ?_); refine be_ 14 #[.int .i64 0, .int .i64 0] 30 ?_; intro gb173 hg w50 hbox hb; have z_ := t8_ (sB_ (Kd.S_elderB (kS_ HO_7.out) gb173 (Nat.le_of_eq hg.symm)) hb) (rB_ (Kd.R_elderB (kR_ HO_8.out) gb173 (Nat.le_of_eq hg.symm)) hb) (rB_ (Kd.R_elderB (kR_ HO_56.out) gb173 (Nat.le_of_eq hg.symm)) hb) (bB_ (bk_ BK153.out) hb) (bS_ (bw1_ HB.out GE153.out) hb) hbox (gv_ hg (bw1_ HB.out GE153.out) : w.heap.size ≤ gb173) (by rw [hg]; exact Nat.ne_of_lt (blk_lt (bk_ BK153.out)) : gb153 ≠ gb173); clear HO_56 HO_8 HO_7; (try clear BK153); clear HB; obtain ⟨HO_7, HO_8, HO_56, BK153, HB, BK173, GE173, NB153_173⟩ := z_; have NB173_153 := M_ NB153_173.out.symm; clear hb hbox hg; have hnb51 := NB173_153.out; have hnc51 := NB153_173.out; have hcz52_0 := cz_ BK173.out 0 (.int .i64 0); have hcz52_1 := cz_ BK173.out 1 (.int .i64 0); have hfz52_0 := fz_ BK173.out 0; have hfz52_1 := fz_ BK173.out 1))
                have n0_ : Aside0 (Kd.S (Kd.slice 30 k30) 34 ((w50.setCell ⟨gb173, 0, none⟩ (.int .i64 ((rd_T30 x8_1 x58_2).f0))).setCell ⟨gb173, 1, none⟩ (.int .i64 ((rd_T30 x8_1 x58_2).f1))) w.heap.size (fun k_ => some k_ ≠ (.slice (some ad172) x8_1.length co41 : Value).ownBlock ∧ some k_ ≠ (.slice (some ad172) x8_1.length co41 : Value).ownBlock ∧ k_ ≠ gb173) v156 x7_2) := ⟨by refine kS_ ?_; exact Kd.S_mono (Kd.S_far (p := ⟨gb173, 1, none⟩) (Kd.S_far (p := ⟨gb173, 0, none⟩) (Kd.S_mono HO_7.out (fun k_ hk => (⟨hk, hk.2⟩ : _ ∧ k_ ≠ gb173))) (fun _ hk => hk.2) (.int .i64 ((rd_T30 x8_1 x58_2).f0))) (fun _ hk => hk.2) (.int .i64 ((rd_T30 x8_1 x58_2).f1))) (fun _ hk => ⟨hk.1.1.1, ⟨hk.1.1.2, hk.1.2⟩⟩)⟩
                have n1_ : Aside0 (Kd.R k30 30 ((w50.setCell ⟨gb173, 0, none⟩ (.int .i64 ((rd_T30 x8_1 x58_2).f0))).setCell ⟨gb173, 1, none⟩ (.int .i64 ((rd_T30 x8_1 x58_2).f1))) w.heap.size (fun k_ => k_ ≠ gb173) (.slice (some ad172) x8_1.length co41) x8_1) := ⟨by refine kR_ ?_; exact Kd.R_mono (Kd.R_far (p := ⟨gb173, 1, none⟩) (Kd.R_far (p := ⟨gb173, 0, none⟩) (Kd.R_mono HO_8.out (fun k_ hk => (⟨hk, hk.2⟩ : _ ∧ k_ ≠ gb173))) (fun _ hk => hk.2) (.int .i64 ((rd_T30 x8_1 x58_2).f0))) (fun _ hk => hk.2) (.int .i64 ((rd_T30 x8_1 x58_2).f1))) (fun _ hk => hk.1.2)⟩
                have n2_ : Aside0 (Kd.R k30 30 ((w50.setCell ⟨gb173, 0, none⟩ (.int .i64 ((rd_T30 x8_1 x58_2).f0))).setCell ⟨gb173, 1, none⟩ (.int .i64 ((rd_T30 x8_1 x58_2).f1))) w.heap.size (fun k_ => k_ ≠ gb173) (.slice (some ad172) x8_1.length co41) x8_1) := ⟨by refine kR_ ?_; exact Kd.R_mono (Kd.R_far (p := ⟨gb173, 1, none⟩) (Kd.R_far (p := ⟨gb173, 0, none⟩) (Kd.R_mono HO_56.out (fun k_ hk => (⟨hk, hk.2⟩ : _ ∧ k_ ≠ gb173))) (fun _ hk => hk.2) (.int .i64 ((rd_T30 x8_1 x58_2).f0))) (fun _ hk => hk.2) (.int .i64 ((rd_T30 x8_1 x58_2).f1))) (fun _ hk => hk.1.2)⟩
                have n3_ : Aside0 (((w50.setCell ⟨gb173, 0, none⟩ (.int .i64 ((rd_T30 x8_1 x58_2).f0))).setCell ⟨gb173, 1, none⟩ (.int .i64 ((rd_T30 x8_1 x58_2).f1))).heap[gb153]? = some (.cells #[.string a0_0, .slice A0_1 l0_1.length c0_1, .slice A0_2 l0_2.length c0_2] 25 (0, 0))) := ⟨by refine bk_ ?_; refine blk_far ?_ NB153_173.out _; refine bk_ ?_; refine blk_far ?_ NB153_173.out _; refine bk_ ?_; exact BK153.out⟩
                have n4_ : Aside0 (((w50.setCell ⟨gb173, 0, none⟩ (.int .i64 ((rd_T30 x8_1 x58_2).f0))).setCell ⟨gb173, 1, none⟩ (.int .i64 ((rd_T30 x8_1 x58_2).f1))).heap[gb173]? = some (.cells #[.int .i64 ((rd_T30 x8_1 x58_2).f0), .int .i64 ((rd_T30 x8_1 x58_2).f1)] 30 (0, 0))) := ⟨by refine bk_ ?_; refine blk_put (cs := #[.int .i64 ((rd_T30 x8_1 x58_2).f0), .int .i64 0]) ?_ 1 _ rfl; refine bk_ ?_; refine blk_put (cs := #[.int .i64 0, .int .i64 0]) ?_ 0 _ rfl; refine bk_ ?_; exact BK173.out⟩
                have n5_ : Aside0 (Below w.heap.size w ((w50.setCell ⟨gb173, 0, none⟩ (.int .i64 ((rd_T30 x8_1 x58_2).f0))).setCell ⟨gb173, 1, none⟩ (.int .i64 ((rd_T30 x8_1 x58_2).f1)))) := ⟨bw2_ HB.out GE153.out GE173.out⟩
                (try clear HB BK173 BK153 HO_56 HO_8 HO_7)
                generalize ((w50.setCell ⟨gb173, 0, none⟩ (.int .i64 ((rd_T30 x8_1 x58_2).f0))).setCell ⟨gb173, 1, none⟩ (.int .i64 ((rd_T30 x8_1 x58_2).f1))) = w53 at n0_ n1_ n2_ n3_ n4_ n5_ ⊢
                have HO_7 := n0_
                have HO_8 := n1_
                have HO_56 := n2_
                have BK153 := n3_
                have BK173 := n4_
                have HB := n5_
                clear n0_ n1_ n2_ n3_ n4_ n5_
                have z_ := t6_ (Kd.S_drew HO_7.out) (Kd.R_drew HO_8.out) (Kd.R_drew HO_56.out) (blk_drew BK153.out) (blk_drew BK173.out) (below_drew1 HB.out)
                clear HO_56 HO_8 HO_7
                (try clear BK153)
                clear HB BK173
                obtain ⟨HO_7, HO_8, HO_56, BK153, BK173, HB⟩ := z_
                obtain ⟨Ao55, co55, eo55⟩ := Kd.S_slice HO_7.out
                (first | subst eo55 | (injection eo55 with f1_ f2_ f3_; have f4_ := f1_.symm; have f5_ := f3_.symm; clear f1_ f2_ f3_; subst f4_; subst f5_))
                have p174 : 0 ≤ (((rd_T30 x8_1 x58_2).f0) : Int) := od_ as_
                have q174 : ((rd_T30 x8_1 x58_2).f0) < (x7_2.length : Int) := od_ as_
                obtain ⟨ad174, A174_0, c174_0, e174, hx174_0, hl174_0, hi174_0⟩ := at_L2 (Kd.S_reads' HO_7.out).2.2 ((rd_T30 x8_1 x58_2).f0) p174 q174
                cases e174
                obtain ⟨ce174, hce174, hMe174, hcc174⟩ := Kd.S_get HO_7.out [] ((rd_T30 x8_1 x58_2).f0) p174 (by first | exact q174 | exact od_ as_ | (have e_ := (Kd.S_reads' HO_7.out).1; omega))
                obtain ⟨ve174_0, rfl, ge174_0⟩ := hMe174
                have hv174_0 := hcc174 0 _ rfl
                rw [Nat.add_zero, show ((Kd.slice 30 k30)).sz = 1 from rfl, Nat.mul_one] at hv174_0
                replace hv174_0 := Option.some.inj (hv174_0.symm.trans hx174_0)
                rw [hv174_0] at ge174_0
                have HL174_0 := M_ (show Kd.R k30 30 _ _ _ _ (rd_L2 x7_2 ((rd_T30 x8_1 x58_2).f0)) from ge174_0)
                clear hv174_0 ge174_0
                have HX174_0 := M_ hx174_0
                clear hcc174 hce174
                have HR174_0 := M_ hi174_0
                have HC174_0 := M_ hl174_0
                clear hi174_0 hl174_0
                replace p174 := eq_true p174
                replace q174 := eq_true q174
                obtain ⟨go56, co56, eo56, gb56, gl56, cl56, HG56⟩ := Kd.S_form HO_7.out (by have h_ : (((rd_T30 x8_1 x58_2).f0) : Int) < ((x7_2.length : Int) : Int) := od_ as_; have h2_ : 0 ≤ (((rd_T30 x8_1 x58_2).f0) : Int) := (od_ as_); omega)
                (first | cases eo56 | (injection eo56 with ea_ en_ ec_; (first | subst ea_ | (injection ea_ with ea_; subst ea_)); subst ec_; clear en_))
                have GB56 := M_ gb56
                have GG56 := M_ HG56
                clear gb56 gl56 HG56
                (first | simp only [add_plain] at hx174_0 | skip)
                obtain ⟨oki56, ce56, hcl56, hM56, hcc56, _, _, hH56⟩ := Kd.S_elem HO_7.out [] (((rd_T30 x8_1 x58_2).f0) : Int) (od_ as_) (by have h_ : (((rd_T30 x8_1 x58_2).f0) : Int) < ((x7_2.length : Int) : Int) := od_ as_; first | exact h_ | (have e_ := (Kd.S_reads' HO_7.out).1; omega) | simpa using h_)
                obtain ⟨ve56_0, rfl, ge56_0⟩ := hM56
                have hv56 := hcc56 0 _ rfl
                have hX56 := HX174_0.out
                (try simp only [add_plain] at hX56)
                (try simp only [Nat.add_zero] at hv56)
                (try rw [show ((Kd.slice 30 k30)).sz = 1 from rfl, Nat.mul_one] at hv56)
                replace hv56 := Option.some.inj (hv56.symm.trans hX56)
                subst hv56
                clear hX56 hcc56 hcl56
                have UU56 := M_ (show Kd.R k30 30 _ w.heap.size oki56 (.slice A174_0 (rd_L2 x7_2 ((rd_T30 x8_1 x58_2).f0)).length c174_0) (rd_L2 x7_2 ((rd_T30 x8_1 x58_2).f0)) from ge56_0)
                have HH56 := M_ hH56
                have HN56 := M_ (Kd.S_reads' HO_7.out).1
                clear hH56 ge56_0
                refine start_ (n := 13) (S := fun w' => w'.cell? ⟨gb173, 0, none⟩ = some (.int .i64 ((rd_T30 x8_1 x58_2).f0)) ∧ w'.cell? ⟨gb173, 1, none⟩ = some (.int .i64 ((rd_T30 x8_1 x58_2).f1)) ∧ w'.cell? ⟨go56, (((rd_T30 x8_1 x58_2).f0)).toNat, none⟩ = some (.slice A174_0 (rd_L2 x7_2 ((rd_T30 x8_1 x58_2).f0)).length c174_0)) (ds := [12]) (mk_ 13 0) (by kernel_rfl) rfl rfl ⟨(blk_cell BK173.out 0).trans rfl, (blk_cell BK173.out 1).trans rfl, hx174_0⟩ (fun hHeld => ?_); refine with_tabW impl_SweepMagazine.tab18 impl_SweepMagazine.bits18 (fun HT_ HW_ => ?_)
                generalize w53.drew = w54 at HO_7 HO_8 HO_56 BK153 BK173 HB GG56 HH56 HL174_0 HR174_0 HX174_0 UU56 hx174_0 hHeld ⊢
                refine pu_ 0 (some 62) (mk_ 13 1) HT_.out ?_
                refine pu_ 1 (some 63) (mk_ 13 3) HT_.out ?_
                refine pu_ 3 (some 65) (mk_ 13 11) HT_.out ?_
                refine pu_ 4 (some 66) (mk_ 13 27) HT_.out ?_
                refine ta_ 2 (some 64) (mk_ 13 31) HT_.out HW_.out hHeld (hy := by rintro w' ⟨s0, s1, s2⟩; go_simp; with_reducible rfl) (h := ?_)
                refine ta_ 5 (some 67) (mk_ 13 63) HT_.out HW_.out hHeld (hy := by rintro w' ⟨s0, s1, s2⟩; go_simp; with_reducible rfl) (h := ?_)
                refine pu_ 6 (some 68) (mk_ 13 127) HT_.out ?_
                refine ta_ 7 (some 69) (mk_ 13 255) HT_.out HW_.out hHeld (hy := by rintro w' ⟨s0, s1, s2⟩; go_simp; with_reducible rfl) (h := ?_)
                refine ta_ 8 (some 70) (mk_ 13 511) HT_.out HW_.out hHeld (hy := by rintro w' ⟨s0, s1, s2⟩; go_simp; with_reducible rfl) (h := ?_)
                refine on_ 9 (some 71) (mk_ 13 1023) HT_.out fun K hK => ?_
                refine value_ (w1 := ?_) (v := ?_) (by rfl) rfl ?_ ?_
                rotate_left 2
                ·go_simp
                 constructor
                 ·rfl
                 ·rfl
                refine hK.out _ _ ⟨(blk_cell (blk_alloc BK173.out _) 0).trans rfl, (blk_cell (blk_alloc BK173.out _) 1).trans rfl, (World.cell?_alloc_lt _ _ _ (World.block_lt_of_cell? _ _ (hHeld.2.2))).trans (hHeld.2.2)⟩ (fun hHeld => ?_)
                clear hK K
                refine norm_ (a' := ?_) ?_ ?_
                rotate_left
                ·show Act.put _ (some 71) _ = _
                 simp only [Act.put, lA_, lB_, lC_, i64_w, i32_w]
                 rfl
                refine on_ 10 (some 72) (mk_ 13 2047) HT_.out fun K hK => ?_
                refine Kd.R_append_step k30 (w0 := w) w.heap.size (by rfl) (.tmp 69) (.tmp 71) 34 30 (.agg #[(.int .i64 0), (.int .i64 0)]) 16 rfl Try.underlying34 info30 rfl (by decide) (by omega) (.slice A174_0 (rd_L2 x7_2 ((rd_T30 x8_1 x58_2).f0)).length c174_0) (rd_L2 x7_2 ((rd_T30 x8_1 x58_2).f0)) (⟨(rd_T30 x8_1 x58_2).f0, (rd_T30 x8_1 x58_2).f1⟩ : S30) [.int .i64 ((rd_T30 x8_1 x58_2).f0), .int .i64 ((rd_T30 x8_1 x58_2).f1)] (fun k_ => oki56 k_ ∨ ((fun k_ => some k_ ≠ (.slice (some ad172) x8_1.length co41 : Value).ownBlock ∧ some k_ ≠ (.slice (some ad172) x8_1.length co41 : Value).ownBlock ∧ k_ ≠ gb173)) k_ ∧ w54.heap.size ≤ k_) (fun _ => False) rfl rfl ?aP (fun _ hk => hk.elim) ?aF ?aO ?aB ?aS ?aL ?_
                (case aP => exact k30_mkM _ _ _ (⟨(rd_T30 x8_1 x58_2).f0, (rd_T30 x8_1 x58_2).f1⟩ : S30))
                (case aB => exact (bw2_ HB.out GE153.out GE173.out))
                (case aF => exact (fun k_ hk => .inr ⟨⟨Kd.fresh' (Kd.R_lt (kR_ HO_8.out)) k_ hk, Kd.fresh' (Kd.R_lt (kR_ HO_56.out)) k_ hk, Kd.freshB (g := gb173) (o := .cells #[.int .i64 ((rd_T30 x8_1 x58_2).f0), .int .i64 ((rd_T30 x8_1 x58_2).f1)] 30 (0, 0)) (bk_ BK173.out) k_ hk⟩, hk⟩))
                (case aO => exact (by refine kR_ ?_; exact Kd.R_mono UU56.out (fun _ hk => .inl hk)))
                (case aS => exact (below_size (bw2_ HB.out GE153.out GE173.out)))
                (case aL => have := LMc47.out; omega)
                intro v176 w57 ho hb hg hat
                (first | have HS2_ := cell_grown hg (hHeld.2.2) (by first | (rw [add_block]; exact (fun e_ => ((HL174_0.out.1 _ e_.symm).2) rfl)) | (show some (Addr.add _ _).block ≠ _; rw [add_block]; exact (fun e_ => ((HL174_0.out.1 _ e_.symm).2) rfl)) | exact (fun e_ => ((HL174_0.out.1 _ e_.symm).2) rfl)) | have HS2_ := cell_grown hg (cell_unalloc (hHeld.2.2) (by first | (rw [add_block]; exact Kd.S_lt HO_7.out _ rfl) | (show (Addr.add _ _).block < _; rw [add_block]; exact Kd.S_lt HO_7.out _ rfl) | exact Kd.S_lt HO_7.out _ rfl)) (by first | (rw [add_block]; exact (fun e_ => ((HL174_0.out.1 _ e_.symm).2) rfl)) | (show some (Addr.add _ _).block ≠ _; rw [add_block]; exact (fun e_ => ((HL174_0.out.1 _ e_.symm).2) rfl)) | exact (fun e_ => ((HL174_0.out.1 _ e_.symm).2) rfl)))
                rw [← Ny175.out] at ho
                have z_ := t7_ (Kd.R_grown2 (kR_ HO_8.out) rfl hg (fun k_ e_ => (HL174_0.out.1 k_ e_).1.1)) (Kd.R_grown2 (kR_ HO_56.out) rfl hg (fun k_ e_ => (HL174_0.out.1 k_ e_).1.2.1)) (blk_grown (g := gb153) (o := .cells #[.string a0_0, .slice A0_1 l0_1.length c0_1, .slice A0_2 l0_2.length c0_2] 25 (0, 0)) (bk_ BK153.out) hg (Kd.R_ne HL174_0.out BK153.out (by decide))) (blk_grown (g := gb173) (o := .cells #[.int .i64 ((rd_T30 x8_1 x58_2).f0), .int .i64 ((rd_T30 x8_1 x58_2).f1)] 30 (0, 0)) (bk_ BK173.out) hg (Kd.R_away HL174_0.out (fun _ hk => hk.1.2.2))) hb (Kd.H_grown (Kd.H_widen (by repeat (first | exact HH56.out | refine Kd.H_alloc ?_ _ | refine Kd.H_drewN ?_ _ | refine Kd.H_drew ?_))) hg (fun k_ e_ => .inl (UU56.out.1 k_ e_))) ho
                clear HO_56 HO_8
                (try clear BK153)
                clear HL174_0 UU56 HO_7 HH56 HB BK173
                obtain ⟨HO_8, HO_56, BK153, BK173, HB, HH56, HO177⟩ := z_
                clear ho hb hg hat
                have p48 : 0 ≤ (((rd_T30 x8_1 x58_2).f0) : Int) := od_ as_
                have q48 : (((rd_T30 x8_1 x58_2).f0) : Int) < ((x7_2.length : Int) : Int) := od_ as_
                replace p48 := eq_true p48
                replace q48 := eq_true q48
                obtain ⟨Ao60, co60, eo60⟩ := Kd.R_slice HO177.out
                (first | subst eo60 | (injection eo60 with f1_ f2_ f3_; have f4_ := f1_.symm; have f5_ := f3_.symm; clear f1_ f2_ f3_; subst f4_; subst f5_))
                obtain ⟨_, _, hraw58, _, _, hcc58, _⟩ := Kd.H_raw HH56.out (od_ as_) (by have h_ : (((rd_T30 x8_1 x58_2).f0) : Int) < ((x7_2.length : Int) : Int) := od_ as_; first | exact h_ | (have e_ := (HN56.out); omega) | simpa using h_)
                obtain ⟨_, hfr58⟩ := Kd.H_at HH56.out (od_ as_) (by have h_ : (((rd_T30 x8_1 x58_2).f0) : Int) < ((x7_2.length : Int) : Int) := od_ as_; first | exact h_ | (have e_ := (HN56.out); omega) | simpa using h_)
                have hx58_0 := hcc58 0 _ rfl
                have hf58_0 := hfr58 0
                (try simp only [Nat.add_zero] at hx58_0 hf58_0)
                (try rw [show ((Kd.slice 30 k30)).sz = 1 from rfl, Nat.mul_one] at hx58_0)
                (try rw [show ((Kd.slice 30 k30)).sz = 1 from rfl, Nat.mul_one] at hf58_0)
                have HP58 := Kd.S_seg0 HH56.out (od_ as_) (by have h_ : (((rd_T30 x8_1 x58_2).f0) : Int) < ((x7_2.length : Int) : Int) := od_ as_; first | exact h_ | (have e_ := (HN56.out); omega) | simpa using h_) (seg := [.slice Ao60 y175.length co60]) (j := 0) (show 1 ≤ 1 from by decide) (x' := y175) (Kd.M_row HO177.out) (fun _ hk => hk)
                (try simp only [show ((Kd.slice 30 k30)).sz = 1 from rfl, Nat.mul_one, Nat.add_zero] at HP58)
                clear hcc58 hfr58
                have HNB153_go56 := M_ (show gb153 ≠ go56 from by have h_ := Kd.R_ne hraw58 BK153.out (by decide); intro e_; exact h_ (by rw [e_]; rfl))
                have HNB173_go56 := M_ (show gb173 ≠ go56 from by have h_ := Kd.R_ne hraw58 BK173.out (by decide); intro e_; exact h_ (by rw [e_]; rfl))
                have HS58 := HP58.1
                rw [← Ny178.out] at HS58
                have HQ58 := M_ HS58
                obtain ⟨_, hgg58⟩ := Kd.R_typed hraw58 go56 rfl
                have GG58_ := M_ hgg58
                clear HP58 HS58 hgg58
                refine hK.out _ _ ⟨(blk_cell BK173.out 0).trans rfl, (blk_cell BK173.out 1).trans rfl, HS2_⟩ (fun hHeld => ?_)
                clear hK K
                refine norm_ (a' := ?_) ?_ ?_
                rotate_left
                ·show Act.put _ (some 72) _ = _
                 simp only [Act.put, lA_, lB_, lC_, i64_w, i32_w]
                 rfl
                refine pu_ 11 (some 73) (mk_ 13 4095) HT_.out ?_
                refine la_ 12 none (mk_ 13 8191) HT_.out fun K hK => ?_
                refine skip_ (w1 := ?_) (by rfl) rfl ?_ ?_
                rotate_left
                ·go_simp
                 rfl
                refine hK.out _ _ ?_
                clear hK K
                refine done_ (done_of HT_.out (by kernel_rfl)) ?_
                have n0_ : Aside0 (Kd.R k30 30 (w57.setCell ⟨go56, (((rd_T30 x8_1 x58_2).f0) : Int).toNat, none⟩ (.slice Ao60 y175.length co60)) w.heap.size (fun k_ => k_ ≠ gb173) (.slice (some ad172) x8_1.length co41) x8_1) := ⟨by refine kR_ ?_; exact Kd.R_mono (Kd.R_far (p := ⟨go56, (((rd_T30 x8_1 x58_2).f0) : Int).toNat, none⟩) (Kd.R_types HO_8.out GG58_.out (by decide)) (fun _ hk => hk.2) (.slice Ao60 y175.length co60)) (fun _ hk => hk.1)⟩
                have n1_ : Aside0 (Kd.R k30 30 (w57.setCell ⟨go56, (((rd_T30 x8_1 x58_2).f0) : Int).toNat, none⟩ (.slice Ao60 y175.length co60)) w.heap.size (fun k_ => k_ ≠ gb173) (.slice (some ad172) x8_1.length co41) x8_1) := ⟨by refine kR_ ?_; exact Kd.R_mono (Kd.R_far (p := ⟨go56, (((rd_T30 x8_1 x58_2).f0) : Int).toNat, none⟩) (Kd.R_types HO_56.out GG58_.out (by decide)) (fun _ hk => hk.2) (.slice Ao60 y175.length co60)) (fun _ hk => hk.1)⟩
                have n2_ : Aside0 (Kd.S (Kd.slice 30 k30) 34 (w57.setCell ⟨go56, (((rd_T30 x8_1 x58_2).f0) : Int).toNat, none⟩ (.slice Ao60 y175.length co60)) w.heap.size (fun k_ => some k_ ≠ (.slice (some ad172) x8_1.length co41 : Value).ownBlock ∧ some k_ ≠ (.slice (some ad172) x8_1.length co41 : Value).ownBlock ∧ k_ ≠ gb173) (.slice (some ⟨go56, 0, none⟩) x7_2.length co55) y178) := ⟨by refine kS_ ?_; exact HQ58.out⟩
                have n3_ : Aside0 ((w57.setCell ⟨go56, (((rd_T30 x8_1 x58_2).f0) : Int).toNat, none⟩ (.slice Ao60 y175.length co60)).heap[gb153]? = some (.cells #[.string a0_0, .slice A0_1 l0_1.length c0_1, .slice A0_2 l0_2.length c0_2] 25 (0, 0))) := ⟨by refine bk_ ?_; refine blk_far ?_ HNB153_go56.out _; refine bk_ ?_; exact BK153.out⟩
                have n4_ : Aside0 ((w57.setCell ⟨go56, (((rd_T30 x8_1 x58_2).f0) : Int).toNat, none⟩ (.slice Ao60 y175.length co60)).heap[gb173]? = some (.cells #[.int .i64 ((rd_T30 x8_1 x58_2).f0), .int .i64 ((rd_T30 x8_1 x58_2).f1)] 30 (0, 0))) := ⟨by refine bk_ ?_; refine blk_far ?_ HNB173_go56.out _; refine bk_ ?_; exact BK173.out⟩
                have n5_ : Aside0 (Below w.heap.size w (w57.setCell ⟨go56, (((rd_T30 x8_1 x58_2).f0) : Int).toNat, none⟩ (.slice Ao60 y175.length co60))) := ⟨bw3_ HB.out GB56.out GE153.out GE173.out⟩
                (try clear HB BK173 BK153 HO_7 HO_56 HO_8)
                generalize (w57.setCell ⟨go56, (((rd_T30 x8_1 x58_2).f0) : Int).toNat, none⟩ (.slice Ao60 y175.length co60)) = w61 at n0_ n1_ n2_ n3_ n4_ n5_ ⊢
                have HO_8 := n0_
                have HO_56 := n1_
                have HO_7 := n2_
                have BK153 := n3_
                have BK173 := n4_
                have HB := n5_
                clear n0_ n1_ n2_ n3_ n4_ n5_
                have hcz62_0 := cz_ BK173.out 0 (.int .i64 ((rd_T30 x8_1 x58_2).f0))
                have hcz62_1 := cz_ BK173.out 1 (.int .i64 ((rd_T30 x8_1 x58_2).f1))
                have hfz62_0 := fz_ BK173.out 0
                have hfz62_1 := fz_ BK173.out 1
                have p179 : 0 ≤ (((rd_T30 x8_1 x58_2).f0) : Int) := od_ as_
                have q179 : ((rd_T30 x8_1 x58_2).f0) < (y178.length : Int) := (by have h_ : (((rd_T30 x8_1 x58_2).f0) : Int) < ((x7_2.length : Int) : Int) := od_ as_; first | (have e_ := (Kd.S_reads' HO_7.out).1; omega) | simpa only [Ny178.out, List.length_set] using h_)
                have ql179 : ((((rd_T30 x8_1 x58_2).f0) : Int) < ((x7_2.length : Int) : Int)) = True := eq_true (od_ as_)
                obtain ⟨ad179, A179_0, c179_0, e179, hx179_0, hl179_0, hi179_0⟩ := at_L2 (Kd.S_reads' HO_7.out).2.2 ((rd_T30 x8_1 x58_2).f0) p179 q179
                obtain rfl : (⟨go56, 0, none⟩ : Addr) = ad179 := (by injection e179)
                obtain ⟨ce179, hce179, hMe179, hcc179⟩ := Kd.S_get HO_7.out [] ((rd_T30 x8_1 x58_2).f0) p179 (by first | exact q179 | exact od_ as_ | (have e_ := (Kd.S_reads' HO_7.out).1; omega))
                obtain ⟨ve179_0, rfl, ge179_0⟩ := hMe179
                have hv179_0 := hcc179 0 _ rfl
                rw [Nat.add_zero, show ((Kd.slice 30 k30)).sz = 1 from rfl, Nat.mul_one] at hv179_0
                replace hv179_0 := Option.some.inj (hv179_0.symm.trans hx179_0)
                rw [hv179_0] at ge179_0
                have HL179_0 := M_ (show Kd.R k30 30 _ _ _ _ (rd_L2 y178 ((rd_T30 x8_1 x58_2).f0)) from ge179_0)
                clear hv179_0 ge179_0
                have HX179_0 := M_ hx179_0
                clear hcc179 hce179
                (first | simp only [add_plain] at hx179_0 | simp only [add_at] at hx179_0 | simp only [Addr.add, Nat.zero_add] at hx179_0 | skip)
                have HR179_0 := M_ hi179_0
                have HC179_0 := M_ hl179_0
                clear hi179_0 hl179_0
                replace p179 := eq_true p179
                replace q179 := eq_true q179
                try go_wp2
                go_ret3
                exact ⟨_, rb_, by first | exact Kd.S_nil _ _ _ _ _ | exact Kd.N_nil _ _ _ _ _ | exact Kd.V_nil _ _ _ _ _ | exact Kd.Q_nil _ _ _ _ _ | exact Kd.R_nil _ _ _ _ _, bw2_ HB.out GE153.out GE173.out⟩
               ·rw [if_neg c49] at H
                have c49b0 : decide (20 < ((rd_L2 y178 ((rd_T30 x8_1 x58_2).f0)).length : Int)) = false := decide_eq_false c49
                have c49b1 : decide (20 < (rd_L2 y178 ((rd_T30 x8_1 x58_2).f0)).length) = false := decide_eq_false (by omega)
                clear c49
                have H' := M_ H
                clear H
                have p172 : 0 ≤ (x58_2 : Int) := od_ as_
                have q172 : x58_2 < (x8_1.length : Int) := od_ as_
                obtain ⟨ad172, e172, hx172_0, hx172_1⟩ := at_T30 (Kd.R_reads' HO_56.out).2.2 x58_2 p172 q172
                cases e172
                replace p172 := eq_true p172
                replace q172 := eq_true q172
                try go_wp2_with (first | ((with_reducible refine gate_dst (N := 14) rfl ?_); refine be_ 14 #[.int .i64 0, .int .i64 0] 30 ?_; intro gb173 hg w63 hbox hb; have z_ := t8_ (sB_ (Kd.S_elderB (kS_ HO_7.out) gb173 (Nat.le_of_eq hg.symm)) hb) (rB_ (Kd.R_elderB (kR_ HO_8.out) gb173 (Nat.le_of_eq hg.symm)) hb) (rB_ (Kd.R_elderB (kR_ HO_56.out) gb173 (Nat.le_of_eq hg.symm)) hb) (bB_ (bk_ BK153.out) hb) (bS_ (bw1_ HB.out GE153.out) hb) hbox (gv_ hg (bw1_ HB.out GE153.out) : w.heap.size ≤ gb173) (by rw [hg]; exact Nat.ne_of_lt (blk_lt (bk_ BK153.out)) : gb153 ≠ gb173); clear HO_56 HO_8 HO_7; (try clear BK153); clear HB; obtain ⟨HO_7, HO_8, HO_56, BK153, HB, BK173, GE173, NB153_173⟩ := z_; have NB173_153 := M_ NB153_173.out.symm; clear hb hbox hg; have hnb64 := NB173_153.out; have hnc64 := NB153_173.out; have hcz65_0 := cz_ BK173.out 0 (.int .i64 0); have hcz65_1 := cz_ BK173.out 1 (.int .i64 0); have hfz65_0 := fz_ BK173.out 0; have hfz65_1 := fz_ BK173.out 1))
                have n0_ : Aside0 (Kd.S (Kd.slice 30 k30) 34 ((w63.setCell ⟨gb173, 0, none⟩ (.int .i64 ((rd_T30 x8_1 x58_2).f0))).setCell ⟨gb173, 1, none⟩ (.int .i64 ((rd_T30 x8_1 x58_2).f1))) w.heap.size (fun k_ => some k_ ≠ (.slice (some ad172) x8_1.length co41 : Value).ownBlock ∧ some k_ ≠ (.slice (some ad172) x8_1.length co41 : Value).ownBlock ∧ k_ ≠ gb173) v156 x7_2) := ⟨by refine kS_ ?_; exact Kd.S_mono (Kd.S_far (p := ⟨gb173, 1, none⟩) (Kd.S_far (p := ⟨gb173, 0, none⟩) (Kd.S_mono HO_7.out (fun k_ hk => (⟨hk, hk.2⟩ : _ ∧ k_ ≠ gb173))) (fun _ hk => hk.2) (.int .i64 ((rd_T30 x8_1 x58_2).f0))) (fun _ hk => hk.2) (.int .i64 ((rd_T30 x8_1 x58_2).f1))) (fun _ hk => ⟨hk.1.1.1, ⟨hk.1.1.2, hk.1.2⟩⟩)⟩
                have n1_ : Aside0 (Kd.R k30 30 ((w63.setCell ⟨gb173, 0, none⟩ (.int .i64 ((rd_T30 x8_1 x58_2).f0))).setCell ⟨gb173, 1, none⟩ (.int .i64 ((rd_T30 x8_1 x58_2).f1))) w.heap.size (fun k_ => k_ ≠ gb173) (.slice (some ad172) x8_1.length co41) x8_1) := ⟨by refine kR_ ?_; exact Kd.R_mono (Kd.R_far (p := ⟨gb173, 1, none⟩) (Kd.R_far (p := ⟨gb173, 0, none⟩) (Kd.R_mono HO_8.out (fun k_ hk => (⟨hk, hk.2⟩ : _ ∧ k_ ≠ gb173))) (fun _ hk => hk.2) (.int .i64 ((rd_T30 x8_1 x58_2).f0))) (fun _ hk => hk.2) (.int .i64 ((rd_T30 x8_1 x58_2).f1))) (fun _ hk => hk.1.2)⟩
                have n2_ : Aside0 (Kd.R k30 30 ((w63.setCell ⟨gb173, 0, none⟩ (.int .i64 ((rd_T30 x8_1 x58_2).f0))).setCell ⟨gb173, 1, none⟩ (.int .i64 ((rd_T30 x8_1 x58_2).f1))) w.heap.size (fun k_ => k_ ≠ gb173) (.slice (some ad172) x8_1.length co41) x8_1) := ⟨by refine kR_ ?_; exact Kd.R_mono (Kd.R_far (p := ⟨gb173, 1, none⟩) (Kd.R_far (p := ⟨gb173, 0, none⟩) (Kd.R_mono HO_56.out (fun k_ hk => (⟨hk, hk.2⟩ : _ ∧ k_ ≠ gb173))) (fun _ hk => hk.2) (.int .i64 ((rd_T30 x8_1 x58_2).f0))) (fun _ hk => hk.2) (.int .i64 ((rd_T30 x8_1 x58_2).f1))) (fun _ hk => hk.1.2)⟩
                have n3_ : Aside0 (((w63.setCell ⟨gb173, 0, none⟩ (.int .i64 ((rd_T30 x8_1 x58_2).f0))).setCell ⟨gb173, 1, none⟩ (.int .i64 ((rd_T30 x8_1 x58_2).f1))).heap[gb153]? = some (.cells #[.string a0_0, .slice A0_1 l0_1.length c0_1, .slice A0_2 l0_2.length c0_2] 25 (0, 0))) := ⟨by refine bk_ ?_; refine blk_far ?_ NB153_173.out _; refine bk_ ?_; refine blk_far ?_ NB153_173.out _; refine bk_ ?_; exact BK153.out⟩
                have n4_ : Aside0 (((w63.setCell ⟨gb173, 0, none⟩ (.int .i64 ((rd_T30 x8_1 x58_2).f0))).setCell ⟨gb173, 1, none⟩ (.int .i64 ((rd_T30 x8_1 x58_2).f1))).heap[gb173]? = some (.cells #[.int .i64 ((rd_T30 x8_1 x58_2).f0), .int .i64 ((rd_T30 x8_1 x58_2).f1)] 30 (0, 0))) := ⟨by refine bk_ ?_; refine blk_put (cs := #[.int .i64 ((rd_T30 x8_1 x58_2).f0), .int .i64 0]) ?_ 1 _ rfl; refine bk_ ?_; refine blk_put (cs := #[.int .i64 0, .int .i64 0]) ?_ 0 _ rfl; refine bk_ ?_; exact BK173.out⟩
                have n5_ : Aside0 (Below w.heap.size w ((w63.setCell ⟨gb173, 0, none⟩ (.int .i64 ((rd_T30 x8_1 x58_2).f0))).setCell ⟨gb173, 1, none⟩ (.int .i64 ((rd_T30 x8_1 x58_2).f1)))) := ⟨bw2_ HB.out GE153.out GE173.out⟩
                (try clear HB BK173 BK153 HO_56 HO_8 HO_7)
                generalize ((w63.setCell ⟨gb173, 0, none⟩ (.int .i64 ((rd_T30 x8_1 x58_2).f0))).setCell ⟨gb173, 1, none⟩ (.int .i64 ((rd_T30 x8_1 x58_2).f1))) = w66 at n0_ n1_ n2_ n3_ n4_ n5_ ⊢
                have HO_7 := n0_
                have HO_8 := n1_
                have HO_56 := n2_
                have BK153 := n3_
                have BK173 := n4_
                have HB := n5_
                clear n0_ n1_ n2_ n3_ n4_ n5_
                have z_ := t6_ (Kd.S_drew HO_7.out) (Kd.R_drew HO_8.out) (Kd.R_drew HO_56.out) (blk_drew BK153.out) (blk_drew BK173.out) (below_drew1 HB.out)
                clear HO_56 HO_8 HO_7
                (try clear BK153)
                clear HB BK173
                obtain ⟨HO_7, HO_8, HO_56, BK153, BK173, HB⟩ := z_
                obtain ⟨Ao68, co68, eo68⟩ := Kd.S_slice HO_7.out
                (first | subst eo68 | (injection eo68 with f1_ f2_ f3_; have f4_ := f1_.symm; have f5_ := f3_.symm; clear f1_ f2_ f3_; subst f4_; subst f5_))
                have p174 : 0 ≤ (((rd_T30 x8_1 x58_2).f0) : Int) := od_ as_
                have q174 : ((rd_T30 x8_1 x58_2).f0) < (x7_2.length : Int) := od_ as_
                obtain ⟨ad174, A174_0, c174_0, e174, hx174_0, hl174_0, hi174_0⟩ := at_L2 (Kd.S_reads' HO_7.out).2.2 ((rd_T30 x8_1 x58_2).f0) p174 q174
                cases e174
                obtain ⟨ce174, hce174, hMe174, hcc174⟩ := Kd.S_get HO_7.out [] ((rd_T30 x8_1 x58_2).f0) p174 (by first | exact q174 | exact od_ as_ | (have e_ := (Kd.S_reads' HO_7.out).1; omega))
                obtain ⟨ve174_0, rfl, ge174_0⟩ := hMe174
                have hv174_0 := hcc174 0 _ rfl
                rw [Nat.add_zero, show ((Kd.slice 30 k30)).sz = 1 from rfl, Nat.mul_one] at hv174_0
                replace hv174_0 := Option.some.inj (hv174_0.symm.trans hx174_0)
                rw [hv174_0] at ge174_0
                have HL174_0 := M_ (show Kd.R k30 30 _ _ _ _ (rd_L2 x7_2 ((rd_T30 x8_1 x58_2).f0)) from ge174_0)
                clear hv174_0 ge174_0
                have HX174_0 := M_ hx174_0
                clear hcc174 hce174
                have HR174_0 := M_ hi174_0
                have HC174_0 := M_ hl174_0
                clear hi174_0 hl174_0
                replace p174 := eq_true p174
                replace q174 := eq_true q174
                obtain ⟨go69, co69, eo69, gb69, gl69, cl69, HG69⟩ := Kd.S_form HO_7.out (by have h_ : (((rd_T30 x8_1 x58_2).f0) : Int) < ((x7_2.length : Int) : Int) := od_ as_; have h2_ : 0 ≤ (((rd_T30 x8_1 x58_2).f0) : Int) := (od_ as_); omega)
                (first | cases eo69 | (injection eo69 with ea_ en_ ec_; (first | subst ea_ | (injection ea_ with ea_; subst ea_)); subst ec_; clear en_))
                have GB69 := M_ gb69
                have GG69 := M_ HG69
                clear gb69 gl69 HG69
                (first | simp only [add_plain] at hx174_0 | skip)
                obtain ⟨oki69, ce69, hcl69, hM69, hcc69, _, _, hH69⟩ := Kd.S_elem HO_7.out [] (((rd_T30 x8_1 x58_2).f0) : Int) (od_ as_) (by have h_ : (((rd_T30 x8_1 x58_2).f0) : Int) < ((x7_2.length : Int) : Int) := od_ as_; first | exact h_ | (have e_ := (Kd.S_reads' HO_7.out).1; omega) | simpa using h_)
                obtain ⟨ve69_0, rfl, ge69_0⟩ := hM69
                have hv69 := hcc69 0 _ rfl
                have hX69 := HX174_0.out
                (try simp only [add_plain] at hX69)
                (try simp only [Nat.add_zero] at hv69)
                (try rw [show ((Kd.slice 30 k30)).sz = 1 from rfl, Nat.mul_one] at hv69)
                replace hv69 := Option.some.inj (hv69.symm.trans hX69)
                subst hv69
                clear hX69 hcc69 hcl69
                have UU69 := M_ (show Kd.R k30 30 _ w.heap.size oki69 (.slice A174_0 (rd_L2 x7_2 ((rd_T30 x8_1 x58_2).f0)).length c174_0) (rd_L2 x7_2 ((rd_T30 x8_1 x58_2).f0)) from ge69_0)
                have HH69 := M_ hH69
                have HN69 := M_ (Kd.S_reads' HO_7.out).1
                clear hH69 ge69_0
                refine start_ (n := 13) (S := fun w' => w'.cell? ⟨gb173, 0, none⟩ = some (.int .i64 ((rd_T30 x8_1 x58_2).f0)) ∧ w'.cell? ⟨gb173, 1, none⟩ = some (.int .i64 ((rd_T30 x8_1 x58_2).f1)) ∧ w'.cell? ⟨go69, (((rd_T30 x8_1 x58_2).f0)).toNat, none⟩ = some (.slice A174_0 (rd_L2 x7_2 ((rd_T30 x8_1 x58_2).f0)).length c174_0)) (ds := [12]) (mk_ 13 0) (by kernel_rfl) rfl rfl ⟨(blk_cell BK173.out 0).trans rfl, (blk_cell BK173.out 1).trans rfl, hx174_0⟩ (fun hHeld => ?_); refine with_tabW impl_SweepMagazine.tab18 impl_SweepMagazine.bits18 (fun HT_ HW_ => ?_)
                generalize w66.drew = w67 at HO_7 HO_8 HO_56 BK153 BK173 HB GG69 HH69 HL174_0 HR174_0 HX174_0 UU69 hx174_0 hHeld ⊢
                refine pu_ 0 (some 62) (mk_ 13 1) HT_.out ?_
                refine pu_ 1 (some 63) (mk_ 13 3) HT_.out ?_
                refine pu_ 3 (some 65) (mk_ 13 11) HT_.out ?_
                refine pu_ 4 (some 66) (mk_ 13 27) HT_.out ?_
                refine ta_ 2 (some 64) (mk_ 13 31) HT_.out HW_.out hHeld (hy := by rintro w' ⟨s0, s1, s2⟩; go_simp; with_reducible rfl) (h := ?_)
                refine ta_ 5 (some 67) (mk_ 13 63) HT_.out HW_.out hHeld (hy := by rintro w' ⟨s0, s1, s2⟩; go_simp; with_reducible rfl) (h := ?_)
                refine pu_ 6 (some 68) (mk_ 13 127) HT_.out ?_
                refine ta_ 7 (some 69) (mk_ 13 255) HT_.out HW_.out hHeld (hy := by rintro w' ⟨s0, s1, s2⟩; go_simp; with_reducible rfl) (h := ?_)
                refine ta_ 8 (some 70) (mk_ 13 511) HT_.out HW_.out hHeld (hy := by rintro w' ⟨s0, s1, s2⟩; go_simp; with_reducible rfl) (h := ?_)
                refine on_ 9 (some 71) (mk_ 13 1023) HT_.out fun K hK => ?_
                refine value_ (w1 := ?_) (v := ?_) (by rfl) rfl ?_ ?_
                rotate_left 2
                ·go_simp
                 constructor
                 ·rfl
                 ·rfl
                refine hK.out _ _ ⟨(blk_cell (blk_alloc BK173.out _) 0).trans rfl, (blk_cell (blk_alloc BK173.out _) 1).trans rfl, (World.cell?_alloc_lt _ _ _ (World.block_lt_of_cell? _ _ (hHeld.2.2))).trans (hHeld.2.2)⟩ (fun hHeld => ?_)
                clear hK K
                refine norm_ (a' := ?_) ?_ ?_
                rotate_left
                ·show Act.put _ (some 71) _ = _
                 simp only [Act.put, lA_, lB_, lC_, i64_w, i32_w]
                 rfl
                refine on_ 10 (some 72) (mk_ 13 2047) HT_.out fun K hK => ?_
                refine Kd.R_append_step k30 (w0 := w) w.heap.size (by rfl) (.tmp 69) (.tmp 71) 34 30 (.agg #[(.int .i64 0), (.int .i64 0)]) 16 rfl Try.underlying34 info30 rfl (by decide) (by omega) (.slice A174_0 (rd_L2 x7_2 ((rd_T30 x8_1 x58_2).f0)).length c174_0) (rd_L2 x7_2 ((rd_T30 x8_1 x58_2).f0)) (⟨(rd_T30 x8_1 x58_2).f0, (rd_T30 x8_1 x58_2).f1⟩ : S30) [.int .i64 ((rd_T30 x8_1 x58_2).f0), .int .i64 ((rd_T30 x8_1 x58_2).f1)] (fun k_ => oki69 k_ ∨ ((fun k_ => some k_ ≠ (.slice (some ad172) x8_1.length co41 : Value).ownBlock ∧ some k_ ≠ (.slice (some ad172) x8_1.length co41 : Value).ownBlock ∧ k_ ≠ gb173)) k_ ∧ w67.heap.size ≤ k_) (fun _ => False) rfl rfl ?aP (fun _ hk => hk.elim) ?aF ?aO ?aB ?aS ?aL ?_
                (case aP => exact k30_mkM _ _ _ (⟨(rd_T30 x8_1 x58_2).f0, (rd_T30 x8_1 x58_2).f1⟩ : S30))
                (case aB => exact (bw2_ HB.out GE153.out GE173.out))
                (case aF => exact (fun k_ hk => .inr ⟨⟨Kd.fresh' (Kd.R_lt (kR_ HO_8.out)) k_ hk, Kd.fresh' (Kd.R_lt (kR_ HO_56.out)) k_ hk, Kd.freshB (g := gb173) (o := .cells #[.int .i64 ((rd_T30 x8_1 x58_2).f0), .int .i64 ((rd_T30 x8_1 x58_2).f1)] 30 (0, 0)) (bk_ BK173.out) k_ hk⟩, hk⟩))
                (case aO => exact (by refine kR_ ?_; exact Kd.R_mono UU69.out (fun _ hk => .inl hk)))
                (case aS => exact (below_size (bw2_ HB.out GE153.out GE173.out)))
                (case aL => have := LMc47.out; omega)
                intro v176 w70 ho hb hg hat
                (first | have HS2_ := cell_grown hg (hHeld.2.2) (by first | (rw [add_block]; exact (fun e_ => ((HL174_0.out.1 _ e_.symm).2) rfl)) | (show some (Addr.add _ _).block ≠ _; rw [add_block]; exact (fun e_ => ((HL174_0.out.1 _ e_.symm).2) rfl)) | exact (fun e_ => ((HL174_0.out.1 _ e_.symm).2) rfl)) | have HS2_ := cell_grown hg (cell_unalloc (hHeld.2.2) (by first | (rw [add_block]; exact Kd.S_lt HO_7.out _ rfl) | (show (Addr.add _ _).block < _; rw [add_block]; exact Kd.S_lt HO_7.out _ rfl) | exact Kd.S_lt HO_7.out _ rfl)) (by first | (rw [add_block]; exact (fun e_ => ((HL174_0.out.1 _ e_.symm).2) rfl)) | (show some (Addr.add _ _).block ≠ _; rw [add_block]; exact (fun e_ => ((HL174_0.out.1 _ e_.symm).2) rfl)) | exact (fun e_ => ((HL174_0.out.1 _ e_.symm).2) rfl)))
                rw [← Ny175.out] at ho
                have z_ := t7_ (Kd.R_grown2 (kR_ HO_8.out) rfl hg (fun k_ e_ => (HL174_0.out.1 k_ e_).1.1)) (Kd.R_grown2 (kR_ HO_56.out) rfl hg (fun k_ e_ => (HL174_0.out.1 k_ e_).1.2.1)) (blk_grown (g := gb153) (o := .cells #[.string a0_0, .slice A0_1 l0_1.length c0_1, .slice A0_2 l0_2.length c0_2] 25 (0, 0)) (bk_ BK153.out) hg (Kd.R_ne HL174_0.out BK153.out (by decide))) (blk_grown (g := gb173) (o := .cells #[.int .i64 ((rd_T30 x8_1 x58_2).f0), .int .i64 ((rd_T30 x8_1 x58_2).f1)] 30 (0, 0)) (bk_ BK173.out) hg (Kd.R_away HL174_0.out (fun _ hk => hk.1.2.2))) hb (Kd.H_grown (Kd.H_widen (by repeat (first | exact HH69.out | refine Kd.H_alloc ?_ _ | refine Kd.H_drewN ?_ _ | refine Kd.H_drew ?_))) hg (fun k_ e_ => .inl (UU69.out.1 k_ e_))) ho
                clear HO_56 HO_8
                (try clear BK153)
                clear HL174_0 UU69 HO_7 HH69 HB BK173
                obtain ⟨HO_8, HO_56, BK153, BK173, HB, HH69, HO177⟩ := z_
                clear ho hb hg hat
                have p48 : 0 ≤ (((rd_T30 x8_1 x58_2).f0) : Int) := od_ as_
                have q48 : (((rd_T30 x8_1 x58_2).f0) : Int) < ((x7_2.length : Int) : Int) := od_ as_
                replace p48 := eq_true p48
                replace q48 := eq_true q48
                obtain ⟨Ao73, co73, eo73⟩ := Kd.R_slice HO177.out
                (first | subst eo73 | (injection eo73 with f1_ f2_ f3_; have f4_ := f1_.symm; have f5_ := f3_.symm; clear f1_ f2_ f3_; subst f4_; subst f5_))
                obtain ⟨_, _, hraw71, _, _, hcc71, _⟩ := Kd.H_raw HH69.out (od_ as_) (by have h_ : (((rd_T30 x8_1 x58_2).f0) : Int) < ((x7_2.length : Int) : Int) := od_ as_; first | exact h_ | (have e_ := (HN69.out); omega) | simpa using h_)
                obtain ⟨_, hfr71⟩ := Kd.H_at HH69.out (od_ as_) (by have h_ : (((rd_T30 x8_1 x58_2).f0) : Int) < ((x7_2.length : Int) : Int) := od_ as_; first | exact h_ | (have e_ := (HN69.out); omega) | simpa using h_)
                have hx71_0 := hcc71 0 _ rfl
                have hf71_0 := hfr71 0
                (try simp only [Nat.add_zero] at hx71_0 hf71_0)
                (try rw [show ((Kd.slice 30 k30)).sz = 1 from rfl, Nat.mul_one] at hx71_0)
                (try rw [show ((Kd.slice 30 k30)).sz = 1 from rfl, Nat.mul_one] at hf71_0)
                have HP71 := Kd.S_seg0 HH69.out (od_ as_) (by have h_ : (((rd_T30 x8_1 x58_2).f0) : Int) < ((x7_2.length : Int) : Int) := od_ as_; first | exact h_ | (have e_ := (HN69.out); omega) | simpa using h_) (seg := [.slice Ao73 y175.length co73]) (j := 0) (show 1 ≤ 1 from by decide) (x' := y175) (Kd.M_row HO177.out) (fun _ hk => hk)
                (try simp only [show ((Kd.slice 30 k30)).sz = 1 from rfl, Nat.mul_one, Nat.add_zero] at HP71)
                clear hcc71 hfr71
                have HNB153_go69 := M_ (show gb153 ≠ go69 from by have h_ := Kd.R_ne hraw71 BK153.out (by decide); intro e_; exact h_ (by rw [e_]; rfl))
                have HNB173_go69 := M_ (show gb173 ≠ go69 from by have h_ := Kd.R_ne hraw71 BK173.out (by decide); intro e_; exact h_ (by rw [e_]; rfl))
                have HS71 := HP71.1
                rw [← Ny178.out] at HS71
                have HQ71 := M_ HS71
                obtain ⟨_, hgg71⟩ := Kd.R_typed hraw71 go69 rfl
                have GG71_ := M_ hgg71
                clear HP71 HS71 hgg71
                refine hK.out _ _ ⟨(blk_cell BK173.out 0).trans rfl, (blk_cell BK173.out 1).trans rfl, HS2_⟩ (fun hHeld => ?_)
                clear hK K
                refine norm_ (a' := ?_) ?_ ?_
                rotate_left
                ·show Act.put _ (some 72) _ = _
                 simp only [Act.put, lA_, lB_, lC_, i64_w, i32_w]
                 rfl
                refine pu_ 11 (some 73) (mk_ 13 4095) HT_.out ?_
                refine la_ 12 none (mk_ 13 8191) HT_.out fun K hK => ?_
                refine skip_ (w1 := ?_) (by rfl) rfl ?_ ?_
                rotate_left
                ·go_simp
                 rfl
                refine hK.out _ _ ?_
                clear hK K
                refine done_ (done_of HT_.out (by kernel_rfl)) ?_
                have n0_ : Aside0 (Kd.R k30 30 (w70.setCell ⟨go69, (((rd_T30 x8_1 x58_2).f0) : Int).toNat, none⟩ (.slice Ao73 y175.length co73)) w.heap.size (fun k_ => k_ ≠ gb173) (.slice (some ad172) x8_1.length co41) x8_1) := ⟨by refine kR_ ?_; exact Kd.R_mono (Kd.R_far (p := ⟨go69, (((rd_T30 x8_1 x58_2).f0) : Int).toNat, none⟩) (Kd.R_types HO_8.out GG71_.out (by decide)) (fun _ hk => hk.2) (.slice Ao73 y175.length co73)) (fun _ hk => hk.1)⟩
                have n1_ : Aside0 (Kd.R k30 30 (w70.setCell ⟨go69, (((rd_T30 x8_1 x58_2).f0) : Int).toNat, none⟩ (.slice Ao73 y175.length co73)) w.heap.size (fun k_ => k_ ≠ gb173) (.slice (some ad172) x8_1.length co41) x8_1) := ⟨by refine kR_ ?_; exact Kd.R_mono (Kd.R_far (p := ⟨go69, (((rd_T30 x8_1 x58_2).f0) : Int).toNat, none⟩) (Kd.R_types HO_56.out GG71_.out (by decide)) (fun _ hk => hk.2) (.slice Ao73 y175.length co73)) (fun _ hk => hk.1)⟩
                have n2_ : Aside0 (Kd.S (Kd.slice 30 k30) 34 (w70.setCell ⟨go69, (((rd_T30 x8_1 x58_2).f0) : Int).toNat, none⟩ (.slice Ao73 y175.length co73)) w.heap.size (fun k_ => some k_ ≠ (.slice (some ad172) x8_1.length co41 : Value).ownBlock ∧ some k_ ≠ (.slice (some ad172) x8_1.length co41 : Value).ownBlock ∧ k_ ≠ gb173) (.slice (some ⟨go69, 0, none⟩) x7_2.length co68) y178) := ⟨by refine kS_ ?_; exact HQ71.out⟩
                have n3_ : Aside0 ((w70.setCell ⟨go69, (((rd_T30 x8_1 x58_2).f0) : Int).toNat, none⟩ (.slice Ao73 y175.length co73)).heap[gb153]? = some (.cells #[.string a0_0, .slice A0_1 l0_1.length c0_1, .slice A0_2 l0_2.length c0_2] 25 (0, 0))) := ⟨by refine bk_ ?_; refine blk_far ?_ HNB153_go69.out _; refine bk_ ?_; exact BK153.out⟩
                have n4_ : Aside0 ((w70.setCell ⟨go69, (((rd_T30 x8_1 x58_2).f0) : Int).toNat, none⟩ (.slice Ao73 y175.length co73)).heap[gb173]? = some (.cells #[.int .i64 ((rd_T30 x8_1 x58_2).f0), .int .i64 ((rd_T30 x8_1 x58_2).f1)] 30 (0, 0))) := ⟨by refine bk_ ?_; refine blk_far ?_ HNB173_go69.out _; refine bk_ ?_; exact BK173.out⟩
                have n5_ : Aside0 (Below w.heap.size w (w70.setCell ⟨go69, (((rd_T30 x8_1 x58_2).f0) : Int).toNat, none⟩ (.slice Ao73 y175.length co73))) := ⟨bw3_ HB.out GB69.out GE153.out GE173.out⟩
                (try clear HB BK173 BK153 HO_7 HO_56 HO_8)
                generalize (w70.setCell ⟨go69, (((rd_T30 x8_1 x58_2).f0) : Int).toNat, none⟩ (.slice Ao73 y175.length co73)) = w74 at n0_ n1_ n2_ n3_ n4_ n5_ ⊢
                have HO_8 := n0_
                have HO_56 := n1_
                have HO_7 := n2_
                have BK153 := n3_
                have BK173 := n4_
                have HB := n5_
                clear n0_ n1_ n2_ n3_ n4_ n5_
                have hcz75_0 := cz_ BK173.out 0 (.int .i64 ((rd_T30 x8_1 x58_2).f0))
                have hcz75_1 := cz_ BK173.out 1 (.int .i64 ((rd_T30 x8_1 x58_2).f1))
                have hfz75_0 := fz_ BK173.out 0
                have hfz75_1 := fz_ BK173.out 1
                have p179 : 0 ≤ (((rd_T30 x8_1 x58_2).f0) : Int) := od_ as_
                have q179 : ((rd_T30 x8_1 x58_2).f0) < (y178.length : Int) := (by have h_ : (((rd_T30 x8_1 x58_2).f0) : Int) < ((x7_2.length : Int) : Int) := od_ as_; first | (have e_ := (Kd.S_reads' HO_7.out).1; omega) | simpa only [Ny178.out, List.length_set] using h_)
                have ql179 : ((((rd_T30 x8_1 x58_2).f0) : Int) < ((x7_2.length : Int) : Int)) = True := eq_true (od_ as_)
                obtain ⟨ad179, A179_0, c179_0, e179, hx179_0, hl179_0, hi179_0⟩ := at_L2 (Kd.S_reads' HO_7.out).2.2 ((rd_T30 x8_1 x58_2).f0) p179 q179
                obtain rfl : (⟨go69, 0, none⟩ : Addr) = ad179 := (by injection e179)
                obtain ⟨ce179, hce179, hMe179, hcc179⟩ := Kd.S_get HO_7.out [] ((rd_T30 x8_1 x58_2).f0) p179 (by first | exact q179 | exact od_ as_ | (have e_ := (Kd.S_reads' HO_7.out).1; omega))
                obtain ⟨ve179_0, rfl, ge179_0⟩ := hMe179
                have hv179_0 := hcc179 0 _ rfl
                rw [Nat.add_zero, show ((Kd.slice 30 k30)).sz = 1 from rfl, Nat.mul_one] at hv179_0
                replace hv179_0 := Option.some.inj (hv179_0.symm.trans hx179_0)
                rw [hv179_0] at ge179_0
                have HL179_0 := M_ (show Kd.R k30 30 _ _ _ _ (rd_L2 y178 ((rd_T30 x8_1 x58_2).f0)) from ge179_0)
                clear hv179_0 ge179_0
                have HX179_0 := M_ hx179_0
                clear hcc179 hce179
                (first | simp only [add_plain] at hx179_0 | simp only [add_at] at hx179_0 | simp only [Addr.add, Nat.zero_add] at hx179_0 | skip)
                have HR179_0 := M_ hi179_0
                have HC179_0 := M_ hl179_0
                clear hi179_0 hl179_0
                replace p179 := eq_true p179
                replace q179 := eq_true q179
                try go_wp2
                go_roundg k2
                case measure => have := HK1.out; have := HK2.out; omega
                case rel => exact ⟨(y178), (wrap64 (x58_2 + 1)), (by first | rfl | (simp; done) | (simp [*]; done)), H', ⟨by have := HK1.out; have := HK2.out; omega⟩, ⟨by refine kS_ ?_; exact Kd.S_mono HO_7.out (fun _ hk => ⟨hk.1, hk.2.1⟩)⟩, ⟨by refine kR_ ?_; exact Kd.R_mono HO_8.out (fun _ hk => trivial)⟩, ⟨by refine kR_ ?_; exact Kd.R_mono HO_56.out (fun _ hk => trivial)⟩, ⟨by refine bk_ ?_; exact BK153.out⟩, ⟨bw2_ HB.out GE153.out GE173.out⟩⟩
              ·rw [if_neg c47] at H
               exact absurd H (by simp)
             ·rw [if_neg c46] at H
              exact absurd H (by simp)
            ·rw [if_neg c45] at H
             exact absurd H (by simp)
           ·rw [if_neg c44] at H
            exact absurd H (by simp)
          ·rw [if_neg c43] at H
           exact absurd H (by simp)
         ·rw [if_neg c42] at H
          have c42b0 := decide_eq_false c42
          clear c42
          simp only [Option.some.injEq, Prod.mk.injEq] at H
          obtain ⟨rfl, rfl, rfl⟩ := H
          go_wp2
          go_ret3
          exact ⟨_, rb_, by refine kS_ ?_; exact Kd.S_mono HO_7.out (fun _ hk => trivial), bw1_ HB.out GE153.out⟩
   ·rw [if_neg c6] at H
    exact absurd H (by simp)
  ·rw [if_neg c5] at H
   exact absurd H (by simp)
 ·replace c4 := Bool.eq_false_iff.mpr c4
  subst c4
  rw [if_neg (show ¬ (false = true) by decide)] at H
  simp only [Option.some.injEq, Prod.mk.injEq] at H
  obtain ⟨rfl, rfl, rfl⟩ := H
  go_enter Try.func66, Try.ntmps66
  go_wp2_with (first | ((with_reducible refine gate_dst (N := 2) rfl ?_); refine be_ 2 #[.string a0_0, .slice A0_1 l0_1.length c0_1, .slice A0_2 l0_2.length c0_2] 25 ?_; intro gb153 hg w76 hbox hb; have z_ := t3_ (bS_ (bw0_ HB.out) hb) hbox (gv_ hg (bw0_ HB.out) : w.heap.size ≤ gb153); clear HB; obtain ⟨HB, BK153, GE153⟩ := z_; clear hb hbox hg; have hcz77_0 := cz_ BK153.out 0 (.string a0_0); have hcz77_1 := cz_ BK153.out 1 (.slice A0_1 l0_1.length c0_1); have hcz77_2 := cz_ BK153.out 2 (.slice A0_2 l0_2.length c0_2); have hfz77_0 := fz_ BK153.out 0; have hfz77_1 := fz_ BK153.out 1; have hfz77_2 := fz_ BK153.out 2) | ((with_reducible refine gate_callee (f := 44) rfl ?_); refine gl_ (some 17) Try.func44 #[.agg #[.string a0_0, .slice A0_1 l0_1.length c0_1, .slice A0_2 l0_2.length c0_2], .slice A1 l1.length c1] ?_; (with_reducible refine (impl_MagazineOk.calls k a0_0 _ _ l0_1 _ _ l0_2 _ _ l1 false _ ?side1 ?side2 ?side3 ?side4 ?side5 ?side6 A3.out).mono ?_); (case side1 => exact kC_ HR0_1.out HB.out); (case side2 => exact HC0_1.out); (case side3 => exact kC_ HR0_2.out HB.out); (case side4 => exact HC0_2.out); (case side5 => exact kC_ HR1.out HB.out); (case side6 => exact HC1.out); rintro e w78 ⟨rfl, hb⟩; refine ⟨_, rfl, ?_⟩; have n1_ := M_ (bS_ (bw1_ HB.out GE153.out) hb); (try clear BK153); clear HB; have HB := n1_; clear n1_; (try clear hb)))
  go_ret3
  exact ⟨_, rb_, by first | exact Kd.S_nil _ _ _ _ _ | exact Kd.N_nil _ _ _ _ _ | exact Kd.V_nil _ _ _ _ _ | exact Kd.Q_nil _ _ _ _ _ | exact Kd.R_nil _ _ _ _ _, bw1_ HB.out GE153.out⟩

end Go.Proofs.Ytilbngklgjjblaa.Q
