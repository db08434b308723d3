/- Contracts of Go functions over this translation: each call returns what the Lean function of the same name gives, and writes into no memory that was there. Written by a program of this claim's author (mp.py) over the kit's print. Conditions: those that each theorem names. -/
import Derived.Test.YtilbngklgjjblaaQ0
import Derived.Test.YtilbngklgjjblaaQ12
namespace Go.Proofs.Ytilbngklgjjblaa.Q
open Go.RowKit Go.Proofs.YtilbngklgjjblaaW.PrintWords Go.Proofs.YtilbngklgjjblaaW.PrintLast Go.Proofs.YtilbngklgjjblaaW.PrintMore
attribute [local go_sem] max2_int min2_int max_two min_two max_three min_three max_four min_four   -- for this text's walks alone
set_option linter.unusedVariables false
set_option linter.unusedSimpArgs false

/-! ### impl_SweepMagazine: function 66 -/
mutual
def impl_SweepMagazine.l0 : Nat → List (List (S30)) → List (S30) → List (List (S30)) → Int → Int → Option ((List (List (S30))) × Int × Bool)
  | 0, _, _, _, _, _ => none
  | k + 1, x7, x8, x23, x24, x25 => if x25 < x24 then (if 0 ≤ x25 then (if x25 < (x23.length : Int) then (impl_SweepMagazine.l1 k x7 x8 x25 x23 x24 x25 (rd_L4 x23 x25) ((rd_L4 x23 x25).length : Int) 0) else (none)) else (none)) else (impl_SweepMagazine.l2 k x7 x8 x8 (x8.length : Int) 0)
def impl_SweepMagazine.l1 : Nat → List (List (S30)) → List (S30) → Int → List (List (S30)) → Int → Int → List (S30) → Int → Int → Option ((List (List (S30))) × Int × Bool)
  | 0, _, _, _, _, _, _, _, _, _ => none
  | k + 1, x7, x8, x9, x23, x24, x25, x30, x31, x32 => if x32 < x31 then (if 0 ≤ x32 then (if x32 < (x30.length : Int) then (if ((rd_T30 x30 x32).f0) = x9 then (if 0 ≤ x9 then (if x9 < (x7.length : Int) then (if (rd_L4 x7 x9).length < 8796093022208 then (impl_SweepMagazine.l1 k (x7.set (x9 : Int).toNat ((rd_L4 x7 x9) ++ [(⟨(rd_T30 x30 x32).f0, (rd_T30 x30 x32).f1⟩ : S30)])) x8 x9 x23 x24 x25 x30 x31 (wrap64 (x32 + 1))) else (none)) else (none)) else (none)) else (if x8.length < 8796093022208 then (impl_SweepMagazine.l1 k x7 (x8 ++ [(⟨(rd_T30 x30 x32).f0, (rd_T30 x30 x32).f1⟩ : S30)]) x9 x23 x24 x25 x30 x31 (wrap64 (x32 + 1))) else (none))) else (none)) else (none)) else (impl_SweepMagazine.l0 k x7 x8 x23 x24 (wrap64 (x25 + 1)))
def impl_SweepMagazine.l2 : Nat → List (List (S30)) → List (S30) → List (S30) → Int → Int → Option ((List (List (S30))) × Int × Bool)
  | 0, _, _, _, _, _ => none
  | k + 1, x7, x8, x56, x57, x58 => if x58 < x57 then (if 0 ≤ x58 then (if x58 < (x56.length : Int) then (if 0 ≤ ((rd_T30 x56 x58).f0) then (if ((rd_T30 x56 x58).f0) < (x7.length : Int) then (if (rd_L4 x7 ((rd_T30 x56 x58).f0)).length < 8796093022208 then ((some (x7.set (((rd_T30 x56 x58).f0) : Int).toNat ((rd_L4 x7 ((rd_T30 x56 x58).f0)) ++ [(⟨(rd_T30 x56 x58).f0, (rd_T30 x56 x58).f1⟩ : S30)]) : List (List (S30)))).bind fun y256 => (if ((rd_L4 y256 ((rd_T30 x56 x58).f0)).length : Int) > 20 then (some (([] : List (List (S30))), 0, false)) else (impl_SweepMagazine.l2 k y256 x8 x56 x57 (wrap64 (x58 + 1))))) else (none)) else (none)) else (none)) else (none)) else (none)) else (some (x7, (x8.length : Int), true))
end
def impl_SweepMagazine.f (k : Nat) (a0_0 : ByteArray) (l0_1 : List Int) (l0_2 : List Int) (l1 : List (List (S30))) : Option ((List (List (S30))) × Int × Bool) := (impl_MagazineOk.f k a0_0 l0_1 l0_2 l1).bind fun t232 => (if t232 = true then (if 0 ≤ (l1.length : Int) then (if ((l1.length : Int) : Int).toNat ≤ 11728124029610 then (impl_SweepMagazine.l0 k (List.replicate ((l1.length : Int) : Int).toNat []) (([] : List (S30))) l1 (l1.length : Int) 0) else (none)) else (none)) else (some (([] : List (List (S30))), 0, false)))
theorem impl_SweepMagazine.mono_l : ∀ k, (∀ y0 y1 y2 y3 y4, LeO (impl_SweepMagazine.l0 k y0 y1 y2 y3 y4) (impl_SweepMagazine.l0 (k + 1) y0 y1 y2 y3 y4)) ∧ (∀ y0 y1 y2 y3 y4 y5 y6 y7 y8, LeO (impl_SweepMagazine.l1 k y0 y1 y2 y3 y4 y5 y6 y7 y8) (impl_SweepMagazine.l1 (k + 1) y0 y1 y2 y3 y4 y5 y6 y7 y8)) ∧ (∀ y0 y1 y2 y3 y4, LeO (impl_SweepMagazine.l2 k y0 y1 y2 y3 y4) (impl_SweepMagazine.l2 (k + 1) y0 y1 y2 y3 y4))
  | 0 => ⟨fun _ _ _ _ _ r h => by simp [impl_SweepMagazine.l0] at h, fun _ _ _ _ _ _ _ _ _ r h => by simp [impl_SweepMagazine.l1] at h, fun _ _ _ _ _ r h => by simp [impl_SweepMagazine.l2] at h⟩
  | k + 1 => by
    obtain ⟨ih0, ih1, ih2⟩ := impl_SweepMagazine.mono_l k
    refine ⟨?_, ?_, ?_⟩
    · intro y0 y1 y2 y3 y4
      unfold impl_SweepMagazine.l0
      repeat' first
      | (with_reducible exact ih0 _ _ _ _ _)
      | (with_reducible exact ih1 _ _ _ _ _ _ _ _ _)
      | (with_reducible exact ih2 _ _ _ _ _)
      | (with_reducible exact impl_MagazineOk.mono _ _ _ _ _)
      | (with_reducible exact LeO.refl _)
      | (with_reducible exact LeO.none _)
      | (with_reducible refine LeO.ite ?_ ?_)
      | (with_reducible refine LeO.bind ?_ (fun _ => ?_))
      | exact ih0 _ _ _ _ _
      | exact ih1 _ _ _ _ _ _ _ _ _
      | exact ih2 _ _ _ _ _
      | exact impl_MagazineOk.mono _ _ _ _ _
      | exact LeO.none _
      | refine LeO.ite ?_ ?_
      | refine LeO.bind ?_ (fun _ => ?_)
    · intro y0 y1 y2 y3 y4 y5 y6 y7 y8
      unfold impl_SweepMagazine.l1
      repeat' first
      | (with_reducible exact ih0 _ _ _ _ _)
      | (with_reducible exact ih1 _ _ _ _ _ _ _ _ _)
      | (with_reducible exact ih2 _ _ _ _ _)
      | (with_reducible exact impl_MagazineOk.mono _ _ _ _ _)
      | (with_reducible exact LeO.refl _)
      | (with_reducible exact LeO.none _)
      | (with_reducible refine LeO.ite ?_ ?_)
      | (with_reducible refine LeO.bind ?_ (fun _ => ?_))
      | exact ih0 _ _ _ _ _
      | exact ih1 _ _ _ _ _ _ _ _ _
      | exact ih2 _ _ _ _ _
      | exact impl_MagazineOk.mono _ _ _ _ _
      | exact LeO.none _
      | refine LeO.ite ?_ ?_
      | refine LeO.bind ?_ (fun _ => ?_)
    · intro y0 y1 y2 y3 y4
      unfold impl_SweepMagazine.l2
      repeat' first
      | (with_reducible exact ih0 _ _ _ _ _)
      | (with_reducible exact ih1 _ _ _ _ _ _ _ _ _)
      | (with_reducible exact ih2 _ _ _ _ _)
      | (with_reducible exact impl_MagazineOk.mono _ _ _ _ _)
      | (with_reducible exact LeO.refl _)
      | (with_reducible exact LeO.none _)
      | (with_reducible refine LeO.ite ?_ ?_)
      | (with_reducible refine LeO.bind ?_ (fun _ => ?_))
      | exact ih0 _ _ _ _ _
      | exact ih1 _ _ _ _ _ _ _ _ _
      | exact ih2 _ _ _ _ _
      | exact impl_MagazineOk.mono _ _ _ _ _
      | exact LeO.none _
      | refine LeO.ite ?_ ?_
      | refine LeO.bind ?_ (fun _ => ?_)
theorem impl_SweepMagazine.mono : ∀ a0 a1 a2 a3 k, LeO (impl_SweepMagazine.f k a0 a1 a2 a3) (impl_SweepMagazine.f (k + 1) a0 a1 a2 a3) := by
  intro a0 a1 a2 a3 k
  obtain ⟨ih0, ih1, ih2⟩ := impl_SweepMagazine.mono_l k
  unfold impl_SweepMagazine.f
  repeat' first
      | (with_reducible exact ih0 _ _ _ _ _)
      | (with_reducible exact ih1 _ _ _ _ _ _ _ _ _)
      | (with_reducible exact ih2 _ _ _ _ _)
      | (with_reducible exact impl_MagazineOk.mono _ _ _ _ _)
      | (with_reducible exact LeO.refl _)
      | (with_reducible exact LeO.none _)
      | (with_reducible refine LeO.ite ?_ ?_)
      | (with_reducible refine LeO.bind ?_ (fun _ => ?_))
      | exact ih0 _ _ _ _ _
      | exact ih1 _ _ _ _ _ _ _ _ _
      | exact ih2 _ _ _ _ _
      | exact impl_MagazineOk.mono _ _ _ _ _
      | exact LeO.none _
      | refine LeO.ite ?_ ?_
      | refine LeO.bind ?_ (fun _ => ?_)
def impl_SweepMagazine.T11 : Bool × List (List Nat × List Nat) := (true, [([], []), ([], []), ([], []), ([], []), ([2, 3], [2, 3]), ([4], [4]), ([], []), ([6], [6]), ([5, 7], [5, 7]), ([0, 1, 0, 1, 2, 3, 4, 5, 6, 7, 8], [0, 1]), ([9, 8, 8, 0, 1, 2, 3, 4, 5, 6, 7, 8], [8, 9])])
def impl_SweepMagazine.B11 : List Nat := [0, 0, 0, 0, 12, 28, 0, 64, 252, 511, 1023]
theorem impl_SweepMagazine.tab11 : rtab .any (opsOf Try.f66 11) = impl_SweepMagazine.T11 := by kernel_rfl
theorem impl_SweepMagazine.bits11 : waitsOk impl_SweepMagazine.T11.2 impl_SweepMagazine.B11 = true := by kernel_rfl
def impl_SweepMagazine.T18 : Bool × List (List Nat × List Nat) := (true, [([], []), ([], []), ([1], [1]), ([], []), ([], []), ([4], [4]), ([3, 5], [3, 5]), ([6], [6]), ([], []), ([8], [8]), ([7, 9], [7, 9]), ([0, 2, 0, 1, 2, 3, 4, 5, 6, 7, 8, 9, 10], [0, 2]), ([11, 10, 10, 0, 1, 2, 3, 4, 5, 6, 7, 8, 9, 10], [10, 11])])
def impl_SweepMagazine.B18 : List Nat := [0, 0, 2, 0, 0, 16, 56, 120, 0, 256, 1016, 2047, 4095]
theorem impl_SweepMagazine.tab18 : rtab .any (opsOf Try.f66 18) = impl_SweepMagazine.T18 := by kernel_rfl
theorem impl_SweepMagazine.bits18 : waitsOk impl_SweepMagazine.T18.2 impl_SweepMagazine.B18 = true := by kernel_rfl
set_option maxHeartbeats 8000000 in
set_option maxRecDepth 100000 in
theorem impl_SweepMagazine.calls (k : Nat) (a0_0 : ByteArray) (A0_1 : Option Addr) (c0_1 : Nat) (l0_1 : List Int) (A0_2 : Option Addr) (c0_2 : Nat) (l0_2 : List Int) (A1 : Option Addr) (c1 : Nat) (l1 : List (List (S30))) (r1 : List (List (S30))) (r2 : Int) (r3 : Bool) (w : World) (hr0_1 : Kd.C (Kd.int .i64) w A0_1 l0_1.length l0_1) (hc0_1 : l0_1.length ≤ c0_1) (hr0_2 : Kd.C (Kd.int .i64) w A0_2 l0_2.length l0_2) (hc0_2 : l0_2.length ≤ c0_2) (hr1 : Kd.C (Kd.slice 30 k30) w A1 l1.length l1) (hc1 : l1.length ≤ c1) (h : impl_SweepMagazine.f k a0_0 l0_1 l0_2 l1 = some (r1, r2, r3)) :
    Calls Try.prog 66 #[.agg #[.string a0_0, .slice A0_1 l0_1.length c0_1, .slice A0_2 l0_2.length c0_2], .slice A1 l1.length c1] w fun e w' => ∃ v0_ : Value, e = .returned (.tuple #[v0_, .int .i64 r2, .bool r3]) ∧ Kd.S (Kd.slice 30 k30) 34 w' w.heap.size (fun _ => True) v0_ r1 ∧ Below w.heap.size w w' := by
  have hu25 := Try.underlying25
  have hu30 := Try.underlying30
  have HR0_1 := Aside0.mk hr0_1
  have HC0_1 := Aside0.mk hc0_1
  clear hr0_1 hc0_1
  have HR0_2 := Aside0.mk hr0_2
  have HC0_2 := Aside0.mk hc0_2
  clear hr0_2 hc0_2
  have HR1 := Aside0.mk hr1
  have HC1 := Aside0.mk hc1
  clear hr1 hc1
  have HB := Aside0.mk (Below.refl w.heap.size w)
  have H : ((impl_MagazineOk.f k a0_0 l0_1 l0_2 l1).bind fun t232 => (if t232 = true then (if 0 ≤ (l1.length : Int) then (if ((l1.length : Int) : Int).toNat ≤ 11728124029610 then (impl_SweepMagazine.l0 k (List.replicate ((l1.length : Int) : Int).toNat []) (([] : List (S30))) l1 (l1.length : Int) 0) else (none)) else (none)) else (some (([] : List (List (S30))), 0, false)))) = some (r1, r2, r3) := h
  clear h
  replace H := Option.bind_eq_some_iff.mp H
  obtain ⟨t232, A30, H⟩ := H
  replace H : (if t232 = true then (if 0 ≤ (l1.length : Int) then (if ((l1.length : Int) : Int).toNat ≤ 11728124029610 then (impl_SweepMagazine.l0 k (List.replicate ((l1.length : Int) : Int).toNat []) (([] : List (S30))) l1 (l1.length : Int) 0) else (none)) else (none)) else (some (([] : List (List (S30))), 0, false))) = some (r1, r2, r3) := H
  have A3 := Aside0.mk A30
  clear A30
  by_cases c4 : t232 = true
  · subst c4
    have H1 : (if 0 ≤ (l1.length : Int) then (if ((l1.length : Int) : Int).toNat ≤ 11728124029610 then (impl_SweepMagazine.l0 k (List.replicate ((l1.length : Int) : Int).toNat []) (([] : List (S30))) l1 (l1.length : Int) 0) else (none)) else (none)) = some (r1, r2, r3) := by rw [if_pos rfl] at H; exact H
    clear H
    have H := H1
    clear H1
    by_cases c5 : 0 ≤ (l1.length : Int)
    · rw [if_pos c5] at H
      have c5b0 := eq_true c5
      have c5b1 : decide (0 ≤ (l1.length : Int)) = true := decide_eq_true c5
      clear c5
      by_cases c6 : ((l1.length : Int) : Int).toNat ≤ 11728124029610
      · rw [if_pos c6] at H
        have c6b0 := eq_true c6
        have c6b1 : decide (((l1.length : Int) : Int).toNat ≤ 11728124029610) = true := decide_eq_true c6
        clear c6
        obtain ⟨y233, hy233⟩ : ∃ y_ : List (List (S30)), y_ = (List.replicate ((l1.length : Int) : Int).toNat []) := ⟨_, rfl⟩
        replace H : (impl_SweepMagazine.l0 k y233 (([] : List (S30))) l1 (l1.length : Int) 0) = some (r1, r2, r3) := by first | (rw [hy233]; with_reducible exact H) | (have H2_ := (Option.bind_some _ _).symm.trans H; rw [hy233]; with_reducible exact H2_) | (have H2_ := (Option.bind_some _ _).symm.trans H; with_reducible exact H2_) | with_reducible exact H | (rw [hy233]; exact H) | exact H
        have Ny233 := Aside0.mk hy233
        clear hy233
        obtain ⟨y236, hy236⟩ : ∃ y_ : List (S30), y_ = (([] : List (S30))) := ⟨_, rfl⟩
        replace H : (impl_SweepMagazine.l0 k y233 y236 l1 (l1.length : Int) 0) = some (r1, r2, r3) := by first | (rw [hy236]; with_reducible exact H) | (have H2_ := (Option.bind_some _ _).symm.trans H; rw [hy236]; with_reducible exact H2_) | (have H2_ := (Option.bind_some _ _).symm.trans H; with_reducible exact H2_) | with_reducible exact H | (rw [hy236]; exact H) | exact H
        have Ny236 := Aside0.mk hy236
        clear hy236
        have H' := Aside0.mk H
        clear H
        go_enter Try.func66, Try.ntmps66
        go_wp2_with (first | ((with_reducible refine gate_dst (N := 2) rfl ?_); refine box_event ?hg (N := 2) ?hd (cs := #[.string a0_0, .slice A0_1 l0_1.length c0_1, .slice A0_2 l0_2.length c0_2]) (t := 25) ?hr ?_; (case hd => rfl); (case hg => rfl); (case hr => first | (go_simp; done) | (go_simp; rfl)); intro gb231 hg w7 hbox hb; have n0_ := Aside0.mk (below_step (by repeat (first | (with_reducible first | exact HB.out | apply below_alloc | apply pw_below_drewN | apply below_drew1) | exact HB.out)) hb); have n1_ := Aside0.mk (hbox); have n2_ := Aside0.mk ((by rw [hg]; exact (below_size (by repeat (first | (with_reducible first | exact HB.out | apply below_alloc | apply pw_below_drewN | apply below_drew1) | exact HB.out))) : w.heap.size ≤ gb231)); have n3_ := Aside0.mk ((by rw [hg]; exact (below_size (by repeat (first | (with_reducible first | exact HB.out | apply below_alloc | apply pw_below_drewN | apply below_drew1) | exact HB.out))) : w.heap.size ≤ gb231)); clear HB; have HB := n0_; have BK231 := n1_; have GW231 := n2_; have GE231 := n3_; clear n0_ n1_ n2_ n3_; clear hb hbox hg; have hcz8_0 : w7.cell? ⟨gb231, 0, none⟩ = some (.string a0_0) := (blk_cell BK231.out 0).trans rfl; have hcz8_1 : w7.cell? ⟨gb231, 1, none⟩ = some (.slice A0_1 l0_1.length c0_1) := (blk_cell BK231.out 1).trans rfl; have hcz8_2 : w7.cell? ⟨gb231, 2, none⟩ = some (.slice A0_2 l0_2.length c0_2) := (blk_cell BK231.out 2).trans rfl; have hfz8_0 := blk_frozen BK231.out 0; have hfz8_1 := blk_frozen BK231.out 1; have hfz8_2 := blk_frozen BK231.out 2) | ((with_reducible refine gate_callee (f := 44) rfl ?_); refine goesL_ (some 17) rfl rfl Try.func44 (by kernel_rfl) rfl #[.agg #[.string a0_0, .slice A0_1 l0_1.length c0_1, .slice A0_2 l0_2.length c0_2], .slice A1 l1.length c1] rfl (by (try simp only [List.map_toArray, List.map_cons, List.map_nil]); first | done | rfl | (simp only [List.length_drop, List.length_take]; rfl)) ?_; (with_reducible refine (impl_MagazineOk.calls k a0_0 _ _ l0_1 _ _ l0_2 _ _ l1 true _ ?side1 ?side2 ?side3 ?side4 ?side5 ?side6 A3.out).mono ?_); (case side1 => repeat (first | exact (Kd.C_below HR0_1.out HB.out) | (with_reducible refine Kd.C_alloc ?_ _) | (with_reducible refine Kd.C_drewN ?_ _) | (with_reducible refine Kd.C_drew ?_))); (case side2 => exact HC0_1.out); (case side3 => repeat (first | exact (Kd.C_below HR0_2.out HB.out) | (with_reducible refine Kd.C_alloc ?_ _) | (with_reducible refine Kd.C_drewN ?_ _) | (with_reducible refine Kd.C_drew ?_))); (case side4 => exact HC0_2.out); (case side5 => repeat (first | exact (Kd.C_below HR1.out HB.out) | (with_reducible refine Kd.C_alloc ?_ _) | (with_reducible refine Kd.C_drewN ?_ _) | (with_reducible refine Kd.C_drew ?_))); (case side6 => exact HC1.out); rintro e w9 ⟨rfl, hb⟩; refine ⟨_, rfl, ?_⟩; have n0_ := Aside0.mk (blk_below (g := gb231) (o := .cells #[.string a0_0, .slice A0_1 l0_1.length c0_1, .slice A0_2 l0_2.length c0_2] 25 (0, 0)) (by (with_reducible repeat (first | refine blk_drewN ?_ _ | refine blk_drew ?_ | refine blk_alloc ?_ _)); exact BK231.out) hb); have n1_ := Aside0.mk (below_step (by repeat (first | (with_reducible first | exact HB.out | apply below_alloc | apply pw_below_drewN | apply below_drew1 | refine below_set ?_ GE231.out) | exact HB.out)) hb); clear BK231; clear HB; have BK231 := n0_; have HB := n1_; clear n0_ n1_; (try clear hb); (try clear hb2); (try clear hk); (try clear hi)) | ((with_reducible refine gate_dst (N := 21) rfl ?_); refine Kd.S_make (Kd.slice 30 k30) _ 34 rfl (N := 21) rfl 26 _ _ rfl (l1.length : Int) rfl rfl Try.underlying26 (.slice none 0 0) 24 info34 rfl (by decide) (by omega) [] (ok := fun _ => True) (okp := fun _ => True) ⟨_, rfl, Kd.R_nil _ _ _ _ _⟩ (fun _ hk => hk) trivial (of_decide_eq_true (by first | (with_reducible assumption) | assumption)) (Nat.le_trans (Nat.mul_le_mul_right _ (of_decide_eq_true (by first | (with_reducible assumption) | assumption) : (l1.length : Int).toNat ≤ 11728124029610)) (by omega)) (Below.refl _ _) (Nat.le_refl _) ?_; intro v234 w10 ho11 hb hg_ hnew_; clear hg_ hnew_; (first | rw [← Ny233.out] at ho11 | (simp only [Int.reduceToNat] at ho11; rw [← Ny233.out] at ho11)); have n0_ := Aside0.mk (Kd.S_lower ho11 (below_size (by repeat (first | (with_reducible first | exact HB.out | apply below_alloc | apply pw_below_drewN | apply below_drew1 | refine below_set ?_ GE231.out) | exact HB.out)))); have n1_ := Aside0.mk (blk_below (g := gb231) (o := .cells #[.string a0_0, .slice A0_1 l0_1.length c0_1, .slice A0_2 l0_2.length c0_2] 25 (0, 0)) (by (with_reducible repeat (first | refine blk_drewN ?_ _ | refine blk_drew ?_ | refine blk_alloc ?_ _)); exact BK231.out) hb); have n2_ := Aside0.mk (below_step (by repeat (first | (with_reducible first | exact HB.out | apply below_alloc | apply pw_below_drewN | apply below_drew1 | refine below_set ?_ GE231.out) | exact HB.out)) hb); clear BK231; clear HB; have HO235 := n0_; have BK231 := n1_; have HB := n2_; clear n0_ n1_ n2_; clear hb ho11) | ((with_reducible refine gate_dst (N := 22) rfl ?_); refine Kd.R_lit k30 _ 30 ?hg (N := 22) ?hd (xs := ([] : List (S30))) (inner := []) (ok := fun _ => True) (okp := fun _ => True) ?hr ?hp (fun _ hk => hk) trivial (Below.refl _ _) (Nat.le_refl _) (by simp) ?_; (case hd => rfl); (case hg => rfl); (case hr => first | (go_simp; done) | (go_simp; rfl)); (case hp => exact (Reps.none _ _)); intro v237 w12 ho13 hb hg_ hnew_; clear hg_ hnew_; (first | rw [← Ny236.out] at ho13 | (simp only [Int.reduceToNat] at ho13; rw [← Ny236.out] at ho13)); have n0_ := Aside0.mk (Kd.S_elder' (by (with_reducible repeat (first | apply Kd.S_alloc | apply Kd.S_drewN | apply Kd.S_drew)); exact HO235.out) (Kd.R_base ho13) hb); have n1_ := Aside0.mk (Kd.R_lower ho13 (below_size (by repeat (first | (with_reducible first | exact HB.out | apply below_alloc | apply pw_below_drewN | apply below_drew1 | refine below_set ?_ GE231.out) | exact HB.out)))); have n2_ := Aside0.mk (blk_below (g := gb231) (o := .cells #[.string a0_0, .slice A0_1 l0_1.length c0_1, .slice A0_2 l0_2.length c0_2] 25 (0, 0)) (by (with_reducible repeat (first | refine blk_drewN ?_ _ | refine blk_drew ?_ | refine blk_alloc ?_ _)); exact BK231.out) hb); have n3_ := Aside0.mk (below_step (by repeat (first | (with_reducible first | exact HB.out | apply below_alloc | apply pw_below_drewN | apply below_drew1 | refine below_set ?_ GE231.out) | exact HB.out)) hb); clear HO235; clear BK231; clear HB; have HO235 := n0_; have HO238 := n1_; have BK231 := n2_; have HB := n3_; clear n0_ n1_ n2_ n3_; clear hb ho13))
        go_loopg [8, 25] k (fun kq v8 v25 w' => ∃ (x7_1 : List (List (S30))) (x8_1 : List (S30)) (x25_1 : Int), v25 = .int .i64 x25_1 ∧ Aside0 (impl_SweepMagazine.l0 kq x7_1 x8_1 l1 (l1.length : Int) x25_1 = some (r1, r2, r3)) ∧ Aside0 (kq ≤ k) ∧ Aside0 (Kd.S (Kd.slice 30 k30) 34 w' w.heap.size (fun k_ => some k_ ≠ (v8 : Value).ownBlock) v234 x7_1) ∧ Aside0 (Kd.R k30 30 w' w.heap.size (fun _ => True) v8 x8_1) ∧ Aside0 (w'.heap[gb231]? = some (.cells #[.string a0_0, (.slice A0_1 l0_1.length c0_1), (.slice A0_2 l0_2.length c0_2)] 25 (0, 0))) ∧ Aside0 (Below w.heap.size w w'))
        case atStart => exact ⟨(y233), (y236), (0), (by first | rfl | (simp; done) | (simp [*]; done)), H', ⟨Nat.le_refl _⟩, ⟨by (with_reducible repeat (first | apply Kd.S_alloc | apply Kd.S_drewN | apply Kd.S_drew)); exact Kd.S_mono HO235.out (fun _ hk => hk.2)⟩, ⟨by (with_reducible repeat (first | apply Kd.R_alloc | apply Kd.R_drewN | apply Kd.R_drew)); exact HO238.out⟩, ⟨by (with_reducible repeat (first | refine blk_drewN ?_ _ | refine blk_drew ?_ | refine blk_alloc ?_ _)); exact BK231.out⟩, ⟨by repeat (first | (with_reducible first | exact HB.out | apply below_alloc | apply pw_below_drewN | apply below_drew1 | refine below_set ?_ GE231.out) | exact HB.out)⟩⟩
        case round =>
          clear H'
          try clear c1
          try clear p2
          try clear c4
          try clear c5
          try clear c5b0
          try clear c5b1
          try clear c6
          try clear c6b0
          try clear c6b1
          try clear hcz8_0
          try clear hcz8_1
          try clear hcz8_2
          try clear hfz8_0
          try clear hfz8_1
          try clear hfz8_2
          obtain ⟨x7_1, x8_1, x25_1, rfl, HA, HK1, HO_7, HO_8, BK231, HB⟩ := hrel
          cases gk with
          | zero => exact absurd HA.out (by simp [impl_SweepMagazine.l0])
          | succ k1 =>
            have H := HA.out
            clear HA
            simp only [impl_SweepMagazine.l0] at H
            by_cases c14 : x25_1 < (l1.length : Int)
            · rw [if_pos c14] at H
              have c14b0 : decide (x25_1 < (l1.length : Int)) = true := decide_eq_true c14
              clear c14
              by_cases c15 : 0 ≤ x25_1
              · rw [if_pos c15] at H
                have c15b0 : decide (0 ≤ x25_1) = true := decide_eq_true c15
                clear c15
                by_cases c16 : x25_1 < (l1.length : Int)
                · rw [if_pos c16] at H
                  have c16b0 : decide (x25_1 < (l1.length : Int)) = true := decide_eq_true c16
                  clear c16
                  have H' := Aside0.mk H
                  clear H
                  have p239 : 0 ≤ (x25_1 : Int) := of_decide_eq_true (by first | (with_reducible assumption) | assumption)
                  have q239 : x25_1 < (l1.length : Int) := of_decide_eq_true (by first | (with_reducible assumption) | assumption)
                  obtain ⟨ad239, A239_0, c239_0, e239, hx239_0, hl239_0, hi239_0⟩ := at_L4 HR1.out x25_1 p239 q239
                  cases e239
                  replace hx239_0 := (HB.out.cell (World.block_lt_of_cell? w _ hx239_0)).trans hx239_0
                  have HR239_0 := Aside0.mk hi239_0
                  have HC239_0 := Aside0.mk hl239_0
                  clear hi239_0 hl239_0
                  replace p239 := eq_true p239
                  replace q239 := eq_true q239
                  go_wp2
                  go_loopg [8, 32] k1 (fun kq v8 v32 w' => ∃ (x7_2 : List (List (S30))) (x8_2 : List (S30)) (x32_2 : Int), v32 = .int .i64 x32_2 ∧ Aside0 (impl_SweepMagazine.l1 kq x7_2 x8_2 x25_1 l1 (l1.length : Int) x25_1 (rd_L4 l1 x25_1) ((rd_L4 l1 x25_1).length : Int) x32_2 = some (r1, r2, r3)) ∧ Aside0 (kq ≤ k1) ∧ Aside0 (Kd.S (Kd.slice 30 k30) 34 w' w.heap.size (fun k_ => some k_ ≠ (v8 : Value).ownBlock) v234 x7_2) ∧ Aside0 (Kd.R k30 30 w' w.heap.size (fun _ => True) v8 x8_2) ∧ Aside0 (w'.heap[gb231]? = some (.cells #[.string a0_0, (.slice A0_1 l0_1.length c0_1), (.slice A0_2 l0_2.length c0_2)] 25 (0, 0))) ∧ Aside0 (Below w.heap.size w w'))
                  case atStart => exact ⟨(x7_1), (x8_1), (0), (by first | rfl | (simp; done) | (simp [*]; done)), H', ⟨Nat.le_refl _⟩, ⟨by (with_reducible repeat (first | apply Kd.S_alloc | apply Kd.S_drewN | apply Kd.S_drew)); exact HO_7.out⟩, ⟨by (with_reducible repeat (first | apply Kd.R_alloc | apply Kd.R_drewN | apply Kd.R_drew)); exact HO_8.out⟩, ⟨by (with_reducible repeat (first | refine blk_drewN ?_ _ | refine blk_drew ?_ | refine blk_alloc ?_ _)); exact BK231.out⟩, ⟨by repeat (first | (with_reducible first | exact HB.out | apply below_alloc | apply pw_below_drewN | apply below_drew1 | refine below_set ?_ GE231.out) | exact HB.out)⟩⟩
                  case round =>
                    clear H'
                    try clear c1
                    try clear c2
                    try clear p2
                    try clear q2
                    try clear hx2
                    try clear c4
                    try clear c5
                    try clear c5b0
                    try clear c5b1
                    try clear c6
                    try clear c6b0
                    try clear c6b1
                    try clear c14
                    try clear c14b0
                    try clear c15
                    try clear c15b0
                    try clear c16
                    try clear c16b0
                    try clear hcz8_0
                    try clear hcz8_1
                    try clear hcz8_2
                    try clear hfz8_0
                    try clear hfz8_1
                    try clear hfz8_2
                    try clear hx239_0
                    try clear p2
                    try clear p239
                    try clear q239
                    obtain ⟨x7_2, x8_2, x32_2, rfl, HA, HK2, HO_7, HO_8, BK231, HB⟩ := hrel
                    cases gk with
                    | zero => exact absurd HA.out (by simp [impl_SweepMagazine.l1])
                    | succ k2 =>
                      have H := HA.out
                      clear HA
                      simp only [impl_SweepMagazine.l1] at H
                      by_cases c17 : x32_2 < ((rd_L4 l1 x25_1).length : Int)
                      · rw [if_pos c17] at H
                        have c17b0 : decide (x32_2 < ((rd_L4 l1 x25_1).length : Int)) = true := decide_eq_true c17
                        clear c17
                        by_cases c18 : 0 ≤ x32_2
                        · rw [if_pos c18] at H
                          have c18b0 : decide (0 ≤ x32_2) = true := decide_eq_true c18
                          clear c18
                          by_cases c19 : x32_2 < ((rd_L4 l1 x25_1).length : Int)
                          · rw [if_pos c19] at H
                            have c19b0 : decide (x32_2 < ((rd_L4 l1 x25_1).length : Int)) = true := decide_eq_true c19
                            clear c19
                            by_cases c20 : ((rd_T30 (rd_L4 l1 x25_1) x32_2).f0) = x25_1
                            · rw [if_pos c20] at H
                              have c20b0 : (((rd_T30 (rd_L4 l1 x25_1) x32_2).f0) == x25_1) = true := beq_iff_eq.mpr c20
                              have c20b1 : (((rd_T30 (rd_L4 l1 x25_1) x32_2).f0) != x25_1) = false := bne_eq_false_iff_eq.mpr c20
                              clear c20
                              by_cases c21 : 0 ≤ x25_1
                              · rw [if_pos c21] at H
                                have c21b0 : decide (0 ≤ x25_1) = true := decide_eq_true c21
                                clear c21
                                by_cases c22 : x25_1 < (x7_2.length : Int)
                                · rw [if_pos c22] at H
                                  have c22b0 : decide (x25_1 < (x7_2.length : Int)) = true := decide_eq_true c22
                                  clear c22
                                  by_cases c23 : (rd_L4 x7_2 x25_1).length < 8796093022208
                                  · rw [if_pos c23] at H
                                    have LMc23 := Aside0.mk c23
                                    clear c23
                                    obtain ⟨y243, hy243⟩ : ∃ y_ : List (S30), y_ = ((rd_L4 x7_2 x25_1) ++ [(⟨(rd_T30 (rd_L4 l1 x25_1) x32_2).f0, (rd_T30 (rd_L4 l1 x25_1) x32_2).f1⟩ : S30)]) := ⟨_, rfl⟩
                                    replace H : (impl_SweepMagazine.l1 k2 (x7_2.set (x25_1 : Int).toNat y243) x8_2 x25_1 l1 (l1.length : Int) x25_1 (rd_L4 l1 x25_1) ((rd_L4 l1 x25_1).length : Int) (wrap64 (x32_2 + 1))) = some (r1, r2, r3) := by first | (rw [hy243]; with_reducible exact H) | (have H2_ := (Option.bind_some _ _).symm.trans H; rw [hy243]; with_reducible exact H2_) | (have H2_ := (Option.bind_some _ _).symm.trans H; with_reducible exact H2_) | with_reducible exact H | (rw [hy243]; exact H) | exact H
                                    have Ny243 := Aside0.mk hy243
                                    clear hy243
                                    obtain ⟨y246, hy246⟩ : ∃ y_ : List (List (S30)), y_ = (x7_2.set (x25_1 : Int).toNat y243) := ⟨_, rfl⟩
                                    replace H : (impl_SweepMagazine.l1 k2 y246 x8_2 x25_1 l1 (l1.length : Int) x25_1 (rd_L4 l1 x25_1) ((rd_L4 l1 x25_1).length : Int) (wrap64 (x32_2 + 1))) = some (r1, r2, r3) := by first | (rw [hy246]; with_reducible exact H) | (have H2_ := (Option.bind_some _ _).symm.trans H; rw [hy246]; with_reducible exact H2_) | (have H2_ := (Option.bind_some _ _).symm.trans H; with_reducible exact H2_) | with_reducible exact H | (rw [hy246]; exact H) | exact H
                                    have Ny246 := Aside0.mk hy246
                                    clear hy246
                                    have H' := Aside0.mk H
                                    clear H
                                    have p240 : 0 ≤ (x32_2 : Int) := of_decide_eq_true (by first | (with_reducible assumption) | assumption)
                                    have q240 : x32_2 < ((rd_L4 l1 x25_1).length : Int) := of_decide_eq_true (by first | (with_reducible assumption) | assumption)
                                    obtain ⟨ad240, e240, hx240_0, hx240_1⟩ := at_T30 HR239_0.out x32_2 p240 q240
                                    cases e240
                                    replace hx240_0 := (HB.out.cell (World.block_lt_of_cell? w _ hx240_0)).trans hx240_0
                                    replace hx240_1 := (HB.out.cell (World.block_lt_of_cell? w _ hx240_1)).trans hx240_1
                                    replace p240 := eq_true p240
                                    replace q240 := eq_true q240
                                    try go_wp2_with (first | ((with_reducible refine gate_dst (N := 12) rfl ?_); refine box_event ?hg (N := 12) ?hd (cs := #[.int .i64 0, .int .i64 0]) (t := 30) ?hr ?_; (case hd => rfl); (case hg => rfl); (case hr => first | (go_simp; done) | (go_simp; rfl)); intro gb241 hg w25 hbox hb; have n0_ := Aside0.mk (Kd.S_below (Kd.S_elderB (by (with_reducible repeat (first | apply Kd.S_alloc | apply Kd.S_drewN | apply Kd.S_drew)); exact HO_7.out) gb241 (Nat.le_of_eq hg.symm)) hb); have n1_ := Aside0.mk (Kd.R_below (Kd.R_elderB (by (with_reducible repeat (first | apply Kd.R_alloc | apply Kd.R_drewN | apply Kd.R_drew)); exact HO_8.out) gb241 (Nat.le_of_eq hg.symm)) hb); have n2_ := Aside0.mk (blk_below (g := gb231) (o := .cells #[.string a0_0, .slice A0_1 l0_1.length c0_1, .slice A0_2 l0_2.length c0_2] 25 (0, 0)) (by (with_reducible repeat (first | refine blk_drewN ?_ _ | refine blk_drew ?_ | refine blk_alloc ?_ _)); exact BK231.out) hb); have n3_ := Aside0.mk (below_step (by repeat (first | (with_reducible first | exact HB.out | apply below_alloc | apply pw_below_drewN | apply below_drew1 | refine below_set ?_ GE231.out) | exact HB.out)) hb); have n4_ := Aside0.mk (hbox); have n5_ := Aside0.mk ((by rw [hg]; exact (below_size (by repeat (first | (with_reducible first | exact HB.out | apply below_alloc | apply pw_below_drewN | apply below_drew1 | refine below_set ?_ GE231.out) | exact HB.out))) : w.heap.size ≤ gb241)); have n6_ := Aside0.mk ((by rw [hg]; exact (below_size (by repeat (first | (with_reducible first | exact HB.out | apply below_alloc | apply pw_below_drewN | apply below_drew1 | refine below_set ?_ GE231.out) | exact HB.out))) : w.heap.size ≤ gb241)); have n7_ := Aside0.mk ((by rw [hg]; exact Nat.ne_of_lt (blk_lt (g := gb231) (o := .cells #[.string a0_0, .slice A0_1 l0_1.length c0_1, .slice A0_2 l0_2.length c0_2] 25 (0, 0)) (by (with_reducible repeat (first | refine blk_drewN ?_ _ | refine blk_drew ?_ | refine blk_alloc ?_ _)); exact BK231.out)) : gb231 ≠ gb241)); have n8_ := Aside0.mk ((by rw [hg]; exact Nat.ne_of_gt (blk_lt (g := gb231) (o := .cells #[.string a0_0, .slice A0_1 l0_1.length c0_1, .slice A0_2 l0_2.length c0_2] 25 (0, 0)) (by (with_reducible repeat (first | refine blk_drewN ?_ _ | refine blk_drew ?_ | refine blk_alloc ?_ _)); exact BK231.out)) : gb241 ≠ gb231)); clear HO_7; clear HO_8; clear BK231; clear HB; have HO_7 := n0_; have HO_8 := n1_; have BK231 := n2_; have HB := n3_; have BK241 := n4_; have GW241 := n5_; have GE241 := n6_; have NB231_241 := n7_; have NB241_231 := n8_; clear n0_ n1_ n2_ n3_ n4_ n5_ n6_ n7_ n8_; clear hb hbox hg; have hnb26 := NB241_231.out; have hnc26 := NB231_241.out; have hcz27_0 : w25.cell? ⟨gb241, 0, none⟩ = some (.int .i64 0) := (blk_cell BK241.out 0).trans rfl; have hcz27_1 : w25.cell? ⟨gb241, 1, none⟩ = some (.int .i64 0) := (blk_cell BK241.out 1).trans rfl; have hfz27_0 := blk_frozen BK241.out 0; have hfz27_1 := blk_frozen BK241.out 1))
                                    have n0_ : Aside0 (Kd.S (Kd.slice 30 k30) 34 ((w25.setCell ⟨gb241, 0, none⟩ (.int .i64 ((rd_T30 (rd_L4 l1 x25_1) x32_2).f0))).setCell ⟨gb241, 1, none⟩ (.int .i64 ((rd_T30 (rd_L4 l1 x25_1) x32_2).f1))) w.heap.size (fun k_ => some k_ ≠ (u8 : Value).ownBlock ∧ k_ ≠ gb241) v234 x7_2) := ⟨by (with_reducible repeat (first | apply Kd.S_alloc | apply Kd.S_drewN | apply Kd.S_drew)); exact Kd.S_mono (Kd.S_far (p := ⟨gb241, 1, none⟩) (Kd.S_far (p := ⟨gb241, 0, none⟩) (Kd.S_mono HO_7.out (fun k_ hk => (⟨hk, hk.2⟩ : _ ∧ k_ ≠ gb241))) (fun _ hk => hk.2) (.int .i64 ((rd_T30 (rd_L4 l1 x25_1) x32_2).f0))) (fun _ hk => hk.2) (.int .i64 ((rd_T30 (rd_L4 l1 x25_1) x32_2).f1))) (fun _ hk => ⟨hk.1.1, hk.1.2⟩)⟩
                                    have n1_ : Aside0 (Kd.R k30 30 ((w25.setCell ⟨gb241, 0, none⟩ (.int .i64 ((rd_T30 (rd_L4 l1 x25_1) x32_2).f0))).setCell ⟨gb241, 1, none⟩ (.int .i64 ((rd_T30 (rd_L4 l1 x25_1) x32_2).f1))) w.heap.size (fun k_ => k_ ≠ gb241) u8 x8_2) := ⟨by (with_reducible repeat (first | apply Kd.R_alloc | apply Kd.R_drewN | apply Kd.R_drew)); exact Kd.R_mono (Kd.R_far (p := ⟨gb241, 1, none⟩) (Kd.R_far (p := ⟨gb241, 0, none⟩) (Kd.R_mono HO_8.out (fun k_ hk => (⟨hk, hk.2⟩ : _ ∧ k_ ≠ gb241))) (fun _ hk => hk.2) (.int .i64 ((rd_T30 (rd_L4 l1 x25_1) x32_2).f0))) (fun _ hk => hk.2) (.int .i64 ((rd_T30 (rd_L4 l1 x25_1) x32_2).f1))) (fun _ hk => hk.1.2)⟩
                                    have n2_ : Aside0 (((w25.setCell ⟨gb241, 0, none⟩ (.int .i64 ((rd_T30 (rd_L4 l1 x25_1) x32_2).f0))).setCell ⟨gb241, 1, none⟩ (.int .i64 ((rd_T30 (rd_L4 l1 x25_1) x32_2).f1))).heap[gb231]? = some (.cells #[.string a0_0, .slice A0_1 l0_1.length c0_1, .slice A0_2 l0_2.length c0_2] 25 (0, 0))) := ⟨by (with_reducible repeat (first | refine blk_drewN ?_ _ | refine blk_drew ?_ | refine blk_alloc ?_ _)); refine blk_far ?_ NB231_241.out _; (with_reducible repeat (first | refine blk_drewN ?_ _ | refine blk_drew ?_ | refine blk_alloc ?_ _)); refine blk_far ?_ NB231_241.out _; (with_reducible repeat (first | refine blk_drewN ?_ _ | refine blk_drew ?_ | refine blk_alloc ?_ _)); exact BK231.out⟩
                                    have n3_ : Aside0 (((w25.setCell ⟨gb241, 0, none⟩ (.int .i64 ((rd_T30 (rd_L4 l1 x25_1) x32_2).f0))).setCell ⟨gb241, 1, none⟩ (.int .i64 ((rd_T30 (rd_L4 l1 x25_1) x32_2).f1))).heap[gb241]? = some (.cells #[.int .i64 ((rd_T30 (rd_L4 l1 x25_1) x32_2).f0), .int .i64 ((rd_T30 (rd_L4 l1 x25_1) x32_2).f1)] 30 (0, 0))) := ⟨by (with_reducible repeat (first | refine blk_drewN ?_ _ | refine blk_drew ?_ | refine blk_alloc ?_ _)); refine blk_put (cs := #[.int .i64 ((rd_T30 (rd_L4 l1 x25_1) x32_2).f0), .int .i64 0]) ?_ 1 _ rfl; (with_reducible repeat (first | refine blk_drewN ?_ _ | refine blk_drew ?_ | refine blk_alloc ?_ _)); refine blk_put (cs := #[.int .i64 0, .int .i64 0]) ?_ 0 _ rfl; (with_reducible repeat (first | refine blk_drewN ?_ _ | refine blk_drew ?_ | refine blk_alloc ?_ _)); exact BK241.out⟩
                                    have n4_ : Aside0 (Below w.heap.size w ((w25.setCell ⟨gb241, 0, none⟩ (.int .i64 ((rd_T30 (rd_L4 l1 x25_1) x32_2).f0))).setCell ⟨gb241, 1, none⟩ (.int .i64 ((rd_T30 (rd_L4 l1 x25_1) x32_2).f1)))) := ⟨by repeat (first | (with_reducible first | exact HB.out | apply below_alloc | apply pw_below_drewN | apply below_drew1 | refine below_set ?_ GE231.out | refine below_set ?_ GE241.out) | exact HB.out)⟩
                                    (try clear HO_7)
                                    (try clear HO_8)
                                    (try clear BK231)
                                    (try clear BK241)
                                    (try clear HB)
                                    generalize ((w25.setCell ⟨gb241, 0, none⟩ (.int .i64 ((rd_T30 (rd_L4 l1 x25_1) x32_2).f0))).setCell ⟨gb241, 1, none⟩ (.int .i64 ((rd_T30 (rd_L4 l1 x25_1) x32_2).f1))) = w28 at n0_ n1_ n2_ n3_ n4_ ⊢
                                    have HO_7 := n0_
                                    have HO_8 := n1_
                                    have BK231 := n2_
                                    have BK241 := n3_
                                    have HB := n4_
                                    clear n0_ n1_ n2_ n3_ n4_
                                    have n0_ := Aside0.mk (Kd.S_drew HO_7.out)
                                    have n1_ := Aside0.mk (Kd.R_drew HO_8.out)
                                    have n2_ := Aside0.mk (blk_drew BK231.out)
                                    have n3_ := Aside0.mk (blk_drew BK241.out)
                                    have n4_ := Aside0.mk (below_drew1 HB.out)
                                    clear HO_7
                                    clear HO_8
                                    clear BK231
                                    clear BK241
                                    clear HB
                                    have HO_7 := n0_
                                    have HO_8 := n1_
                                    have BK231 := n2_
                                    have BK241 := n3_
                                    have HB := n4_
                                    clear n0_ n1_ n2_ n3_ n4_
                                    obtain ⟨Ao30, co30, eo30⟩ := Kd.S_slice HO_7.out
                                    (first | subst eo30 | (injection eo30 with f1_ f2_ f3_; have f4_ := f1_.symm; have f5_ := f3_.symm; clear f1_ f2_ f3_; subst f4_; subst f5_))
                                    have p242 : 0 ≤ (x25_1 : Int) := of_decide_eq_true (by first | (with_reducible assumption) | assumption)
                                    have q242 : x25_1 < (x7_2.length : Int) := of_decide_eq_true (by first | (with_reducible assumption) | assumption)
                                    obtain ⟨ad242, A242_0, c242_0, e242, hx242_0, hl242_0, hi242_0⟩ := at_L4 (Kd.S_reads' HO_7.out).2.2 x25_1 p242 q242
                                    cases e242
                                    obtain ⟨ce242, hce242, hMe242, hcc242⟩ := Kd.S_get HO_7.out [] x25_1 p242 (by first | exact q242 | exact of_decide_eq_true (by first | (with_reducible assumption) | assumption) | (have e_ := (Kd.S_reads' HO_7.out).1; omega))
                                    obtain ⟨ve242_0, rfl, ge242_0⟩ := hMe242
                                    have hv242_0 := hcc242 0 _ rfl
                                    rw [Nat.add_zero, show ((Kd.slice 30 k30)).sz = 1 from rfl, Nat.mul_one] at hv242_0
                                    replace hv242_0 := Option.some.inj (hv242_0.symm.trans hx242_0)
                                    rw [hv242_0] at ge242_0
                                    have HL242_0 := Aside0.mk (show Kd.R k30 30 _ _ _ _ (rd_L4 x7_2 x25_1) from ge242_0)
                                    clear hv242_0 ge242_0
                                    have HX242_0 := Aside0.mk hx242_0
                                    clear hcc242 hce242
                                    have HR242_0 := Aside0.mk hi242_0
                                    have HC242_0 := Aside0.mk hl242_0
                                    clear hi242_0 hl242_0
                                    replace p242 := eq_true p242
                                    replace q242 := eq_true q242
                                    obtain ⟨go31, co31, eo31, gb31, gl31, cl31, HG31⟩ := Kd.S_form HO_7.out (by have h_ : (x25_1 : Int) < ((x7_2.length : Int) : Int) := of_decide_eq_true (by first | (with_reducible assumption) | assumption); have h2_ : 0 ≤ (x25_1 : Int) := (of_decide_eq_true (by first | (with_reducible assumption) | assumption)); omega)
                                    (first | cases eo31 | (injection eo31 with ea_ en_ ec_; (first | subst ea_ | (injection ea_ with ea_; subst ea_)); subst ec_; clear en_))
                                    have GB31 := Aside0.mk gb31
                                    have GG31 := Aside0.mk HG31
                                    clear gb31 gl31 HG31
                                    (first | simp only [add_plain] at hx242_0 | skip)
                                    obtain ⟨oki31, ce31, hcl31, hM31, hcc31, _, _, hH31⟩ := Kd.S_elem HO_7.out [] (x25_1 : Int) (of_decide_eq_true (by first | (with_reducible assumption) | assumption)) (by have h_ : (x25_1 : Int) < ((x7_2.length : Int) : Int) := of_decide_eq_true (by first | (with_reducible assumption) | assumption); first | exact h_ | (have e_ := (Kd.S_reads' HO_7.out).1; omega) | simpa using h_)
                                    obtain ⟨ve31_0, rfl, ge31_0⟩ := hM31
                                    have hv31 := hcc31 0 _ rfl
                                    have hX31 := HX242_0.out
                                    (try simp only [add_plain] at hX31)
                                    (try simp only [Nat.add_zero] at hv31)
                                    (try rw [show ((Kd.slice 30 k30)).sz = 1 from rfl, Nat.mul_one] at hv31)
                                    replace hv31 := Option.some.inj (hv31.symm.trans hX31)
                                    subst hv31
                                    clear hX31 hcc31 hcl31
                                    have UU31 := Aside0.mk (show Kd.R k30 30 _ w.heap.size oki31 (.slice A242_0 (rd_L4 x7_2 x25_1).length c242_0) (rd_L4 x7_2 x25_1) from ge31_0)
                                    have HH31 := Aside0.mk hH31
                                    have HN31 := Aside0.mk (Kd.S_reads' HO_7.out).1
                                    clear hH31 ge31_0
                                    refine start_ (n := 11) (S := fun w' => w'.cell? ⟨gb241, 0, none⟩ = some (.int .i64 ((rd_T30 (rd_L4 l1 x25_1) x32_2).f0)) ∧ w'.cell? ⟨gb241, 1, none⟩ = some (.int .i64 ((rd_T30 (rd_L4 l1 x25_1) x32_2).f1)) ∧ w'.cell? ⟨go31, (x25_1).toNat, none⟩ = some (.slice A242_0 (rd_L4 x7_2 x25_1).length c242_0)) (ds := [10]) #[false, false, false, false, false, false, false, false, false, false, false] (by kernel_rfl) rfl rfl ⟨(blk_cell BK241.out 0).trans rfl, (blk_cell BK241.out 1).trans rfl, hx242_0⟩ (fun hHeld => ?_); refine with_tabW impl_SweepMagazine.tab11 impl_SweepMagazine.bits11 (fun HT_ HW_ => ?_)
                                    generalize w28.drew = w29 at HO_7 HO_8 BK231 BK241 HB GG31 HH31 HL242_0 HR242_0 HX242_0 UU31 hx242_0 hHeld ⊢
                                    refine pure_ (i := 0) (N := some 40) (v := ?_) (a' := ?_) #[true, false, false, false, false, false, false, false, false, false, false] rfl rfl (any_of HT_.out (by kernel_rfl)) (fun _ _ _ h => h) (Or.inl ⟨by rfl, ?_⟩) ?_ ?_
                                    rotate_left
                                    · intro w'
                                      go_simp
                                      with_reducible rfl
                                    rotate_left
                                    · simp only [Act.put, List.setIfInBounds_toArray, List.set_cons_zero, List.set_cons_succ, i64_w, i32_w]
                                      rfl
                                    refine pure_ (i := 1) (N := some 41) (v := ?_) (a' := ?_) #[true, true, false, false, false, false, false, false, false, false, false] rfl rfl (any_of HT_.out (by kernel_rfl)) (fun _ _ _ h => h) (Or.inl ⟨by rfl, ?_⟩) ?_ ?_
                                    rotate_left
                                    · intro w'
                                      go_simp
                                      with_reducible rfl
                                    rotate_left
                                    · simp only [Act.put, List.setIfInBounds_toArray, List.set_cons_zero, List.set_cons_succ, i64_w, i32_w]
                                      rfl
                                    refine pure_ (i := 2) (N := some 42) (v := ?_) (a' := ?_) #[true, true, true, false, false, false, false, false, false, false, false] rfl rfl (any_of HT_.out (by kernel_rfl)) (fun _ _ _ h => h) (Or.inl ⟨by rfl, ?_⟩) ?_ ?_
                                    rotate_left
                                    · intro w'
                                      go_simp
                                      with_reducible rfl
                                    rotate_left
                                    · simp only [Act.put, List.setIfInBounds_toArray, List.set_cons_zero, List.set_cons_succ, i64_w, i32_w]
                                      rfl
                                    refine pure_ (i := 3) (N := some 43) (v := ?_) (a' := ?_) #[true, true, true, true, false, false, false, false, false, false, false] rfl rfl (any_of HT_.out (by kernel_rfl)) (fun _ _ _ h => h) (Or.inl ⟨by rfl, ?_⟩) ?_ ?_
                                    rotate_left
                                    · intro w'
                                      go_simp
                                      with_reducible rfl
                                    rotate_left
                                    · simp only [Act.put, List.setIfInBounds_toArray, List.set_cons_zero, List.set_cons_succ, i64_w, i32_w]
                                      rfl
                                    refine pure_ (i := 4) (N := some 44) (v := ?_) (a' := ?_) #[true, true, true, true, true, false, false, false, false, false, false] rfl rfl (any_of HT_.out (by kernel_rfl)) (fun _ _ _ h => h) (Or.inl ⟨by rfl, ?_⟩) ?_ ?_
                                    rotate_left
                                    · intro w'
                                      go_simp
                                      with_reducible rfl
                                    rotate_left
                                    · simp only [Act.put, List.setIfInBounds_toArray, List.set_cons_zero, List.set_cons_succ, i64_w, i32_w]
                                      rfl
                                    refine take_ (i := 5) (N := some 45) (v := ?_) (a' := ?_) #[true, true, true, true, true, true, false, false, false, false, false] rfl rfl (take_ofW HT_.out HW_.out (by kernel_rfl)) (fun _ _ _ h => h) (Or.inl ⟨by rfl, ?_⟩) hHeld ?_ ?_
                                    rotate_left
                                    · rintro w' ⟨s0, s1, s2⟩
                                      go_simp
                                      with_reducible rfl
                                    rotate_left
                                    · simp only [Act.put, List.setIfInBounds_toArray, List.set_cons_zero, List.set_cons_succ, i64_w, i32_w]
                                      rfl
                                    refine take_ (i := 6) (N := some 46) (v := ?_) (a' := ?_) #[true, true, true, true, true, true, true, false, false, false, false] rfl rfl (take_ofW HT_.out HW_.out (by kernel_rfl)) (fun _ _ _ h => h) (Or.inl ⟨by rfl, ?_⟩) hHeld ?_ ?_
                                    rotate_left
                                    · rintro w' ⟨s0, s1, s2⟩
                                      go_simp
                                      with_reducible rfl
                                    rotate_left
                                    · simp only [Act.put, List.setIfInBounds_toArray, List.set_cons_zero, List.set_cons_succ, i64_w, i32_w]
                                      rfl
                                    refine one_ (i := 7) (N := some 47) #[true, true, true, true, true, true, true, true, false, false, false] rfl rfl (one_of HT_.out (by kernel_rfl)) (by decide) (fun K hK => ?_)
                                    refine value_ (w1 := ?_) (v := ?_) (by rfl) rfl ?_ ?_
                                    rotate_left 2
                                    · go_simp
                                      constructor
                                      · rfl
                                      · rfl
                                    refine hK.out _ _ ⟨(blk_cell (blk_alloc BK241.out _) 0).trans rfl, (blk_cell (blk_alloc BK241.out _) 1).trans rfl, (World.cell?_alloc_lt _ _ _ (World.block_lt_of_cell? _ _ (hHeld.2.2))).trans (hHeld.2.2)⟩ (fun hHeld => ?_)
                                    clear hK K
                                    refine norm_ (a' := ?_) ?_ ?_
                                    rotate_left
                                    · show Act.put _ (some 47) _ = _
                                      simp only [Act.put, List.setIfInBounds_toArray, List.set_cons_zero, List.set_cons_succ, i64_w, i32_w]
                                      rfl
                                    refine one_ (i := 8) (N := some 48) #[true, true, true, true, true, true, true, true, true, false, false] rfl rfl (one_of HT_.out (by kernel_rfl)) (by decide) (fun K hK => ?_)
                                    refine Kd.R_append_step k30 (w0 := w) w.heap.size (by rfl) (.tmp 45) (.tmp 47) 34 30 (.agg #[(.int .i64 0), (.int .i64 0)]) 16 rfl Try.underlying34 info30 rfl (by decide) (by omega) (.slice A242_0 (rd_L4 x7_2 x25_1).length c242_0) (rd_L4 x7_2 x25_1) (⟨(rd_T30 (rd_L4 l1 x25_1) x32_2).f0, (rd_T30 (rd_L4 l1 x25_1) x32_2).f1⟩ : S30) [.int .i64 ((rd_T30 (rd_L4 l1 x25_1) x32_2).f0), .int .i64 ((rd_T30 (rd_L4 l1 x25_1) x32_2).f1)] (fun k_ => oki31 k_ ∨ ((fun k_ => some k_ ≠ (u8 : Value).ownBlock ∧ k_ ≠ gb241)) k_ ∧ w29.heap.size ≤ k_) (fun _ => False) rfl rfl ?aP (fun _ hk => hk.elim) ?aF ?aO ?aB ?aS ?aL ?_
                                    (case aP => exact k30_mkM _ _ _ (⟨(rd_T30 (rd_L4 l1 x25_1) x32_2).f0, (rd_T30 (rd_L4 l1 x25_1) x32_2).f1⟩ : S30))
                                    (case aB => exact (by repeat (first | (with_reducible first | exact HB.out | apply below_alloc | apply pw_below_drewN | apply below_drew1 | refine below_set ?_ GE231.out | refine below_set ?_ GE241.out) | exact HB.out)))
                                    (case aF => exact (fun k_ hk => .inr ⟨⟨Kd.fresh' (Kd.R_lt (by (with_reducible repeat (first | apply Kd.R_alloc | apply Kd.R_drewN | apply Kd.R_drew)); exact HO_8.out)) k_ hk, Kd.freshB (g := gb241) (o := .cells #[.int .i64 ((rd_T30 (rd_L4 l1 x25_1) x32_2).f0), .int .i64 ((rd_T30 (rd_L4 l1 x25_1) x32_2).f1)] 30 (0, 0)) (by (with_reducible repeat (first | refine blk_drewN ?_ _ | refine blk_drew ?_ | refine blk_alloc ?_ _)); exact BK241.out) k_ hk⟩, hk⟩))
                                    (case aO => exact (by (with_reducible repeat (first | apply Kd.R_alloc | apply Kd.R_drewN | apply Kd.R_drew)); exact Kd.R_mono UU31.out (fun _ hk => .inl hk)))
                                    (case aS => exact (below_size (by repeat (first | (with_reducible first | exact HB.out | apply below_alloc | apply pw_below_drewN | apply below_drew1 | refine below_set ?_ GE231.out | refine below_set ?_ GE241.out) | exact HB.out))))
                                    (case aL => have := LMc23.out; omega)
                                    intro v244 w32 ho hb hg hat
                                    (first | have HS2_ := cell_grown hg (hHeld.2.2) (by first | (rw [add_block]; exact (fun e_ => ((HL242_0.out.1 _ e_.symm).2) rfl)) | (show some (Addr.add _ _).block ≠ _; rw [add_block]; exact (fun e_ => ((HL242_0.out.1 _ e_.symm).2) rfl)) | exact (fun e_ => ((HL242_0.out.1 _ e_.symm).2) rfl)) | have HS2_ := cell_grown hg (cell_unalloc (hHeld.2.2) (by first | (rw [add_block]; exact Kd.S_lt HO_7.out _ rfl) | (show (Addr.add _ _).block < _; rw [add_block]; exact Kd.S_lt HO_7.out _ rfl) | exact Kd.S_lt HO_7.out _ rfl)) (by first | (rw [add_block]; exact (fun e_ => ((HL242_0.out.1 _ e_.symm).2) rfl)) | (show some (Addr.add _ _).block ≠ _; rw [add_block]; exact (fun e_ => ((HL242_0.out.1 _ e_.symm).2) rfl)) | exact (fun e_ => ((HL242_0.out.1 _ e_.symm).2) rfl)))
                                    rw [← Ny243.out] at ho
                                    have n0_ := Aside0.mk (Kd.R_grown2 (by (with_reducible repeat (first | apply Kd.R_alloc | apply Kd.R_drewN | apply Kd.R_drew)); exact HO_8.out) rfl hg (fun k_ e_ => (HL242_0.out.1 k_ e_).1.1))
                                    have n1_ := Aside0.mk (blk_grown (g := gb231) (o := .cells #[.string a0_0, .slice A0_1 l0_1.length c0_1, .slice A0_2 l0_2.length c0_2] 25 (0, 0)) (by (with_reducible repeat (first | refine blk_drewN ?_ _ | refine blk_drew ?_ | refine blk_alloc ?_ _)); exact BK231.out) hg (Kd.R_ne HL242_0.out BK231.out (by decide)))
                                    have n2_ := Aside0.mk (blk_grown (g := gb241) (o := .cells #[.int .i64 ((rd_T30 (rd_L4 l1 x25_1) x32_2).f0), .int .i64 ((rd_T30 (rd_L4 l1 x25_1) x32_2).f1)] 30 (0, 0)) (by (with_reducible repeat (first | refine blk_drewN ?_ _ | refine blk_drew ?_ | refine blk_alloc ?_ _)); exact BK241.out) hg (Kd.R_away HL242_0.out (fun _ hk => hk.1.2)))
                                    have n3_ := Aside0.mk (hb)
                                    have n4_ := Aside0.mk (Kd.H_grown (Kd.H_widen (by repeat (first | exact HH31.out | refine Kd.H_alloc ?_ _ | refine Kd.H_drewN ?_ _ | refine Kd.H_drew ?_))) hg (fun k_ e_ => .inl (UU31.out.1 k_ e_)))
                                    have n5_ := Aside0.mk (ho)
                                    clear HO_8
                                    clear BK231
                                    clear BK241
                                    clear HB
                                    clear HH31
                                    clear HO_7
                                    clear UU31
                                    clear HL242_0
                                    have HO_8 := n0_
                                    have BK231 := n1_
                                    have BK241 := n2_
                                    have HB := n3_
                                    have HH31 := n4_
                                    have HO245 := n5_
                                    clear n0_ n1_ n2_ n3_ n4_ n5_
                                    clear ho hb hg hat
                                    have p24 : 0 ≤ (x25_1 : Int) := of_decide_eq_true (by first | (with_reducible assumption) | assumption)
                                    have q24 : (x25_1 : Int) < ((x7_2.length : Int) : Int) := of_decide_eq_true (by first | (with_reducible assumption) | assumption)
                                    replace p24 := eq_true p24
                                    replace q24 := eq_true q24
                                    obtain ⟨Ao35, co35, eo35⟩ := Kd.R_slice HO245.out
                                    (first | subst eo35 | (injection eo35 with f1_ f2_ f3_; have f4_ := f1_.symm; have f5_ := f3_.symm; clear f1_ f2_ f3_; subst f4_; subst f5_))
                                    obtain ⟨_, _, hraw33, _, _, hcc33, _⟩ := Kd.H_raw HH31.out (of_decide_eq_true (by first | (with_reducible assumption) | assumption)) (by have h_ : (x25_1 : Int) < ((x7_2.length : Int) : Int) := of_decide_eq_true (by first | (with_reducible assumption) | assumption); first | exact h_ | (have e_ := (HN31.out); omega) | simpa using h_)
                                    obtain ⟨_, hfr33⟩ := Kd.H_at HH31.out (of_decide_eq_true (by first | (with_reducible assumption) | assumption)) (by have h_ : (x25_1 : Int) < ((x7_2.length : Int) : Int) := of_decide_eq_true (by first | (with_reducible assumption) | assumption); first | exact h_ | (have e_ := (HN31.out); omega) | simpa using h_)
                                    have hx33_0 := hcc33 0 _ rfl
                                    have hf33_0 := hfr33 0
                                    (try simp only [Nat.add_zero] at hx33_0 hf33_0)
                                    (try rw [show ((Kd.slice 30 k30)).sz = 1 from rfl, Nat.mul_one] at hx33_0)
                                    (try rw [show ((Kd.slice 30 k30)).sz = 1 from rfl, Nat.mul_one] at hf33_0)
                                    have HP33 := Kd.S_seg0 HH31.out (of_decide_eq_true (by first | (with_reducible assumption) | assumption)) (by have h_ : (x25_1 : Int) < ((x7_2.length : Int) : Int) := of_decide_eq_true (by first | (with_reducible assumption) | assumption); first | exact h_ | (have e_ := (HN31.out); omega) | simpa using h_) (seg := [.slice Ao35 y243.length co35]) (j := 0) (show 1 ≤ 1 from by decide) (x' := y243) (Kd.M_row HO245.out) (fun _ hk => hk)
                                    (try simp only [show ((Kd.slice 30 k30)).sz = 1 from rfl, Nat.mul_one, Nat.add_zero] at HP33)
                                    clear hcc33 hfr33
                                    have HNB231_go31 := Aside0.mk (show gb231 ≠ go31 from by have h_ := Kd.R_ne hraw33 BK231.out (by decide); intro e_; exact h_ (by rw [e_]; rfl))
                                    have HNB241_go31 := Aside0.mk (show gb241 ≠ go31 from by have h_ := Kd.R_ne hraw33 BK241.out (by decide); intro e_; exact h_ (by rw [e_]; rfl))
                                    have HS33 := HP33.1
                                    rw [← Ny246.out] at HS33
                                    have HQ33 := Aside0.mk HS33
                                    obtain ⟨_, hgg33⟩ := Kd.R_typed hraw33 go31 rfl
                                    have GG33_ := Aside0.mk hgg33
                                    clear HP33 HS33 hgg33
                                    refine hK.out _ _ ⟨(blk_cell BK241.out 0).trans rfl, (blk_cell BK241.out 1).trans rfl, HS2_⟩ (fun hHeld => ?_)
                                    clear hK K
                                    refine norm_ (a' := ?_) ?_ ?_
                                    rotate_left
                                    · show Act.put _ (some 48) _ = _
                                      simp only [Act.put, List.setIfInBounds_toArray, List.set_cons_zero, List.set_cons_succ, i64_w, i32_w]
                                      rfl
                                    refine pure_ (i := 9) (N := some 49) (v := ?_) (a' := ?_) #[true, true, true, true, true, true, true, true, true, true, false] rfl rfl (any_of HT_.out (by kernel_rfl)) (fun _ _ _ h => h) (Or.inl ⟨by rfl, ?_⟩) ?_ ?_
                                    rotate_left
                                    · intro w'
                                      go_simp
                                      with_reducible rfl
                                    rotate_left
                                    · simp only [Act.put, List.setIfInBounds_toArray, List.set_cons_zero, List.set_cons_succ, i64_w, i32_w]
                                      rfl
                                    refine last_ (i := 10) (N := none) #[true, true, true, true, true, true, true, true, true, true, true] rfl rfl (one_of HT_.out (by kernel_rfl)) (by decide) (fun K hK => ?_)
                                    refine skip_ (w1 := ?_) (by rfl) rfl ?_ ?_
                                    rotate_left
                                    · go_simp
                                      rfl
                                    refine hK.out _ _ ?_
                                    clear hK K
                                    refine done_ (done_of HT_.out (by kernel_rfl)) ?_
                                    try go_wp2
                                    go_roundg k2
                                    case measure => have := HK1.out; have := HK2.out; omega
                                    case rel => exact ⟨(y246), (x8_2), (wrap64 (x32_2 + 1)), (by first | rfl | (simp; done) | (simp [*]; done)), H', ⟨by have := HK1.out; have := HK2.out; omega⟩, ⟨by (with_reducible repeat (first | apply Kd.S_alloc | apply Kd.S_drewN | apply Kd.S_drew)); exact Kd.S_mono HQ33.out (fun _ hk => hk.1)⟩, ⟨by (with_reducible repeat (first | apply Kd.R_alloc | apply Kd.R_drewN | apply Kd.R_drew)); exact Kd.R_mono (Kd.R_far (p := ⟨go31, (x25_1 : Int).toNat, none⟩) (Kd.R_types HO_8.out GG33_.out (by decide)) (fun _ hk => hk.2) (.slice Ao35 y243.length co35)) (fun _ hk => trivial)⟩, ⟨by (with_reducible repeat (first | refine blk_drewN ?_ _ | refine blk_drew ?_ | refine blk_alloc ?_ _)); refine blk_far ?_ HNB231_go31.out _; (with_reducible repeat (first | refine blk_drewN ?_ _ | refine blk_drew ?_ | refine blk_alloc ?_ _)); exact BK231.out⟩, ⟨by repeat (first | (with_reducible first | exact HB.out | apply below_alloc | apply pw_below_drewN | apply below_drew1 | refine below_set ?_ GB31.out | refine below_set ?_ GE231.out | refine below_set ?_ GE241.out) | exact HB.out)⟩⟩
                                  · rw [if_neg c23] at H
                                    exact absurd H (by simp)
                                · rw [if_neg c22] at H
                                  exact absurd H (by simp)
                              · rw [if_neg c21] at H
                                exact absurd H (by simp)
                            · rw [if_neg c20] at H
                              have c20b0 : (((rd_T30 (rd_L4 l1 x25_1) x32_2).f0) == x25_1) = false := beq_eq_false_iff_ne.mpr c20
                              have c20b1 : (((rd_T30 (rd_L4 l1 x25_1) x32_2).f0) != x25_1) = true := bne_iff_ne.mpr c20
                              by_cases c36 : x8_2.length < 8796093022208
                              · rw [if_pos c36] at H
                                have LMc36 := Aside0.mk c36
                                clear c36
                                obtain ⟨y247, hy247⟩ : ∃ y_ : List (S30), y_ = (x8_2 ++ [(⟨(rd_T30 (rd_L4 l1 x25_1) x32_2).f0, (rd_T30 (rd_L4 l1 x25_1) x32_2).f1⟩ : S30)]) := ⟨_, rfl⟩
                                replace H : (impl_SweepMagazine.l1 k2 x7_2 y247 x25_1 l1 (l1.length : Int) x25_1 (rd_L4 l1 x25_1) ((rd_L4 l1 x25_1).length : Int) (wrap64 (x32_2 + 1))) = some (r1, r2, r3) := by first | (rw [hy247]; with_reducible exact H) | (have H2_ := (Option.bind_some _ _).symm.trans H; rw [hy247]; with_reducible exact H2_) | (have H2_ := (Option.bind_some _ _).symm.trans H; with_reducible exact H2_) | with_reducible exact H | (rw [hy247]; exact H) | exact H
                                have Ny247 := Aside0.mk hy247
                                clear hy247
                                have H' := Aside0.mk H
                                clear H
                                have p240 : 0 ≤ (x32_2 : Int) := of_decide_eq_true (by first | (with_reducible assumption) | assumption)
                                have q240 : x32_2 < ((rd_L4 l1 x25_1).length : Int) := of_decide_eq_true (by first | (with_reducible assumption) | assumption)
                                obtain ⟨ad240, e240, hx240_0, hx240_1⟩ := at_T30 HR239_0.out x32_2 p240 q240
                                cases e240
                                replace hx240_0 := (HB.out.cell (World.block_lt_of_cell? w _ hx240_0)).trans hx240_0
                                replace hx240_1 := (HB.out.cell (World.block_lt_of_cell? w _ hx240_1)).trans hx240_1
                                replace p240 := eq_true p240
                                replace q240 := eq_true q240
                                go_wp2_with (first | ((with_reducible refine gate_dst (N := 12) rfl ?_); refine box_event ?hg (N := 12) ?hd (cs := #[.int .i64 0, .int .i64 0]) (t := 30) ?hr ?_; (case hd => rfl); (case hg => rfl); (case hr => first | (go_simp; done) | (go_simp; rfl)); intro gb241 hg w37 hbox hb; have n0_ := Aside0.mk (Kd.S_below (Kd.S_elderB (by (with_reducible repeat (first | apply Kd.S_alloc | apply Kd.S_drewN | apply Kd.S_drew)); exact HO_7.out) gb241 (Nat.le_of_eq hg.symm)) hb); have n1_ := Aside0.mk (Kd.R_below (Kd.R_elderB (by (with_reducible repeat (first | apply Kd.R_alloc | apply Kd.R_drewN | apply Kd.R_drew)); exact HO_8.out) gb241 (Nat.le_of_eq hg.symm)) hb); have n2_ := Aside0.mk (blk_below (g := gb231) (o := .cells #[.string a0_0, .slice A0_1 l0_1.length c0_1, .slice A0_2 l0_2.length c0_2] 25 (0, 0)) (by (with_reducible repeat (first | refine blk_drewN ?_ _ | refine blk_drew ?_ | refine blk_alloc ?_ _)); exact BK231.out) hb); have n3_ := Aside0.mk (below_step (by repeat (first | (with_reducible first | exact HB.out | apply below_alloc | apply pw_below_drewN | apply below_drew1 | refine below_set ?_ GE231.out) | exact HB.out)) hb); have n4_ := Aside0.mk (hbox); have n5_ := Aside0.mk ((by rw [hg]; exact (below_size (by repeat (first | (with_reducible first | exact HB.out | apply below_alloc | apply pw_below_drewN | apply below_drew1 | refine below_set ?_ GE231.out) | exact HB.out))) : w.heap.size ≤ gb241)); have n6_ := Aside0.mk ((by rw [hg]; exact (below_size (by repeat (first | (with_reducible first | exact HB.out | apply below_alloc | apply pw_below_drewN | apply below_drew1 | refine below_set ?_ GE231.out) | exact HB.out))) : w.heap.size ≤ gb241)); have n7_ := Aside0.mk ((by rw [hg]; exact Nat.ne_of_lt (blk_lt (g := gb231) (o := .cells #[.string a0_0, .slice A0_1 l0_1.length c0_1, .slice A0_2 l0_2.length c0_2] 25 (0, 0)) (by (with_reducible repeat (first | refine blk_drewN ?_ _ | refine blk_drew ?_ | refine blk_alloc ?_ _)); exact BK231.out)) : gb231 ≠ gb241)); have n8_ := Aside0.mk ((by rw [hg]; exact Nat.ne_of_gt (blk_lt (g := gb231) (o := .cells #[.string a0_0, .slice A0_1 l0_1.length c0_1, .slice A0_2 l0_2.length c0_2] 25 (0, 0)) (by (with_reducible repeat (first | refine blk_drewN ?_ _ | refine blk_drew ?_ | refine blk_alloc ?_ _)); exact BK231.out)) : gb241 ≠ gb231)); clear HO_7; clear HO_8; clear BK231; clear HB; have HO_7 := n0_; have HO_8 := n1_; have BK231 := n2_; have HB := n3_; have BK241 := n4_; have GW241 := n5_; have GE241 := n6_; have NB231_241 := n7_; have NB241_231 := n8_; clear n0_ n1_ n2_ n3_ n4_ n5_ n6_ n7_ n8_; clear hb hbox hg; have hnb38 := NB241_231.out; have hnc38 := NB231_241.out; have hcz39_0 : w37.cell? ⟨gb241, 0, none⟩ = some (.int .i64 0) := (blk_cell BK241.out 0).trans rfl; have hcz39_1 : w37.cell? ⟨gb241, 1, none⟩ = some (.int .i64 0) := (blk_cell BK241.out 1).trans rfl; have hfz39_0 := blk_frozen BK241.out 0; have hfz39_1 := blk_frozen BK241.out 1) | ((with_reducible refine gate_builtin (b := .append) (xs := #[.tmp 50, .tmp 52]) rfl ?_); at_builtin; refine Kd.R_append k30 (w0 := w) w.heap.size rfl (.tmp 50) (.tmp 52) 34 30 (.agg #[(.int .i64 0), (.int .i64 0)]) 16 rfl Try.underlying34 info30 rfl (by decide) (by omega) u8 x8_2 (⟨(rd_T30 (rd_L4 l1 x25_1) x32_2).f0, (rd_T30 (rd_L4 l1 x25_1) x32_2).f1⟩ : S30) [.int .i64 ((rd_T30 (rd_L4 l1 x25_1) x32_2).f0), .int .i64 ((rd_T30 (rd_L4 l1 x25_1) x32_2).f1)] (fun k_ => k_ ≠ gb241) (fun _ => False) rfl (by first | (go_simp; done) | (go_simp; rfl)) ?aP (fun _ hk => hk.elim) ?aF ?aO ?aB ?aS ?aL ?_; (case aP => exact k30_mkM _ _ _ (⟨(rd_T30 (rd_L4 l1 x25_1) x32_2).f0, (rd_T30 (rd_L4 l1 x25_1) x32_2).f1⟩ : S30)); (case aB => exact (by repeat (first | (with_reducible first | exact HB.out | apply below_alloc | apply pw_below_drewN | apply below_drew1 | refine below_set ?_ GE231.out | refine below_set ?_ GE241.out) | exact HB.out))); (case aF => exact (fun k_ hk => Kd.freshB (g := gb241) (o := .cells #[.int .i64 ((rd_T30 (rd_L4 l1 x25_1) x32_2).f0), .int .i64 ((rd_T30 (rd_L4 l1 x25_1) x32_2).f1)] 30 (0, 0)) (by (with_reducible repeat (first | refine blk_drewN ?_ _ | refine blk_drew ?_ | refine blk_alloc ?_ _)); refine blk_put (cs := #[.int .i64 ((rd_T30 (rd_L4 l1 x25_1) x32_2).f0), .int .i64 0]) ?_ 1 _ rfl; (with_reducible repeat (first | refine blk_drewN ?_ _ | refine blk_drew ?_ | refine blk_alloc ?_ _)); refine blk_put (cs := #[.int .i64 0, .int .i64 0]) ?_ 0 _ rfl; (with_reducible repeat (first | refine blk_drewN ?_ _ | refine blk_drew ?_ | refine blk_alloc ?_ _)); exact BK241.out) k_ hk)); (case aO => exact (by (with_reducible repeat (first | apply Kd.R_alloc | apply Kd.R_drewN | apply Kd.R_drew)); exact Kd.R_mono (Kd.R_far (p := ⟨gb241, 1, none⟩) (Kd.R_far (p := ⟨gb241, 0, none⟩) (Kd.R_mono HO_8.out (fun k_ hk => (⟨hk, hk.2⟩ : _ ∧ k_ ≠ gb241))) (fun _ hk => hk.2) (.int .i64 ((rd_T30 (rd_L4 l1 x25_1) x32_2).f0))) (fun _ hk => hk.2) (.int .i64 ((rd_T30 (rd_L4 l1 x25_1) x32_2).f1))) (fun _ hk => hk.1.2))); (case aS => exact (below_size (by repeat (first | (with_reducible first | exact HB.out | apply below_alloc | apply pw_below_drewN | apply below_drew1 | refine below_set ?_ GE231.out | refine below_set ?_ GE241.out) | exact HB.out)))); (case aL => have := LMc36.out; omega); intro v248 w40 ho hb hg hat; rw [← Ny247.out] at ho; have n0_ := Aside0.mk (Kd.S_after (ok := (fun k_ => k_ ≠ gb241)) (by (with_reducible repeat (first | apply Kd.S_alloc | apply Kd.S_drewN | apply Kd.S_drew)); exact Kd.S_mono (Kd.S_far (p := ⟨gb241, 1, none⟩) (Kd.S_far (p := ⟨gb241, 0, none⟩) (Kd.S_mono HO_7.out (fun k_ hk => (⟨hk, hk.2⟩ : _ ∧ k_ ≠ gb241))) (fun _ hk => hk.2) (.int .i64 ((rd_T30 (rd_L4 l1 x25_1) x32_2).f0))) (fun _ hk => hk.2) (.int .i64 ((rd_T30 (rd_L4 l1 x25_1) x32_2).f1))) (fun _ hk => ⟨hk.1.2, hk.1.1⟩)) hg hat); have n1_ := Aside0.mk (blk_grown (g := gb231) (o := .cells #[.string a0_0, .slice A0_1 l0_1.length c0_1, .slice A0_2 l0_2.length c0_2] 25 (0, 0)) (by (with_reducible repeat (first | refine blk_drewN ?_ _ | refine blk_drew ?_ | refine blk_alloc ?_ _)); refine blk_far ?_ NB231_241.out _; (with_reducible repeat (first | refine blk_drewN ?_ _ | refine blk_drew ?_ | refine blk_alloc ?_ _)); refine blk_far ?_ NB231_241.out _; (with_reducible repeat (first | refine blk_drewN ?_ _ | refine blk_drew ?_ | refine blk_alloc ?_ _)); exact BK231.out) hg (Kd.R_ne HO_8.out BK231.out (by decide))); have n2_ := Aside0.mk (blk_grown (g := gb241) (o := .cells #[.int .i64 ((rd_T30 (rd_L4 l1 x25_1) x32_2).f0), .int .i64 ((rd_T30 (rd_L4 l1 x25_1) x32_2).f1)] 30 (0, 0)) (by (with_reducible repeat (first | refine blk_drewN ?_ _ | refine blk_drew ?_ | refine blk_alloc ?_ _)); refine blk_put (cs := #[.int .i64 ((rd_T30 (rd_L4 l1 x25_1) x32_2).f0), .int .i64 0]) ?_ 1 _ rfl; (with_reducible repeat (first | refine blk_drewN ?_ _ | refine blk_drew ?_ | refine blk_alloc ?_ _)); refine blk_put (cs := #[.int .i64 0, .int .i64 0]) ?_ 0 _ rfl; (with_reducible repeat (first | refine blk_drewN ?_ _ | refine blk_drew ?_ | refine blk_alloc ?_ _)); exact BK241.out) hg (Kd.R_away HO_8.out (fun _ hk => hk.2))); have n3_ := Aside0.mk (hb); have n4_ := Aside0.mk (ho); clear HO_7; clear BK231; clear BK241; clear HB; clear HO_8; have HO_7 := n0_; have BK231 := n1_; have BK241 := n2_; have HB := n3_; have HO249 := n4_; clear n0_ n1_ n2_ n3_ n4_; clear ho hb hg hat))
                                go_roundg k2
                                case measure => have := HK1.out; have := HK2.out; omega
                                case rel => exact ⟨(x7_2), (y247), (wrap64 (x32_2 + 1)), (by first | rfl | (simp; done) | (simp [*]; done)), H', ⟨by have := HK1.out; have := HK2.out; omega⟩, ⟨by (with_reducible repeat (first | apply Kd.S_alloc | apply Kd.S_drewN | apply Kd.S_drew)); exact Kd.S_mono HO_7.out (fun _ hk => hk.2)⟩, ⟨by (with_reducible repeat (first | apply Kd.R_alloc | apply Kd.R_drewN | apply Kd.R_drew)); exact Kd.R_mono HO249.out (fun _ hk => trivial)⟩, ⟨by (with_reducible repeat (first | refine blk_drewN ?_ _ | refine blk_drew ?_ | refine blk_alloc ?_ _)); exact BK231.out⟩, ⟨by repeat (first | (with_reducible first | exact HB.out | apply below_alloc | apply pw_below_drewN | apply below_drew1 | refine below_set ?_ GE231.out | refine below_set ?_ GE241.out) | exact HB.out)⟩⟩
                              · rw [if_neg c36] at H
                                exact absurd H (by simp)
                          · rw [if_neg c19] at H
                            exact absurd H (by simp)
                        · rw [if_neg c18] at H
                          exact absurd H (by simp)
                      · rw [if_neg c17] at H
                        have c17b0 : decide (x32_2 < ((rd_L4 l1 x25_1).length : Int)) = false := decide_eq_false c17
                        clear c17
                        have H' := Aside0.mk H
                        clear H
                        go_wp2
                        go_roundg k2
                        case measure => have := HK1.out; have := HK2.out; omega
                        case rel => exact ⟨(x7_2), (x8_2), (wrap64 (x25_1 + 1)), (by first | rfl | (simp; done) | (simp [*]; done)), H', ⟨by have := HK1.out; have := HK2.out; omega⟩, ⟨by (with_reducible repeat (first | apply Kd.S_alloc | apply Kd.S_drewN | apply Kd.S_drew)); exact HO_7.out⟩, ⟨by (with_reducible repeat (first | apply Kd.R_alloc | apply Kd.R_drewN | apply Kd.R_drew)); exact HO_8.out⟩, ⟨by (with_reducible repeat (first | refine blk_drewN ?_ _ | refine blk_drew ?_ | refine blk_alloc ?_ _)); exact BK231.out⟩, ⟨by repeat (first | (with_reducible first | exact HB.out | apply below_alloc | apply pw_below_drewN | apply below_drew1 | refine below_set ?_ GE231.out) | exact HB.out)⟩⟩
                · rw [if_neg c16] at H
                  exact absurd H (by simp)
              · rw [if_neg c15] at H
                exact absurd H (by simp)
            · rw [if_neg c14] at H
              have c14b0 : decide (x25_1 < (l1.length : Int)) = false := decide_eq_false c14
              clear c14
              have H' := Aside0.mk H
              clear H
              obtain ⟨Ao41, co41, eo41⟩ := Kd.R_slice HO_8.out
              subst eo41
              go_wp2
              go_loopg [58] k1 (fun kq v58 w' => ∃ (x7_2 : List (List (S30))) (x58_2 : Int), v58 = .int .i64 x58_2 ∧ Aside0 (impl_SweepMagazine.l2 kq x7_2 x8_1 x8_1 (x8_1.length : Int) x58_2 = some (r1, r2, r3)) ∧ Aside0 (kq ≤ k1) ∧ Aside0 (Kd.S (Kd.slice 30 k30) 34 w' w.heap.size (fun k_ => some k_ ≠ ((.slice Ao41 x8_1.length co41) : Value).ownBlock ∧ some k_ ≠ ((.slice Ao41 x8_1.length co41) : Value).ownBlock) v234 x7_2) ∧ Aside0 (Kd.R k30 30 w' w.heap.size (fun _ => True) (.slice Ao41 x8_1.length co41) x8_1) ∧ Aside0 (Kd.R k30 30 w' w.heap.size (fun _ => True) (.slice Ao41 x8_1.length co41) x8_1) ∧ Aside0 (w'.heap[gb231]? = some (.cells #[.string a0_0, (.slice A0_1 l0_1.length c0_1), (.slice A0_2 l0_2.length c0_2)] 25 (0, 0))) ∧ Aside0 (Below w.heap.size w w'))
              case atStart => exact ⟨(x7_1), (0), (by first | rfl | (simp; done) | (simp [*]; done)), H', ⟨Nat.le_refl _⟩, ⟨by (with_reducible repeat (first | apply Kd.S_alloc | apply Kd.S_drewN | apply Kd.S_drew)); exact Kd.S_mono HO_7.out (fun _ hk => ⟨hk, hk⟩)⟩, ⟨by (with_reducible repeat (first | apply Kd.R_alloc | apply Kd.R_drewN | apply Kd.R_drew)); exact HO_8.out⟩, ⟨by (with_reducible repeat (first | apply Kd.R_alloc | apply Kd.R_drewN | apply Kd.R_drew)); exact HO_8.out⟩, ⟨by (with_reducible repeat (first | refine blk_drewN ?_ _ | refine blk_drew ?_ | refine blk_alloc ?_ _)); exact BK231.out⟩, ⟨by repeat (first | (with_reducible first | exact HB.out | apply below_alloc | apply pw_below_drewN | apply below_drew1 | refine below_set ?_ GE231.out) | exact HB.out)⟩⟩
              case round =>
                clear H'
                try clear c1
                try clear c2
                try clear p2
                try clear q2
                try clear hx2
                try clear c3
                try clear hx3
                try clear hf3
                try clear c4
                try clear c5
                try clear c5b0
                try clear c5b1
                try clear c6
                try clear c6b0
                try clear c6b1
                try clear p6
                try clear c14
                try clear c14b0
                try clear c15
                try clear c15b0
                try clear c16
                try clear c16b0
                try clear c17
                try clear c17b0
                try clear c18
                try clear c18b0
                try clear c19
                try clear c19b0
                try clear c20
                try clear c20b0
                try clear c20b1
                try clear c21
                try clear c21b0
                try clear c22
                try clear c22b0
                try clear c23
                try clear p23
                try clear q23
                try clear hx23
                try clear c24
                try clear p24
                try clear q24
                try clear hx24
                try clear c26
                try clear c31
                try clear c33
                try clear hx33
                try clear hf33
                try clear c36
                try clear c38
                try clear hcz27_0
                try clear hcz27_1
                try clear hcz39_0
                try clear hcz39_1
                try clear hcz8_0
                try clear hcz8_1
                try clear hcz8_2
                try clear hfz27_0
                try clear hfz27_1
                try clear hfz39_0
                try clear hfz39_1
                try clear hfz8_0
                try clear hfz8_1
                try clear hfz8_2
                try clear hx239_0
                try clear hx240_0
                try clear hx240_1
                try clear hx242_0
                try clear hx33_0
                try clear p2
                try clear p239
                try clear p24
                try clear p240
                try clear p242
                try clear q2
                try clear q239
                try clear q24
                try clear q240
                try clear q242
                obtain ⟨x7_2, x58_2, rfl, HA, HK2, HO_7, HO_8, HO_56, BK231, HB⟩ := hrel
                cases gk with
                | zero => exact absurd HA.out (by simp [impl_SweepMagazine.l2])
                | succ k2 =>
                  have H := HA.out
                  clear HA
                  simp only [impl_SweepMagazine.l2] at H
                  by_cases c42 : x58_2 < (x8_1.length : Int)
                  · rw [if_pos c42] at H
                    have c42b0 : decide (x58_2 < (x8_1.length : Int)) = true := decide_eq_true c42
                    clear c42
                    by_cases c43 : 0 ≤ x58_2
                    · rw [if_pos c43] at H
                      have c43b0 : decide (0 ≤ x58_2) = true := decide_eq_true c43
                      clear c43
                      by_cases c44 : x58_2 < (x8_1.length : Int)
                      · rw [if_pos c44] at H
                        have c44b0 : decide (x58_2 < (x8_1.length : Int)) = true := decide_eq_true c44
                        clear c44
                        by_cases c45 : 0 ≤ ((rd_T30 x8_1 x58_2).f0)
                        · rw [if_pos c45] at H
                          have c45b0 : decide (0 ≤ ((rd_T30 x8_1 x58_2).f0)) = true := decide_eq_true c45
                          clear c45
                          by_cases c46 : ((rd_T30 x8_1 x58_2).f0) < (x7_2.length : Int)
                          · rw [if_pos c46] at H
                            have c46b0 : decide (((rd_T30 x8_1 x58_2).f0) < (x7_2.length : Int)) = true := decide_eq_true c46
                            clear c46
                            by_cases c47 : (rd_L4 x7_2 ((rd_T30 x8_1 x58_2).f0)).length < 8796093022208
                            · rw [if_pos c47] at H
                              have LMc47 := Aside0.mk c47
                              clear c47
                              obtain ⟨y253, hy253⟩ : ∃ y_ : List (S30), y_ = ((rd_L4 x7_2 ((rd_T30 x8_1 x58_2).f0)) ++ [(⟨(rd_T30 x8_1 x58_2).f0, (rd_T30 x8_1 x58_2).f1⟩ : S30)]) := ⟨_, rfl⟩
                              replace H : ((some (x7_2.set (((rd_T30 x8_1 x58_2).f0) : Int).toNat y253 : List (List (S30)))).bind fun y256 => (if ((rd_L4 y256 ((rd_T30 x8_1 x58_2).f0)).length : Int) > 20 then (some (([] : List (List (S30))), 0, false)) else (impl_SweepMagazine.l2 k2 y256 x8_1 x8_1 (x8_1.length : Int) (wrap64 (x58_2 + 1))))) = some (r1, r2, r3) := by first | (rw [hy253]; with_reducible exact H) | (have H2_ := (Option.bind_some _ _).symm.trans H; rw [hy253]; with_reducible exact H2_) | (have H2_ := (Option.bind_some _ _).symm.trans H; with_reducible exact H2_) | with_reducible exact H | (rw [hy253]; exact H) | exact H
                              have Ny253 := Aside0.mk hy253
                              clear hy253
                              obtain ⟨y256, hy256⟩ : ∃ y_ : List (List (S30)), y_ = (x7_2.set (((rd_T30 x8_1 x58_2).f0) : Int).toNat y253) := ⟨_, rfl⟩
                              replace H : (if ((rd_L4 y256 ((rd_T30 x8_1 x58_2).f0)).length : Int) > 20 then (some (([] : List (List (S30))), 0, false)) else (impl_SweepMagazine.l2 k2 y256 x8_1 x8_1 (x8_1.length : Int) (wrap64 (x58_2 + 1)))) = some (r1, r2, r3) := by first | (rw [hy256]; with_reducible exact H) | (have H2_ := (Option.bind_some _ _).symm.trans H; rw [hy256]; with_reducible exact H2_) | (have H2_ := (Option.bind_some _ _).symm.trans H; with_reducible exact H2_) | with_reducible exact H | (rw [hy256]; exact H) | exact H
                              have Ny256 := Aside0.mk hy256
                              clear hy256
                              by_cases c49 : ((rd_L4 y256 ((rd_T30 x8_1 x58_2).f0)).length : Int) > 20
                              · rw [if_pos c49] at H
                                have c49b0 : decide (20 < ((rd_L4 y256 ((rd_T30 x8_1 x58_2).f0)).length : Int)) = true := decide_eq_true c49
                                have c49b1 : decide (20 < (rd_L4 y256 ((rd_T30 x8_1 x58_2).f0)).length) = true := decide_eq_true (by omega)
                                clear c49
                                simp only [Option.some.injEq, Prod.mk.injEq] at H
                                obtain ⟨rfl, rfl, rfl⟩ := H
                                have p250 : 0 ≤ (x58_2 : Int) := of_decide_eq_true (by first | (with_reducible assumption) | assumption)
                                have q250 : x58_2 < (x8_1.length : Int) := of_decide_eq_true (by first | (with_reducible assumption) | assumption)
                                obtain ⟨ad250, e250, hx250_0, hx250_1⟩ := at_T30 (Kd.R_reads' HO_56.out).2.2 x58_2 p250 q250
                                cases e250
                                replace p250 := eq_true p250
                                replace q250 := eq_true q250
                                try go_wp2_with (first | ((with_reducible refine gate_dst (N := 14) rfl ?_); refine box_event ?hg (N := 14) ?hd (cs := #[.int .i64 0, .int .i64 0]) (t := 30) ?hr ?_; (case hd => rfl); (case hg => rfl); (case hr => first | (go_simp; done) | (go_simp; rfl)); intro gb251 hg w50 hbox hb; have n0_ := Aside0.mk (Kd.S_below (Kd.S_elderB (by (with_reducible repeat (first | apply Kd.S_alloc | apply Kd.S_drewN | apply Kd.S_drew)); exact HO_7.out) gb251 (Nat.le_of_eq hg.symm)) hb); have n1_ := Aside0.mk (Kd.R_below (Kd.R_elderB (by (with_reducible repeat (first | apply Kd.R_alloc | apply Kd.R_drewN | apply Kd.R_drew)); exact HO_8.out) gb251 (Nat.le_of_eq hg.symm)) hb); have n2_ := Aside0.mk (Kd.R_below (Kd.R_elderB (by (with_reducible repeat (first | apply Kd.R_alloc | apply Kd.R_drewN | apply Kd.R_drew)); exact HO_56.out) gb251 (Nat.le_of_eq hg.symm)) hb); have n3_ := Aside0.mk (blk_below (g := gb231) (o := .cells #[.string a0_0, .slice A0_1 l0_1.length c0_1, .slice A0_2 l0_2.length c0_2] 25 (0, 0)) (by (with_reducible repeat (first | refine blk_drewN ?_ _ | refine blk_drew ?_ | refine blk_alloc ?_ _)); exact BK231.out) hb); have n4_ := Aside0.mk (below_step (by repeat (first | (with_reducible first | exact HB.out | apply below_alloc | apply pw_below_drewN | apply below_drew1 | refine below_set ?_ GE231.out) | exact HB.out)) hb); have n5_ := Aside0.mk (hbox); have n6_ := Aside0.mk ((by rw [hg]; exact (below_size (by repeat (first | (with_reducible first | exact HB.out | apply below_alloc | apply pw_below_drewN | apply below_drew1 | refine below_set ?_ GE231.out) | exact HB.out))) : w.heap.size ≤ gb251)); have n7_ := Aside0.mk ((by rw [hg]; exact (below_size (by repeat (first | (with_reducible first | exact HB.out | apply below_alloc | apply pw_below_drewN | apply below_drew1 | refine below_set ?_ GE231.out) | exact HB.out))) : w.heap.size ≤ gb251)); have n8_ := Aside0.mk ((by rw [hg]; exact Nat.ne_of_lt (blk_lt (g := gb231) (o := .cells #[.string a0_0, .slice A0_1 l0_1.length c0_1, .slice A0_2 l0_2.length c0_2] 25 (0, 0)) (by (with_reducible repeat (first | refine blk_drewN ?_ _ | refine blk_drew ?_ | refine blk_alloc ?_ _)); exact BK231.out)) : gb231 ≠ gb251)); have n9_ := Aside0.mk ((by rw [hg]; exact Nat.ne_of_gt (blk_lt (g := gb231) (o := .cells #[.string a0_0, .slice A0_1 l0_1.length c0_1, .slice A0_2 l0_2.length c0_2] 25 (0, 0)) (by (with_reducible repeat (first | refine blk_drewN ?_ _ | refine blk_drew ?_ | refine blk_alloc ?_ _)); exact BK231.out)) : gb251 ≠ gb231)); clear HO_7; clear HO_8; clear HO_56; clear BK231; clear HB; have HO_7 := n0_; have HO_8 := n1_; have HO_56 := n2_; have BK231 := n3_; have HB := n4_; have BK251 := n5_; have GW251 := n6_; have GE251 := n7_; have NB231_251 := n8_; have NB251_231 := n9_; clear n0_ n1_ n2_ n3_ n4_ n5_ n6_ n7_ n8_ n9_; clear hb hbox hg; have hnb51 := NB251_231.out; have hnc51 := NB231_251.out; have hcz52_0 : w50.cell? ⟨gb251, 0, none⟩ = some (.int .i64 0) := (blk_cell BK251.out 0).trans rfl; have hcz52_1 : w50.cell? ⟨gb251, 1, none⟩ = some (.int .i64 0) := (blk_cell BK251.out 1).trans rfl; have hfz52_0 := blk_frozen BK251.out 0; have hfz52_1 := blk_frozen BK251.out 1))
                                have n0_ : Aside0 (Kd.S (Kd.slice 30 k30) 34 ((w50.setCell ⟨gb251, 0, none⟩ (.int .i64 ((rd_T30 x8_1 x58_2).f0))).setCell ⟨gb251, 1, none⟩ (.int .i64 ((rd_T30 x8_1 x58_2).f1))) w.heap.size (fun k_ => some k_ ≠ (.slice (some ad250) x8_1.length co41 : Value).ownBlock ∧ some k_ ≠ (.slice (some ad250) x8_1.length co41 : Value).ownBlock ∧ k_ ≠ gb251) v234 x7_2) := ⟨by (with_reducible repeat (first | apply Kd.S_alloc | apply Kd.S_drewN | apply Kd.S_drew)); exact Kd.S_mono (Kd.S_far (p := ⟨gb251, 1, none⟩) (Kd.S_far (p := ⟨gb251, 0, none⟩) (Kd.S_mono HO_7.out (fun k_ hk => (⟨hk, hk.2⟩ : _ ∧ k_ ≠ gb251))) (fun _ hk => hk.2) (.int .i64 ((rd_T30 x8_1 x58_2).f0))) (fun _ hk => hk.2) (.int .i64 ((rd_T30 x8_1 x58_2).f1))) (fun _ hk => ⟨hk.1.1.1, ⟨hk.1.1.2, hk.1.2⟩⟩)⟩
                                have n1_ : Aside0 (Kd.R k30 30 ((w50.setCell ⟨gb251, 0, none⟩ (.int .i64 ((rd_T30 x8_1 x58_2).f0))).setCell ⟨gb251, 1, none⟩ (.int .i64 ((rd_T30 x8_1 x58_2).f1))) w.heap.size (fun k_ => k_ ≠ gb251) (.slice (some ad250) x8_1.length co41) x8_1) := ⟨by (with_reducible repeat (first | apply Kd.R_alloc | apply Kd.R_drewN | apply Kd.R_drew)); exact Kd.R_mono (Kd.R_far (p := ⟨gb251, 1, none⟩) (Kd.R_far (p := ⟨gb251, 0, none⟩) (Kd.R_mono HO_8.out (fun k_ hk => (⟨hk, hk.2⟩ : _ ∧ k_ ≠ gb251))) (fun _ hk => hk.2) (.int .i64 ((rd_T30 x8_1 x58_2).f0))) (fun _ hk => hk.2) (.int .i64 ((rd_T30 x8_1 x58_2).f1))) (fun _ hk => hk.1.2)⟩
                                have n2_ : Aside0 (Kd.R k30 30 ((w50.setCell ⟨gb251, 0, none⟩ (.int .i64 ((rd_T30 x8_1 x58_2).f0))).setCell ⟨gb251, 1, none⟩ (.int .i64 ((rd_T30 x8_1 x58_2).f1))) w.heap.size (fun k_ => k_ ≠ gb251) (.slice (some ad250) x8_1.length co41) x8_1) := ⟨by (with_reducible repeat (first | apply Kd.R_alloc | apply Kd.R_drewN | apply Kd.R_drew)); exact Kd.R_mono (Kd.R_far (p := ⟨gb251, 1, none⟩) (Kd.R_far (p := ⟨gb251, 0, none⟩) (Kd.R_mono HO_56.out (fun k_ hk => (⟨hk, hk.2⟩ : _ ∧ k_ ≠ gb251))) (fun _ hk => hk.2) (.int .i64 ((rd_T30 x8_1 x58_2).f0))) (fun _ hk => hk.2) (.int .i64 ((rd_T30 x8_1 x58_2).f1))) (fun _ hk => hk.1.2)⟩
                                have n3_ : Aside0 (((w50.setCell ⟨gb251, 0, none⟩ (.int .i64 ((rd_T30 x8_1 x58_2).f0))).setCell ⟨gb251, 1, none⟩ (.int .i64 ((rd_T30 x8_1 x58_2).f1))).heap[gb231]? = some (.cells #[.string a0_0, .slice A0_1 l0_1.length c0_1, .slice A0_2 l0_2.length c0_2] 25 (0, 0))) := ⟨by (with_reducible repeat (first | refine blk_drewN ?_ _ | refine blk_drew ?_ | refine blk_alloc ?_ _)); refine blk_far ?_ NB231_251.out _; (with_reducible repeat (first | refine blk_drewN ?_ _ | refine blk_drew ?_ | refine blk_alloc ?_ _)); refine blk_far ?_ NB231_251.out _; (with_reducible repeat (first | refine blk_drewN ?_ _ | refine blk_drew ?_ | refine blk_alloc ?_ _)); exact BK231.out⟩
                                have n4_ : Aside0 (((w50.setCell ⟨gb251, 0, none⟩ (.int .i64 ((rd_T30 x8_1 x58_2).f0))).setCell ⟨gb251, 1, none⟩ (.int .i64 ((rd_T30 x8_1 x58_2).f1))).heap[gb251]? = some (.cells #[.int .i64 ((rd_T30 x8_1 x58_2).f0), .int .i64 ((rd_T30 x8_1 x58_2).f1)] 30 (0, 0))) := ⟨by (with_reducible repeat (first | refine blk_drewN ?_ _ | refine blk_drew ?_ | refine blk_alloc ?_ _)); refine blk_put (cs := #[.int .i64 ((rd_T30 x8_1 x58_2).f0), .int .i64 0]) ?_ 1 _ rfl; (with_reducible repeat (first | refine blk_drewN ?_ _ | refine blk_drew ?_ | refine blk_alloc ?_ _)); refine blk_put (cs := #[.int .i64 0, .int .i64 0]) ?_ 0 _ rfl; (with_reducible repeat (first | refine blk_drewN ?_ _ | refine blk_drew ?_ | refine blk_alloc ?_ _)); exact BK251.out⟩
                                have n5_ : Aside0 (Below w.heap.size w ((w50.setCell ⟨gb251, 0, none⟩ (.int .i64 ((rd_T30 x8_1 x58_2).f0))).setCell ⟨gb251, 1, none⟩ (.int .i64 ((rd_T30 x8_1 x58_2).f1)))) := ⟨by repeat (first | (with_reducible first | exact HB.out | apply below_alloc | apply pw_below_drewN | apply below_drew1 | refine below_set ?_ GE231.out | refine below_set ?_ GE251.out) | exact HB.out)⟩
                                (try clear HO_7)
                                (try clear HO_8)
                                (try clear HO_56)
                                (try clear BK231)
                                (try clear BK251)
                                (try clear HB)
                                generalize ((w50.setCell ⟨gb251, 0, none⟩ (.int .i64 ((rd_T30 x8_1 x58_2).f0))).setCell ⟨gb251, 1, none⟩ (.int .i64 ((rd_T30 x8_1 x58_2).f1))) = w53 at n0_ n1_ n2_ n3_ n4_ n5_ ⊢
                                have HO_7 := n0_
                                have HO_8 := n1_
                                have HO_56 := n2_
                                have BK231 := n3_
                                have BK251 := n4_
                                have HB := n5_
                                clear n0_ n1_ n2_ n3_ n4_ n5_
                                have n0_ := Aside0.mk (Kd.S_drew HO_7.out)
                                have n1_ := Aside0.mk (Kd.R_drew HO_8.out)
                                have n2_ := Aside0.mk (Kd.R_drew HO_56.out)
                                have n3_ := Aside0.mk (blk_drew BK231.out)
                                have n4_ := Aside0.mk (blk_drew BK251.out)
                                have n5_ := Aside0.mk (below_drew1 HB.out)
                                clear HO_7
                                clear HO_8
                                clear HO_56
                                clear BK231
                                clear BK251
                                clear HB
                                have HO_7 := n0_
                                have HO_8 := n1_
                                have HO_56 := n2_
                                have BK231 := n3_
                                have BK251 := n4_
                                have HB := n5_
                                clear n0_ n1_ n2_ n3_ n4_ n5_
                                obtain ⟨Ao55, co55, eo55⟩ := Kd.S_slice HO_7.out
                                (first | subst eo55 | (injection eo55 with f1_ f2_ f3_; have f4_ := f1_.symm; have f5_ := f3_.symm; clear f1_ f2_ f3_; subst f4_; subst f5_))
                                have p252 : 0 ≤ (((rd_T30 x8_1 x58_2).f0) : Int) := of_decide_eq_true (by first | (with_reducible assumption) | assumption)
                                have q252 : ((rd_T30 x8_1 x58_2).f0) < (x7_2.length : Int) := of_decide_eq_true (by first | (with_reducible assumption) | assumption)
                                obtain ⟨ad252, A252_0, c252_0, e252, hx252_0, hl252_0, hi252_0⟩ := at_L4 (Kd.S_reads' HO_7.out).2.2 ((rd_T30 x8_1 x58_2).f0) p252 q252
                                cases e252
                                obtain ⟨ce252, hce252, hMe252, hcc252⟩ := Kd.S_get HO_7.out [] ((rd_T30 x8_1 x58_2).f0) p252 (by first | exact q252 | exact of_decide_eq_true (by first | (with_reducible assumption) | assumption) | (have e_ := (Kd.S_reads' HO_7.out).1; omega))
                                obtain ⟨ve252_0, rfl, ge252_0⟩ := hMe252
                                have hv252_0 := hcc252 0 _ rfl
                                rw [Nat.add_zero, show ((Kd.slice 30 k30)).sz = 1 from rfl, Nat.mul_one] at hv252_0
                                replace hv252_0 := Option.some.inj (hv252_0.symm.trans hx252_0)
                                rw [hv252_0] at ge252_0
                                have HL252_0 := Aside0.mk (show Kd.R k30 30 _ _ _ _ (rd_L4 x7_2 ((rd_T30 x8_1 x58_2).f0)) from ge252_0)
                                clear hv252_0 ge252_0
                                have HX252_0 := Aside0.mk hx252_0
                                clear hcc252 hce252
                                have HR252_0 := Aside0.mk hi252_0
                                have HC252_0 := Aside0.mk hl252_0
                                clear hi252_0 hl252_0
                                replace p252 := eq_true p252
                                replace q252 := eq_true q252
                                obtain ⟨go56, co56, eo56, gb56, gl56, cl56, HG56⟩ := Kd.S_form HO_7.out (by have h_ : (((rd_T30 x8_1 x58_2).f0) : Int) < ((x7_2.length : Int) : Int) := of_decide_eq_true (by first | (with_reducible assumption) | assumption); have h2_ : 0 ≤ (((rd_T30 x8_1 x58_2).f0) : Int) := (of_decide_eq_true (by first | (with_reducible assumption) | assumption)); omega)
                                (first | cases eo56 | (injection eo56 with ea_ en_ ec_; (first | subst ea_ | (injection ea_ with ea_; subst ea_)); subst ec_; clear en_))
                                have GB56 := Aside0.mk gb56
                                have GG56 := Aside0.mk HG56
                                clear gb56 gl56 HG56
                                (first | simp only [add_plain] at hx252_0 | skip)
                                obtain ⟨oki56, ce56, hcl56, hM56, hcc56, _, _, hH56⟩ := Kd.S_elem HO_7.out [] (((rd_T30 x8_1 x58_2).f0) : Int) (of_decide_eq_true (by first | (with_reducible assumption) | assumption)) (by have h_ : (((rd_T30 x8_1 x58_2).f0) : Int) < ((x7_2.length : Int) : Int) := of_decide_eq_true (by first | (with_reducible assumption) | assumption); first | exact h_ | (have e_ := (Kd.S_reads' HO_7.out).1; omega) | simpa using h_)
                                obtain ⟨ve56_0, rfl, ge56_0⟩ := hM56
                                have hv56 := hcc56 0 _ rfl
                                have hX56 := HX252_0.out
                                (try simp only [add_plain] at hX56)
                                (try simp only [Nat.add_zero] at hv56)
                                (try rw [show ((Kd.slice 30 k30)).sz = 1 from rfl, Nat.mul_one] at hv56)
                                replace hv56 := Option.some.inj (hv56.symm.trans hX56)
                                subst hv56
                                clear hX56 hcc56 hcl56
                                have UU56 := Aside0.mk (show Kd.R k30 30 _ w.heap.size oki56 (.slice A252_0 (rd_L4 x7_2 ((rd_T30 x8_1 x58_2).f0)).length c252_0) (rd_L4 x7_2 ((rd_T30 x8_1 x58_2).f0)) from ge56_0)
                                have HH56 := Aside0.mk hH56
                                have HN56 := Aside0.mk (Kd.S_reads' HO_7.out).1
                                clear hH56 ge56_0
                                refine start_ (n := 13) (S := fun w' => w'.cell? ⟨gb251, 0, none⟩ = some (.int .i64 ((rd_T30 x8_1 x58_2).f0)) ∧ w'.cell? ⟨gb251, 1, none⟩ = some (.int .i64 ((rd_T30 x8_1 x58_2).f1)) ∧ w'.cell? ⟨go56, (((rd_T30 x8_1 x58_2).f0)).toNat, none⟩ = some (.slice A252_0 (rd_L4 x7_2 ((rd_T30 x8_1 x58_2).f0)).length c252_0)) (ds := [12]) #[false, false, false, false, false, false, false, false, false, false, false, false, false] (by kernel_rfl) rfl rfl ⟨(blk_cell BK251.out 0).trans rfl, (blk_cell BK251.out 1).trans rfl, hx252_0⟩ (fun hHeld => ?_); refine with_tabW impl_SweepMagazine.tab18 impl_SweepMagazine.bits18 (fun HT_ HW_ => ?_)
                                generalize w53.drew = w54 at HO_7 HO_8 HO_56 BK231 BK251 HB GG56 HH56 HL252_0 HR252_0 HX252_0 UU56 hx252_0 hHeld ⊢
                                refine pure_ (i := 0) (N := some 62) (v := ?_) (a' := ?_) #[true, false, false, false, false, false, false, false, false, false, false, false, false] rfl rfl (any_of HT_.out (by kernel_rfl)) (fun _ _ _ h => h) (Or.inl ⟨by rfl, ?_⟩) ?_ ?_
                                rotate_left
                                · intro w'
                                  go_simp
                                  with_reducible rfl
                                rotate_left
                                · simp only [Act.put, List.setIfInBounds_toArray, List.set_cons_zero, List.set_cons_succ, i64_w, i32_w]
                                  rfl
                                refine pure_ (i := 1) (N := some 63) (v := ?_) (a' := ?_) #[true, true, false, false, false, false, false, false, false, false, false, false, false] rfl rfl (any_of HT_.out (by kernel_rfl)) (fun _ _ _ h => h) (Or.inl ⟨by rfl, ?_⟩) ?_ ?_
                                rotate_left
                                · intro w'
                                  go_simp
                                  with_reducible rfl
                                rotate_left
                                · simp only [Act.put, List.setIfInBounds_toArray, List.set_cons_zero, List.set_cons_succ, i64_w, i32_w]
                                  rfl
                                refine pure_ (i := 3) (N := some 65) (v := ?_) (a' := ?_) #[true, true, false, true, false, false, false, false, false, false, false, false, false] rfl rfl (any_of HT_.out (by kernel_rfl)) (fun _ _ _ h => h) (Or.inl ⟨by rfl, ?_⟩) ?_ ?_
                                rotate_left
                                · intro w'
                                  go_simp
                                  with_reducible rfl
                                rotate_left
                                · simp only [Act.put, List.setIfInBounds_toArray, List.set_cons_zero, List.set_cons_succ, i64_w, i32_w]
                                  rfl
                                refine pure_ (i := 4) (N := some 66) (v := ?_) (a' := ?_) #[true, true, false, true, true, false, false, false, false, false, false, false, false] rfl rfl (any_of HT_.out (by kernel_rfl)) (fun _ _ _ h => h) (Or.inl ⟨by rfl, ?_⟩) ?_ ?_
                                rotate_left
                                · intro w'
                                  go_simp
                                  with_reducible rfl
                                rotate_left
                                · simp only [Act.put, List.setIfInBounds_toArray, List.set_cons_zero, List.set_cons_succ, i64_w, i32_w]
                                  rfl
                                refine take_ (i := 2) (N := some 64) (v := ?_) (a' := ?_) #[true, true, true, true, true, false, false, false, false, false, false, false, false] rfl rfl (take_ofW HT_.out HW_.out (by kernel_rfl)) (fun _ _ _ h => h) (Or.inl ⟨by rfl, ?_⟩) hHeld ?_ ?_
                                rotate_left
                                · rintro w' ⟨s0, s1, s2⟩
                                  go_simp
                                  with_reducible rfl
                                rotate_left
                                · simp only [Act.put, List.setIfInBounds_toArray, List.set_cons_zero, List.set_cons_succ, i64_w, i32_w]
                                  rfl
                                refine take_ (i := 5) (N := some 67) (v := ?_) (a' := ?_) #[true, true, true, true, true, true, false, false, false, false, false, false, false] rfl rfl (take_ofW HT_.out HW_.out (by kernel_rfl)) (fun _ _ _ h => h) (Or.inl ⟨by rfl, ?_⟩) hHeld ?_ ?_
                                rotate_left
                                · rintro w' ⟨s0, s1, s2⟩
                                  go_simp
                                  with_reducible rfl
                                rotate_left
                                · simp only [Act.put, List.setIfInBounds_toArray, List.set_cons_zero, List.set_cons_succ, i64_w, i32_w]
                                  rfl
                                refine pure_ (i := 6) (N := some 68) (v := ?_) (a' := ?_) #[true, true, true, true, true, true, true, false, false, false, false, false, false] rfl rfl (any_of HT_.out (by kernel_rfl)) (fun _ _ _ h => h) (Or.inl ⟨by rfl, ?_⟩) ?_ ?_
                                rotate_left
                                · intro w'
                                  go_simp
                                  with_reducible rfl
                                rotate_left
                                · simp only [Act.put, List.setIfInBounds_toArray, List.set_cons_zero, List.set_cons_succ, i64_w, i32_w]
                                  rfl
                                refine take_ (i := 7) (N := some 69) (v := ?_) (a' := ?_) #[true, true, true, true, true, true, true, true, false, false, false, false, false] rfl rfl (take_ofW HT_.out HW_.out (by kernel_rfl)) (fun _ _ _ h => h) (Or.inl ⟨by rfl, ?_⟩) hHeld ?_ ?_
                                rotate_left
                                · rintro w' ⟨s0, s1, s2⟩
                                  go_simp
                                  with_reducible rfl
                                rotate_left
                                · simp only [Act.put, List.setIfInBounds_toArray, List.set_cons_zero, List.set_cons_succ, i64_w, i32_w]
                                  rfl
                                refine take_ (i := 8) (N := some 70) (v := ?_) (a' := ?_) #[true, true, true, true, true, true, true, true, true, false, false, false, false] rfl rfl (take_ofW HT_.out HW_.out (by kernel_rfl)) (fun _ _ _ h => h) (Or.inl ⟨by rfl, ?_⟩) hHeld ?_ ?_
                                rotate_left
                                · rintro w' ⟨s0, s1, s2⟩
                                  go_simp
                                  with_reducible rfl
                                rotate_left
                                · simp only [Act.put, List.setIfInBounds_toArray, List.set_cons_zero, List.set_cons_succ, i64_w, i32_w]
                                  rfl
                                refine one_ (i := 9) (N := some 71) #[true, true, true, true, true, true, true, true, true, true, false, false, false] rfl rfl (one_of HT_.out (by kernel_rfl)) (by decide) (fun K hK => ?_)
                                refine value_ (w1 := ?_) (v := ?_) (by rfl) rfl ?_ ?_
                                rotate_left 2
                                · go_simp
                                  constructor
                                  · rfl
                                  · rfl
                                refine hK.out _ _ ⟨(blk_cell (blk_alloc BK251.out _) 0).trans rfl, (blk_cell (blk_alloc BK251.out _) 1).trans rfl, (World.cell?_alloc_lt _ _ _ (World.block_lt_of_cell? _ _ (hHeld.2.2))).trans (hHeld.2.2)⟩ (fun hHeld => ?_)
                                clear hK K
                                refine norm_ (a' := ?_) ?_ ?_
                                rotate_left
                                · show Act.put _ (some 71) _ = _
                                  simp only [Act.put, List.setIfInBounds_toArray, List.set_cons_zero, List.set_cons_succ, i64_w, i32_w]
                                  rfl
                                refine one_ (i := 10) (N := some 72) #[true, true, true, true, true, true, true, true, true, true, true, false, false] rfl rfl (one_of HT_.out (by kernel_rfl)) (by decide) (fun K hK => ?_)
                                refine Kd.R_append_step k30 (w0 := w) w.heap.size (by rfl) (.tmp 69) (.tmp 71) 34 30 (.agg #[(.int .i64 0), (.int .i64 0)]) 16 rfl Try.underlying34 info30 rfl (by decide) (by omega) (.slice A252_0 (rd_L4 x7_2 ((rd_T30 x8_1 x58_2).f0)).length c252_0) (rd_L4 x7_2 ((rd_T30 x8_1 x58_2).f0)) (⟨(rd_T30 x8_1 x58_2).f0, (rd_T30 x8_1 x58_2).f1⟩ : S30) [.int .i64 ((rd_T30 x8_1 x58_2).f0), .int .i64 ((rd_T30 x8_1 x58_2).f1)] (fun k_ => oki56 k_ ∨ ((fun k_ => some k_ ≠ (.slice (some ad250) x8_1.length co41 : Value).ownBlock ∧ some k_ ≠ (.slice (some ad250) x8_1.length co41 : Value).ownBlock ∧ k_ ≠ gb251)) k_ ∧ w54.heap.size ≤ k_) (fun _ => False) rfl rfl ?aP (fun _ hk => hk.elim) ?aF ?aO ?aB ?aS ?aL ?_
                                (case aP => exact k30_mkM _ _ _ (⟨(rd_T30 x8_1 x58_2).f0, (rd_T30 x8_1 x58_2).f1⟩ : S30))
                                (case aB => exact (by repeat (first | (with_reducible first | exact HB.out | apply below_alloc | apply pw_below_drewN | apply below_drew1 | refine below_set ?_ GE231.out | refine below_set ?_ GE251.out) | exact HB.out)))
                                (case aF => exact (fun k_ hk => .inr ⟨⟨Kd.fresh' (Kd.R_lt (by (with_reducible repeat (first | apply Kd.R_alloc | apply Kd.R_drewN | apply Kd.R_drew)); exact HO_8.out)) k_ hk, Kd.fresh' (Kd.R_lt (by (with_reducible repeat (first | apply Kd.R_alloc | apply Kd.R_drewN | apply Kd.R_drew)); exact HO_56.out)) k_ hk, Kd.freshB (g := gb251) (o := .cells #[.int .i64 ((rd_T30 x8_1 x58_2).f0), .int .i64 ((rd_T30 x8_1 x58_2).f1)] 30 (0, 0)) (by (with_reducible repeat (first | refine blk_drewN ?_ _ | refine blk_drew ?_ | refine blk_alloc ?_ _)); exact BK251.out) k_ hk⟩, hk⟩))
                                (case aO => exact (by (with_reducible repeat (first | apply Kd.R_alloc | apply Kd.R_drewN | apply Kd.R_drew)); exact Kd.R_mono UU56.out (fun _ hk => .inl hk)))
                                (case aS => exact (below_size (by repeat (first | (with_reducible first | exact HB.out | apply below_alloc | apply pw_below_drewN | apply below_drew1 | refine below_set ?_ GE231.out | refine below_set ?_ GE251.out) | exact HB.out))))
                                (case aL => have := LMc47.out; omega)
                                intro v254 w57 ho hb hg hat
                                (first | have HS2_ := cell_grown hg (hHeld.2.2) (by first | (rw [add_block]; exact (fun e_ => ((HL252_0.out.1 _ e_.symm).2) rfl)) | (show some (Addr.add _ _).block ≠ _; rw [add_block]; exact (fun e_ => ((HL252_0.out.1 _ e_.symm).2) rfl)) | exact (fun e_ => ((HL252_0.out.1 _ e_.symm).2) rfl)) | have HS2_ := cell_grown hg (cell_unalloc (hHeld.2.2) (by first | (rw [add_block]; exact Kd.S_lt HO_7.out _ rfl) | (show (Addr.add _ _).block < _; rw [add_block]; exact Kd.S_lt HO_7.out _ rfl) | exact Kd.S_lt HO_7.out _ rfl)) (by first | (rw [add_block]; exact (fun e_ => ((HL252_0.out.1 _ e_.symm).2) rfl)) | (show some (Addr.add _ _).block ≠ _; rw [add_block]; exact (fun e_ => ((HL252_0.out.1 _ e_.symm).2) rfl)) | exact (fun e_ => ((HL252_0.out.1 _ e_.symm).2) rfl)))
                                rw [← Ny253.out] at ho
                                have n0_ := Aside0.mk (Kd.R_grown2 (by (with_reducible repeat (first | apply Kd.R_alloc | apply Kd.R_drewN | apply Kd.R_drew)); exact HO_8.out) rfl hg (fun k_ e_ => (HL252_0.out.1 k_ e_).1.1))
                                have n1_ := Aside0.mk (Kd.R_grown2 (by (with_reducible repeat (first | apply Kd.R_alloc | apply Kd.R_drewN | apply Kd.R_drew)); exact HO_56.out) rfl hg (fun k_ e_ => (HL252_0.out.1 k_ e_).1.2.1))
                                have n2_ := Aside0.mk (blk_grown (g := gb231) (o := .cells #[.string a0_0, .slice A0_1 l0_1.length c0_1, .slice A0_2 l0_2.length c0_2] 25 (0, 0)) (by (with_reducible repeat (first | refine blk_drewN ?_ _ | refine blk_drew ?_ | refine blk_alloc ?_ _)); exact BK231.out) hg (Kd.R_ne HL252_0.out BK231.out (by decide)))
                                have n3_ := Aside0.mk (blk_grown (g := gb251) (o := .cells #[.int .i64 ((rd_T30 x8_1 x58_2).f0), .int .i64 ((rd_T30 x8_1 x58_2).f1)] 30 (0, 0)) (by (with_reducible repeat (first | refine blk_drewN ?_ _ | refine blk_drew ?_ | refine blk_alloc ?_ _)); exact BK251.out) hg (Kd.R_away HL252_0.out (fun _ hk => hk.1.2.2)))
                                have n4_ := Aside0.mk (hb)
                                have n5_ := Aside0.mk (Kd.H_grown (Kd.H_widen (by repeat (first | exact HH56.out | refine Kd.H_alloc ?_ _ | refine Kd.H_drewN ?_ _ | refine Kd.H_drew ?_))) hg (fun k_ e_ => .inl (UU56.out.1 k_ e_)))
                                have n6_ := Aside0.mk (ho)
                                clear HO_8
                                clear HO_56
                                clear BK231
                                clear BK251
                                clear HB
                                clear HH56
                                clear HO_7
                                clear UU56
                                clear HL252_0
                                have HO_8 := n0_
                                have HO_56 := n1_
                                have BK231 := n2_
                                have BK251 := n3_
                                have HB := n4_
                                have HH56 := n5_
                                have HO255 := n6_
                                clear n0_ n1_ n2_ n3_ n4_ n5_ n6_
                                clear ho hb hg hat
                                have p48 : 0 ≤ (((rd_T30 x8_1 x58_2).f0) : Int) := of_decide_eq_true (by first | (with_reducible assumption) | assumption)
                                have q48 : (((rd_T30 x8_1 x58_2).f0) : Int) < ((x7_2.length : Int) : Int) := of_decide_eq_true (by first | (with_reducible assumption) | assumption)
                                replace p48 := eq_true p48
                                replace q48 := eq_true q48
                                obtain ⟨Ao60, co60, eo60⟩ := Kd.R_slice HO255.out
                                (first | subst eo60 | (injection eo60 with f1_ f2_ f3_; have f4_ := f1_.symm; have f5_ := f3_.symm; clear f1_ f2_ f3_; subst f4_; subst f5_))
                                obtain ⟨_, _, hraw58, _, _, hcc58, _⟩ := Kd.H_raw HH56.out (of_decide_eq_true (by first | (with_reducible assumption) | assumption)) (by have h_ : (((rd_T30 x8_1 x58_2).f0) : Int) < ((x7_2.length : Int) : Int) := of_decide_eq_true (by first | (with_reducible assumption) | assumption); first | exact h_ | (have e_ := (HN56.out); omega) | simpa using h_)
                                obtain ⟨_, hfr58⟩ := Kd.H_at HH56.out (of_decide_eq_true (by first | (with_reducible assumption) | assumption)) (by have h_ : (((rd_T30 x8_1 x58_2).f0) : Int) < ((x7_2.length : Int) : Int) := of_decide_eq_true (by first | (with_reducible assumption) | assumption); first | exact h_ | (have e_ := (HN56.out); omega) | simpa using h_)
                                have hx58_0 := hcc58 0 _ rfl
                                have hf58_0 := hfr58 0
                                (try simp only [Nat.add_zero] at hx58_0 hf58_0)
                                (try rw [show ((Kd.slice 30 k30)).sz = 1 from rfl, Nat.mul_one] at hx58_0)
                                (try rw [show ((Kd.slice 30 k30)).sz = 1 from rfl, Nat.mul_one] at hf58_0)
                                have HP58 := Kd.S_seg0 HH56.out (of_decide_eq_true (by first | (with_reducible assumption) | assumption)) (by have h_ : (((rd_T30 x8_1 x58_2).f0) : Int) < ((x7_2.length : Int) : Int) := of_decide_eq_true (by first | (with_reducible assumption) | assumption); first | exact h_ | (have e_ := (HN56.out); omega) | simpa using h_) (seg := [.slice Ao60 y253.length co60]) (j := 0) (show 1 ≤ 1 from by decide) (x' := y253) (Kd.M_row HO255.out) (fun _ hk => hk)
                                (try simp only [show ((Kd.slice 30 k30)).sz = 1 from rfl, Nat.mul_one, Nat.add_zero] at HP58)
                                clear hcc58 hfr58
                                have HNB231_go56 := Aside0.mk (show gb231 ≠ go56 from by have h_ := Kd.R_ne hraw58 BK231.out (by decide); intro e_; exact h_ (by rw [e_]; rfl))
                                have HNB251_go56 := Aside0.mk (show gb251 ≠ go56 from by have h_ := Kd.R_ne hraw58 BK251.out (by decide); intro e_; exact h_ (by rw [e_]; rfl))
                                have HS58 := HP58.1
                                rw [← Ny256.out] at HS58
                                have HQ58 := Aside0.mk HS58
                                obtain ⟨_, hgg58⟩ := Kd.R_typed hraw58 go56 rfl
                                have GG58_ := Aside0.mk hgg58
                                clear HP58 HS58 hgg58
                                refine hK.out _ _ ⟨(blk_cell BK251.out 0).trans rfl, (blk_cell BK251.out 1).trans rfl, HS2_⟩ (fun hHeld => ?_)
                                clear hK K
                                refine norm_ (a' := ?_) ?_ ?_
                                rotate_left
                                · show Act.put _ (some 72) _ = _
                                  simp only [Act.put, List.setIfInBounds_toArray, List.set_cons_zero, List.set_cons_succ, i64_w, i32_w]
                                  rfl
                                refine pure_ (i := 11) (N := some 73) (v := ?_) (a' := ?_) #[true, true, true, true, true, true, true, true, true, true, true, true, false] rfl rfl (any_of HT_.out (by kernel_rfl)) (fun _ _ _ h => h) (Or.inl ⟨by rfl, ?_⟩) ?_ ?_
                                rotate_left
                                · intro w'
                                  go_simp
                                  with_reducible rfl
                                rotate_left
                                · simp only [Act.put, List.setIfInBounds_toArray, List.set_cons_zero, List.set_cons_succ, i64_w, i32_w]
                                  rfl
                                refine last_ (i := 12) (N := none) #[true, true, true, true, true, true, true, true, true, true, true, true, true] rfl rfl (one_of HT_.out (by kernel_rfl)) (by decide) (fun K hK => ?_)
                                refine skip_ (w1 := ?_) (by rfl) rfl ?_ ?_
                                rotate_left
                                · go_simp
                                  rfl
                                refine hK.out _ _ ?_
                                clear hK K
                                refine done_ (done_of HT_.out (by kernel_rfl)) ?_
                                have n0_ : Aside0 (Kd.R k30 30 (w57.setCell ⟨go56, (((rd_T30 x8_1 x58_2).f0) : Int).toNat, none⟩ (.slice Ao60 y253.length co60)) w.heap.size (fun k_ => k_ ≠ gb251) (.slice (some ad250) x8_1.length co41) x8_1) := ⟨by (with_reducible repeat (first | apply Kd.R_alloc | apply Kd.R_drewN | apply Kd.R_drew)); exact Kd.R_mono (Kd.R_far (p := ⟨go56, (((rd_T30 x8_1 x58_2).f0) : Int).toNat, none⟩) (Kd.R_types HO_8.out GG58_.out (by decide)) (fun _ hk => hk.2) (.slice Ao60 y253.length co60)) (fun _ hk => hk.1)⟩
                                have n1_ : Aside0 (Kd.R k30 30 (w57.setCell ⟨go56, (((rd_T30 x8_1 x58_2).f0) : Int).toNat, none⟩ (.slice Ao60 y253.length co60)) w.heap.size (fun k_ => k_ ≠ gb251) (.slice (some ad250) x8_1.length co41) x8_1) := ⟨by (with_reducible repeat (first | apply Kd.R_alloc | apply Kd.R_drewN | apply Kd.R_drew)); exact Kd.R_mono (Kd.R_far (p := ⟨go56, (((rd_T30 x8_1 x58_2).f0) : Int).toNat, none⟩) (Kd.R_types HO_56.out GG58_.out (by decide)) (fun _ hk => hk.2) (.slice Ao60 y253.length co60)) (fun _ hk => hk.1)⟩
                                have n2_ : Aside0 (Kd.S (Kd.slice 30 k30) 34 (w57.setCell ⟨go56, (((rd_T30 x8_1 x58_2).f0) : Int).toNat, none⟩ (.slice Ao60 y253.length co60)) w.heap.size (fun k_ => some k_ ≠ (.slice (some ad250) x8_1.length co41 : Value).ownBlock ∧ some k_ ≠ (.slice (some ad250) x8_1.length co41 : Value).ownBlock ∧ k_ ≠ gb251) (.slice (some ⟨go56, 0, none⟩) x7_2.length co55) y256) := ⟨by (with_reducible repeat (first | apply Kd.S_alloc | apply Kd.S_drewN | apply Kd.S_drew)); exact HQ58.out⟩
                                have n3_ : Aside0 ((w57.setCell ⟨go56, (((rd_T30 x8_1 x58_2).f0) : Int).toNat, none⟩ (.slice Ao60 y253.length co60)).heap[gb231]? = some (.cells #[.string a0_0, .slice A0_1 l0_1.length c0_1, .slice A0_2 l0_2.length c0_2] 25 (0, 0))) := ⟨by (with_reducible repeat (first | refine blk_drewN ?_ _ | refine blk_drew ?_ | refine blk_alloc ?_ _)); refine blk_far ?_ HNB231_go56.out _; (with_reducible repeat (first | refine blk_drewN ?_ _ | refine blk_drew ?_ | refine blk_alloc ?_ _)); exact BK231.out⟩
                                have n4_ : Aside0 ((w57.setCell ⟨go56, (((rd_T30 x8_1 x58_2).f0) : Int).toNat, none⟩ (.slice Ao60 y253.length co60)).heap[gb251]? = some (.cells #[.int .i64 ((rd_T30 x8_1 x58_2).f0), .int .i64 ((rd_T30 x8_1 x58_2).f1)] 30 (0, 0))) := ⟨by (with_reducible repeat (first | refine blk_drewN ?_ _ | refine blk_drew ?_ | refine blk_alloc ?_ _)); refine blk_far ?_ HNB251_go56.out _; (with_reducible repeat (first | refine blk_drewN ?_ _ | refine blk_drew ?_ | refine blk_alloc ?_ _)); exact BK251.out⟩
                                have n5_ : Aside0 (Below w.heap.size w (w57.setCell ⟨go56, (((rd_T30 x8_1 x58_2).f0) : Int).toNat, none⟩ (.slice Ao60 y253.length co60))) := ⟨by repeat (first | (with_reducible first | exact HB.out | apply below_alloc | apply pw_below_drewN | apply below_drew1 | refine below_set ?_ GB56.out | refine below_set ?_ GE231.out | refine below_set ?_ GE251.out) | exact HB.out)⟩
                                (try clear HO_8)
                                (try clear HO_56)
                                (try clear HO_7)
                                (try clear BK231)
                                (try clear BK251)
                                (try clear HB)
                                generalize (w57.setCell ⟨go56, (((rd_T30 x8_1 x58_2).f0) : Int).toNat, none⟩ (.slice Ao60 y253.length co60)) = w61 at n0_ n1_ n2_ n3_ n4_ n5_ ⊢
                                have HO_8 := n0_
                                have HO_56 := n1_
                                have HO_7 := n2_
                                have BK231 := n3_
                                have BK251 := n4_
                                have HB := n5_
                                clear n0_ n1_ n2_ n3_ n4_ n5_
                                have hcz62_0 : w61.cell? ⟨gb251, 0, none⟩ = some (.int .i64 ((rd_T30 x8_1 x58_2).f0)) := (blk_cell BK251.out 0).trans rfl
                                have hcz62_1 : w61.cell? ⟨gb251, 1, none⟩ = some (.int .i64 ((rd_T30 x8_1 x58_2).f1)) := (blk_cell BK251.out 1).trans rfl
                                have hfz62_0 := blk_frozen BK251.out 0
                                have hfz62_1 := blk_frozen BK251.out 1
                                have p257 : 0 ≤ (((rd_T30 x8_1 x58_2).f0) : Int) := of_decide_eq_true (by first | (with_reducible assumption) | assumption)
                                have q257 : ((rd_T30 x8_1 x58_2).f0) < (y256.length : Int) := (by have h_ : (((rd_T30 x8_1 x58_2).f0) : Int) < ((x7_2.length : Int) : Int) := of_decide_eq_true (by first | (with_reducible assumption) | assumption); first | (have e_ := (Kd.S_reads' HO_7.out).1; omega) | simpa only [Ny256.out, List.length_set] using h_)
                                have ql257 : ((((rd_T30 x8_1 x58_2).f0) : Int) < ((x7_2.length : Int) : Int)) = True := eq_true (of_decide_eq_true (by first | (with_reducible assumption) | assumption))
                                obtain ⟨ad257, A257_0, c257_0, e257, hx257_0, hl257_0, hi257_0⟩ := at_L4 (Kd.S_reads' HO_7.out).2.2 ((rd_T30 x8_1 x58_2).f0) p257 q257
                                obtain rfl : (⟨go56, 0, none⟩ : Addr) = ad257 := (by injection e257)
                                obtain ⟨ce257, hce257, hMe257, hcc257⟩ := Kd.S_get HO_7.out [] ((rd_T30 x8_1 x58_2).f0) p257 (by first | exact q257 | exact of_decide_eq_true (by first | (with_reducible assumption) | assumption) | (have e_ := (Kd.S_reads' HO_7.out).1; omega))
                                obtain ⟨ve257_0, rfl, ge257_0⟩ := hMe257
                                have hv257_0 := hcc257 0 _ rfl
                                rw [Nat.add_zero, show ((Kd.slice 30 k30)).sz = 1 from rfl, Nat.mul_one] at hv257_0
                                replace hv257_0 := Option.some.inj (hv257_0.symm.trans hx257_0)
                                rw [hv257_0] at ge257_0
                                have HL257_0 := Aside0.mk (show Kd.R k30 30 _ _ _ _ (rd_L4 y256 ((rd_T30 x8_1 x58_2).f0)) from ge257_0)
                                clear hv257_0 ge257_0
                                have HX257_0 := Aside0.mk hx257_0
                                clear hcc257 hce257
                                (first | simp only [add_plain] at hx257_0 | simp only [add_at] at hx257_0 | simp only [Addr.add, Nat.zero_add] at hx257_0 | skip)
                                have HR257_0 := Aside0.mk hi257_0
                                have HC257_0 := Aside0.mk hl257_0
                                clear hi257_0 hl257_0
                                replace p257 := eq_true p257
                                replace q257 := eq_true q257
                                try go_wp2
                                go_ret3
                                exact ⟨_, by first | rfl | (simp only [i64_w, i32_w]; rfl) | (simp only [i64_w, i32_w, wrap64_zero, Int.sub_zero, Int.add_zero, Int.mul_zero, Int.zero_mul]; rfl) | (simp [errW_none, errW_some] <;> rfl) | (simp [*, errW_none, errW_some] <;> rfl), by first | exact Kd.S_nil _ _ _ _ _ | exact Kd.N_nil _ _ _ _ _ | exact Kd.V_nil _ _ _ _ _ | exact Kd.Q_nil _ _ _ _ _ | exact Kd.R_nil _ _ _ _ _, by repeat (first | (with_reducible first | exact HB.out | apply below_alloc | apply pw_below_drewN | apply below_drew1 | refine below_set ?_ GE231.out | refine below_set ?_ GE251.out) | exact HB.out)⟩
                              · rw [if_neg c49] at H
                                have c49b0 : decide (20 < ((rd_L4 y256 ((rd_T30 x8_1 x58_2).f0)).length : Int)) = false := decide_eq_false c49
                                have c49b1 : decide (20 < (rd_L4 y256 ((rd_T30 x8_1 x58_2).f0)).length) = false := decide_eq_false (by omega)
                                clear c49
                                have H' := Aside0.mk H
                                clear H
                                have p250 : 0 ≤ (x58_2 : Int) := of_decide_eq_true (by first | (with_reducible assumption) | assumption)
                                have q250 : x58_2 < (x8_1.length : Int) := of_decide_eq_true (by first | (with_reducible assumption) | assumption)
                                obtain ⟨ad250, e250, hx250_0, hx250_1⟩ := at_T30 (Kd.R_reads' HO_56.out).2.2 x58_2 p250 q250
                                cases e250
                                replace p250 := eq_true p250
                                replace q250 := eq_true q250
                                try go_wp2_with (first | ((with_reducible refine gate_dst (N := 14) rfl ?_); refine box_event ?hg (N := 14) ?hd (cs := #[.int .i64 0, .int .i64 0]) (t := 30) ?hr ?_; (case hd => rfl); (case hg => rfl); (case hr => first | (go_simp; done) | (go_simp; rfl)); intro gb251 hg w63 hbox hb; have n0_ := Aside0.mk (Kd.S_below (Kd.S_elderB (by (with_reducible repeat (first | apply Kd.S_alloc | apply Kd.S_drewN | apply Kd.S_drew)); exact HO_7.out) gb251 (Nat.le_of_eq hg.symm)) hb); have n1_ := Aside0.mk (Kd.R_below (Kd.R_elderB (by (with_reducible repeat (first | apply Kd.R_alloc | apply Kd.R_drewN | apply Kd.R_drew)); exact HO_8.out) gb251 (Nat.le_of_eq hg.symm)) hb); have n2_ := Aside0.mk (Kd.R_below (Kd.R_elderB (by (with_reducible repeat (first | apply Kd.R_alloc | apply Kd.R_drewN | apply Kd.R_drew)); exact HO_56.out) gb251 (Nat.le_of_eq hg.symm)) hb); have n3_ := Aside0.mk (blk_below (g := gb231) (o := .cells #[.string a0_0, .slice A0_1 l0_1.length c0_1, .slice A0_2 l0_2.length c0_2] 25 (0, 0)) (by (with_reducible repeat (first | refine blk_drewN ?_ _ | refine blk_drew ?_ | refine blk_alloc ?_ _)); exact BK231.out) hb); have n4_ := Aside0.mk (below_step (by repeat (first | (with_reducible first | exact HB.out | apply below_alloc | apply pw_below_drewN | apply below_drew1 | refine below_set ?_ GE231.out) | exact HB.out)) hb); have n5_ := Aside0.mk (hbox); have n6_ := Aside0.mk ((by rw [hg]; exact (below_size (by repeat (first | (with_reducible first | exact HB.out | apply below_alloc | apply pw_below_drewN | apply below_drew1 | refine below_set ?_ GE231.out) | exact HB.out))) : w.heap.size ≤ gb251)); have n7_ := Aside0.mk ((by rw [hg]; exact (below_size (by repeat (first | (with_reducible first | exact HB.out | apply below_alloc | apply pw_below_drewN | apply below_drew1 | refine below_set ?_ GE231.out) | exact HB.out))) : w.heap.size ≤ gb251)); have n8_ := Aside0.mk ((by rw [hg]; exact Nat.ne_of_lt (blk_lt (g := gb231) (o := .cells #[.string a0_0, .slice A0_1 l0_1.length c0_1, .slice A0_2 l0_2.length c0_2] 25 (0, 0)) (by (with_reducible repeat (first | refine blk_drewN ?_ _ | refine blk_drew ?_ | refine blk_alloc ?_ _)); exact BK231.out)) : gb231 ≠ gb251)); have n9_ := Aside0.mk ((by rw [hg]; exact Nat.ne_of_gt (blk_lt (g := gb231) (o := .cells #[.string a0_0, .slice A0_1 l0_1.length c0_1, .slice A0_2 l0_2.length c0_2] 25 (0, 0)) (by (with_reducible repeat (first | refine blk_drewN ?_ _ | refine blk_drew ?_ | refine blk_alloc ?_ _)); exact BK231.out)) : gb251 ≠ gb231)); clear HO_7; clear HO_8; clear HO_56; clear BK231; clear HB; have HO_7 := n0_; have HO_8 := n1_; have HO_56 := n2_; have BK231 := n3_; have HB := n4_; have BK251 := n5_; have GW251 := n6_; have GE251 := n7_; have NB231_251 := n8_; have NB251_231 := n9_; clear n0_ n1_ n2_ n3_ n4_ n5_ n6_ n7_ n8_ n9_; clear hb hbox hg; have hnb64 := NB251_231.out; have hnc64 := NB231_251.out; have hcz65_0 : w63.cell? ⟨gb251, 0, none⟩ = some (.int .i64 0) := (blk_cell BK251.out 0).trans rfl; have hcz65_1 : w63.cell? ⟨gb251, 1, none⟩ = some (.int .i64 0) := (blk_cell BK251.out 1).trans rfl; have hfz65_0 := blk_frozen BK251.out 0; have hfz65_1 := blk_frozen BK251.out 1))
                                have n0_ : Aside0 (Kd.S (Kd.slice 30 k30) 34 ((w63.setCell ⟨gb251, 0, none⟩ (.int .i64 ((rd_T30 x8_1 x58_2).f0))).setCell ⟨gb251, 1, none⟩ (.int .i64 ((rd_T30 x8_1 x58_2).f1))) w.heap.size (fun k_ => some k_ ≠ (.slice (some ad250) x8_1.length co41 : Value).ownBlock ∧ some k_ ≠ (.slice (some ad250) x8_1.length co41 : Value).ownBlock ∧ k_ ≠ gb251) v234 x7_2) := ⟨by (with_reducible repeat (first | apply Kd.S_alloc | apply Kd.S_drewN | apply Kd.S_drew)); exact Kd.S_mono (Kd.S_far (p := ⟨gb251, 1, none⟩) (Kd.S_far (p := ⟨gb251, 0, none⟩) (Kd.S_mono HO_7.out (fun k_ hk => (⟨hk, hk.2⟩ : _ ∧ k_ ≠ gb251))) (fun _ hk => hk.2) (.int .i64 ((rd_T30 x8_1 x58_2).f0))) (fun _ hk => hk.2) (.int .i64 ((rd_T30 x8_1 x58_2).f1))) (fun _ hk => ⟨hk.1.1.1, ⟨hk.1.1.2, hk.1.2⟩⟩)⟩
                                have n1_ : Aside0 (Kd.R k30 30 ((w63.setCell ⟨gb251, 0, none⟩ (.int .i64 ((rd_T30 x8_1 x58_2).f0))).setCell ⟨gb251, 1, none⟩ (.int .i64 ((rd_T30 x8_1 x58_2).f1))) w.heap.size (fun k_ => k_ ≠ gb251) (.slice (some ad250) x8_1.length co41) x8_1) := ⟨by (with_reducible repeat (first | apply Kd.R_alloc | apply Kd.R_drewN | apply Kd.R_drew)); exact Kd.R_mono (Kd.R_far (p := ⟨gb251, 1, none⟩) (Kd.R_far (p := ⟨gb251, 0, none⟩) (Kd.R_mono HO_8.out (fun k_ hk => (⟨hk, hk.2⟩ : _ ∧ k_ ≠ gb251))) (fun _ hk => hk.2) (.int .i64 ((rd_T30 x8_1 x58_2).f0))) (fun _ hk => hk.2) (.int .i64 ((rd_T30 x8_1 x58_2).f1))) (fun _ hk => hk.1.2)⟩
                                have n2_ : Aside0 (Kd.R k30 30 ((w63.setCell ⟨gb251, 0, none⟩ (.int .i64 ((rd_T30 x8_1 x58_2).f0))).setCell ⟨gb251, 1, none⟩ (.int .i64 ((rd_T30 x8_1 x58_2).f1))) w.heap.size (fun k_ => k_ ≠ gb251) (.slice (some ad250) x8_1.length co41) x8_1) := ⟨by (with_reducible repeat (first | apply Kd.R_alloc | apply Kd.R_drewN | apply Kd.R_drew)); exact Kd.R_mono (Kd.R_far (p := ⟨gb251, 1, none⟩) (Kd.R_far (p := ⟨gb251, 0, none⟩) (Kd.R_mono HO_56.out (fun k_ hk => (⟨hk, hk.2⟩ : _ ∧ k_ ≠ gb251))) (fun _ hk => hk.2) (.int .i64 ((rd_T30 x8_1 x58_2).f0))) (fun _ hk => hk.2) (.int .i64 ((rd_T30 x8_1 x58_2).f1))) (fun _ hk => hk.1.2)⟩
                                have n3_ : Aside0 (((w63.setCell ⟨gb251, 0, none⟩ (.int .i64 ((rd_T30 x8_1 x58_2).f0))).setCell ⟨gb251, 1, none⟩ (.int .i64 ((rd_T30 x8_1 x58_2).f1))).heap[gb231]? = some (.cells #[.string a0_0, .slice A0_1 l0_1.length c0_1, .slice A0_2 l0_2.length c0_2] 25 (0, 0))) := ⟨by (with_reducible repeat (first | refine blk_drewN ?_ _ | refine blk_drew ?_ | refine blk_alloc ?_ _)); refine blk_far ?_ NB231_251.out _; (with_reducible repeat (first | refine blk_drewN ?_ _ | refine blk_drew ?_ | refine blk_alloc ?_ _)); refine blk_far ?_ NB231_251.out _; (with_reducible repeat (first | refine blk_drewN ?_ _ | refine blk_drew ?_ | refine blk_alloc ?_ _)); exact BK231.out⟩
                                have n4_ : Aside0 (((w63.setCell ⟨gb251, 0, none⟩ (.int .i64 ((rd_T30 x8_1 x58_2).f0))).setCell ⟨gb251, 1, none⟩ (.int .i64 ((rd_T30 x8_1 x58_2).f1))).heap[gb251]? = some (.cells #[.int .i64 ((rd_T30 x8_1 x58_2).f0), .int .i64 ((rd_T30 x8_1 x58_2).f1)] 30 (0, 0))) := ⟨by (with_reducible repeat (first | refine blk_drewN ?_ _ | refine blk_drew ?_ | refine blk_alloc ?_ _)); refine blk_put (cs := #[.int .i64 ((rd_T30 x8_1 x58_2).f0), .int .i64 0]) ?_ 1 _ rfl; (with_reducible repeat (first | refine blk_drewN ?_ _ | refine blk_drew ?_ | refine blk_alloc ?_ _)); refine blk_put (cs := #[.int .i64 0, .int .i64 0]) ?_ 0 _ rfl; (with_reducible repeat (first | refine blk_drewN ?_ _ | refine blk_drew ?_ | refine blk_alloc ?_ _)); exact BK251.out⟩
                                have n5_ : Aside0 (Below w.heap.size w ((w63.setCell ⟨gb251, 0, none⟩ (.int .i64 ((rd_T30 x8_1 x58_2).f0))).setCell ⟨gb251, 1, none⟩ (.int .i64 ((rd_T30 x8_1 x58_2).f1)))) := ⟨by repeat (first | (with_reducible first | exact HB.out | apply below_alloc | apply pw_below_drewN | apply below_drew1 | refine below_set ?_ GE231.out | refine below_set ?_ GE251.out) | exact HB.out)⟩
                                (try clear HO_7)
                                (try clear HO_8)
                                (try clear HO_56)
                                (try clear BK231)
                                (try clear BK251)
                                (try clear HB)
                                generalize ((w63.setCell ⟨gb251, 0, none⟩ (.int .i64 ((rd_T30 x8_1 x58_2).f0))).setCell ⟨gb251, 1, none⟩ (.int .i64 ((rd_T30 x8_1 x58_2).f1))) = w66 at n0_ n1_ n2_ n3_ n4_ n5_ ⊢
                                have HO_7 := n0_
                                have HO_8 := n1_
                                have HO_56 := n2_
                                have BK231 := n3_
                                have BK251 := n4_
                                have HB := n5_
                                clear n0_ n1_ n2_ n3_ n4_ n5_
                                have n0_ := Aside0.mk (Kd.S_drew HO_7.out)
                                have n1_ := Aside0.mk (Kd.R_drew HO_8.out)
                                have n2_ := Aside0.mk (Kd.R_drew HO_56.out)
                                have n3_ := Aside0.mk (blk_drew BK231.out)
                                have n4_ := Aside0.mk (blk_drew BK251.out)
                                have n5_ := Aside0.mk (below_drew1 HB.out)
                                clear HO_7
                                clear HO_8
                                clear HO_56
                                clear BK231
                                clear BK251
                                clear HB
                                have HO_7 := n0_
                                have HO_8 := n1_
                                have HO_56 := n2_
                                have BK231 := n3_
                                have BK251 := n4_
                                have HB := n5_
                                clear n0_ n1_ n2_ n3_ n4_ n5_
                                obtain ⟨Ao68, co68, eo68⟩ := Kd.S_slice HO_7.out
                                (first | subst eo68 | (injection eo68 with f1_ f2_ f3_; have f4_ := f1_.symm; have f5_ := f3_.symm; clear f1_ f2_ f3_; subst f4_; subst f5_))
                                have p252 : 0 ≤ (((rd_T30 x8_1 x58_2).f0) : Int) := of_decide_eq_true (by first | (with_reducible assumption) | assumption)
                                have q252 : ((rd_T30 x8_1 x58_2).f0) < (x7_2.length : Int) := of_decide_eq_true (by first | (with_reducible assumption) | assumption)
                                obtain ⟨ad252, A252_0, c252_0, e252, hx252_0, hl252_0, hi252_0⟩ := at_L4 (Kd.S_reads' HO_7.out).2.2 ((rd_T30 x8_1 x58_2).f0) p252 q252
                                cases e252
                                obtain ⟨ce252, hce252, hMe252, hcc252⟩ := Kd.S_get HO_7.out [] ((rd_T30 x8_1 x58_2).f0) p252 (by first | exact q252 | exact of_decide_eq_true (by first | (with_reducible assumption) | assumption) | (have e_ := (Kd.S_reads' HO_7.out).1; omega))
                                obtain ⟨ve252_0, rfl, ge252_0⟩ := hMe252
                                have hv252_0 := hcc252 0 _ rfl
                                rw [Nat.add_zero, show ((Kd.slice 30 k30)).sz = 1 from rfl, Nat.mul_one] at hv252_0
                                replace hv252_0 := Option.some.inj (hv252_0.symm.trans hx252_0)
                                rw [hv252_0] at ge252_0
                                have HL252_0 := Aside0.mk (show Kd.R k30 30 _ _ _ _ (rd_L4 x7_2 ((rd_T30 x8_1 x58_2).f0)) from ge252_0)
                                clear hv252_0 ge252_0
                                have HX252_0 := Aside0.mk hx252_0
                                clear hcc252 hce252
                                have HR252_0 := Aside0.mk hi252_0
                                have HC252_0 := Aside0.mk hl252_0
                                clear hi252_0 hl252_0
                                replace p252 := eq_true p252
                                replace q252 := eq_true q252
                                obtain ⟨go69, co69, eo69, gb69, gl69, cl69, HG69⟩ := Kd.S_form HO_7.out (by have h_ : (((rd_T30 x8_1 x58_2).f0) : Int) < ((x7_2.length : Int) : Int) := of_decide_eq_true (by first | (with_reducible assumption) | assumption); have h2_ : 0 ≤ (((rd_T30 x8_1 x58_2).f0) : Int) := (of_decide_eq_true (by first | (with_reducible assumption) | assumption)); omega)
                                (first | cases eo69 | (injection eo69 with ea_ en_ ec_; (first | subst ea_ | (injection ea_ with ea_; subst ea_)); subst ec_; clear en_))
                                have GB69 := Aside0.mk gb69
                                have GG69 := Aside0.mk HG69
                                clear gb69 gl69 HG69
                                (first | simp only [add_plain] at hx252_0 | skip)
                                obtain ⟨oki69, ce69, hcl69, hM69, hcc69, _, _, hH69⟩ := Kd.S_elem HO_7.out [] (((rd_T30 x8_1 x58_2).f0) : Int) (of_decide_eq_true (by first | (with_reducible assumption) | assumption)) (by have h_ : (((rd_T30 x8_1 x58_2).f0) : Int) < ((x7_2.length : Int) : Int) := of_decide_eq_true (by first | (with_reducible assumption) | assumption); first | exact h_ | (have e_ := (Kd.S_reads' HO_7.out).1; omega) | simpa using h_)
                                obtain ⟨ve69_0, rfl, ge69_0⟩ := hM69
                                have hv69 := hcc69 0 _ rfl
                                have hX69 := HX252_0.out
                                (try simp only [add_plain] at hX69)
                                (try simp only [Nat.add_zero] at hv69)
                                (try rw [show ((Kd.slice 30 k30)).sz = 1 from rfl, Nat.mul_one] at hv69)
                                replace hv69 := Option.some.inj (hv69.symm.trans hX69)
                                subst hv69
                                clear hX69 hcc69 hcl69
                                have UU69 := Aside0.mk (show Kd.R k30 30 _ w.heap.size oki69 (.slice A252_0 (rd_L4 x7_2 ((rd_T30 x8_1 x58_2).f0)).length c252_0) (rd_L4 x7_2 ((rd_T30 x8_1 x58_2).f0)) from ge69_0)
                                have HH69 := Aside0.mk hH69
                                have HN69 := Aside0.mk (Kd.S_reads' HO_7.out).1
                                clear hH69 ge69_0
                                refine start_ (n := 13) (S := fun w' => w'.cell? ⟨gb251, 0, none⟩ = some (.int .i64 ((rd_T30 x8_1 x58_2).f0)) ∧ w'.cell? ⟨gb251, 1, none⟩ = some (.int .i64 ((rd_T30 x8_1 x58_2).f1)) ∧ w'.cell? ⟨go69, (((rd_T30 x8_1 x58_2).f0)).toNat, none⟩ = some (.slice A252_0 (rd_L4 x7_2 ((rd_T30 x8_1 x58_2).f0)).length c252_0)) (ds := [12]) #[false, false, false, false, false, false, false, false, false, false, false, false, false] (by kernel_rfl) rfl rfl ⟨(blk_cell BK251.out 0).trans rfl, (blk_cell BK251.out 1).trans rfl, hx252_0⟩ (fun hHeld => ?_); refine with_tabW impl_SweepMagazine.tab18 impl_SweepMagazine.bits18 (fun HT_ HW_ => ?_)
                                generalize w66.drew = w67 at HO_7 HO_8 HO_56 BK231 BK251 HB GG69 HH69 HL252_0 HR252_0 HX252_0 UU69 hx252_0 hHeld ⊢
                                refine pure_ (i := 0) (N := some 62) (v := ?_) (a' := ?_) #[true, false, false, false, false, false, false, false, false, false, false, false, false] rfl rfl (any_of HT_.out (by kernel_rfl)) (fun _ _ _ h => h) (Or.inl ⟨by rfl, ?_⟩) ?_ ?_
                                rotate_left
                                · intro w'
                                  go_simp
                                  with_reducible rfl
                                rotate_left
                                · simp only [Act.put, List.setIfInBounds_toArray, List.set_cons_zero, List.set_cons_succ, i64_w, i32_w]
                                  rfl
                                refine pure_ (i := 1) (N := some 63) (v := ?_) (a' := ?_) #[true, true, false, false, false, false, false, false, false, false, false, false, false] rfl rfl (any_of HT_.out (by kernel_rfl)) (fun _ _ _ h => h) (Or.inl ⟨by rfl, ?_⟩) ?_ ?_
                                rotate_left
                                · intro w'
                                  go_simp
                                  with_reducible rfl
                                rotate_left
                                · simp only [Act.put, List.setIfInBounds_toArray, List.set_cons_zero, List.set_cons_succ, i64_w, i32_w]
                                  rfl
                                refine pure_ (i := 3) (N := some 65) (v := ?_) (a' := ?_) #[true, true, false, true, false, false, false, false, false, false, false, false, false] rfl rfl (any_of HT_.out (by kernel_rfl)) (fun _ _ _ h => h) (Or.inl ⟨by rfl, ?_⟩) ?_ ?_
                                rotate_left
                                · intro w'
                                  go_simp
                                  with_reducible rfl
                                rotate_left
                                · simp only [Act.put, List.setIfInBounds_toArray, List.set_cons_zero, List.set_cons_succ, i64_w, i32_w]
                                  rfl
                                refine pure_ (i := 4) (N := some 66) (v := ?_) (a' := ?_) #[true, true, false, true, true, false, false, false, false, false, false, false, false] rfl rfl (any_of HT_.out (by kernel_rfl)) (fun _ _ _ h => h) (Or.inl ⟨by rfl, ?_⟩) ?_ ?_
                                rotate_left
                                · intro w'
                                  go_simp
                                  with_reducible rfl
                                rotate_left
                                · simp only [Act.put, List.setIfInBounds_toArray, List.set_cons_zero, List.set_cons_succ, i64_w, i32_w]
                                  rfl
                                refine take_ (i := 2) (N := some 64) (v := ?_) (a' := ?_) #[true, true, true, true, true, false, false, false, false, false, false, false, false] rfl rfl (take_ofW HT_.out HW_.out (by kernel_rfl)) (fun _ _ _ h => h) (Or.inl ⟨by rfl, ?_⟩) hHeld ?_ ?_
                                rotate_left
                                · rintro w' ⟨s0, s1, s2⟩
                                  go_simp
                                  with_reducible rfl
                                rotate_left
                                · simp only [Act.put, List.setIfInBounds_toArray, List.set_cons_zero, List.set_cons_succ, i64_w, i32_w]
                                  rfl
                                refine take_ (i := 5) (N := some 67) (v := ?_) (a' := ?_) #[true, true, true, true, true, true, false, false, false, false, false, false, false] rfl rfl (take_ofW HT_.out HW_.out (by kernel_rfl)) (fun _ _ _ h => h) (Or.inl ⟨by rfl, ?_⟩) hHeld ?_ ?_
                                rotate_left
                                · rintro w' ⟨s0, s1, s2⟩
                                  go_simp
                                  with_reducible rfl
                                rotate_left
                                · simp only [Act.put, List.setIfInBounds_toArray, List.set_cons_zero, List.set_cons_succ, i64_w, i32_w]
                                  rfl
                                refine pure_ (i := 6) (N := some 68) (v := ?_) (a' := ?_) #[true, true, true, true, true, true, true, false, false, false, false, false, false] rfl rfl (any_of HT_.out (by kernel_rfl)) (fun _ _ _ h => h) (Or.inl ⟨by rfl, ?_⟩) ?_ ?_
                                rotate_left
                                · intro w'
                                  go_simp
                                  with_reducible rfl
                                rotate_left
                                · simp only [Act.put, List.setIfInBounds_toArray, List.set_cons_zero, List.set_cons_succ, i64_w, i32_w]
                                  rfl
                                refine take_ (i := 7) (N := some 69) (v := ?_) (a' := ?_) #[true, true, true, true, true, true, true, true, false, false, false, false, false] rfl rfl (take_ofW HT_.out HW_.out (by kernel_rfl)) (fun _ _ _ h => h) (Or.inl ⟨by rfl, ?_⟩) hHeld ?_ ?_
                                rotate_left
                                · rintro w' ⟨s0, s1, s2⟩
                                  go_simp
                                  with_reducible rfl
                                rotate_left
                                · simp only [Act.put, List.setIfInBounds_toArray, List.set_cons_zero, List.set_cons_succ, i64_w, i32_w]
                                  rfl
                                refine take_ (i := 8) (N := some 70) (v := ?_) (a' := ?_) #[true, true, true, true, true, true, true, true, true, false, false, false, false] rfl rfl (take_ofW HT_.out HW_.out (by kernel_rfl)) (fun _ _ _ h => h) (Or.inl ⟨by rfl, ?_⟩) hHeld ?_ ?_
                                rotate_left
                                · rintro w' ⟨s0, s1, s2⟩
                                  go_simp
                                  with_reducible rfl
                                rotate_left
                                · simp only [Act.put, List.setIfInBounds_toArray, List.set_cons_zero, List.set_cons_succ, i64_w, i32_w]
                                  rfl
                                refine one_ (i := 9) (N := some 71) #[true, true, true, true, true, true, true, true, true, true, false, false, false] rfl rfl (one_of HT_.out (by kernel_rfl)) (by decide) (fun K hK => ?_)
                                refine value_ (w1 := ?_) (v := ?_) (by rfl) rfl ?_ ?_
                                rotate_left 2
                                · go_simp
                                  constructor
                                  · rfl
                                  · rfl
                                refine hK.out _ _ ⟨(blk_cell (blk_alloc BK251.out _) 0).trans rfl, (blk_cell (blk_alloc BK251.out _) 1).trans rfl, (World.cell?_alloc_lt _ _ _ (World.block_lt_of_cell? _ _ (hHeld.2.2))).trans (hHeld.2.2)⟩ (fun hHeld => ?_)
                                clear hK K
                                refine norm_ (a' := ?_) ?_ ?_
                                rotate_left
                                · show Act.put _ (some 71) _ = _
                                  simp only [Act.put, List.setIfInBounds_toArray, List.set_cons_zero, List.set_cons_succ, i64_w, i32_w]
                                  rfl
                                refine one_ (i := 10) (N := some 72) #[true, true, true, true, true, true, true, true, true, true, true, false, false] rfl rfl (one_of HT_.out (by kernel_rfl)) (by decide) (fun K hK => ?_)
                                refine Kd.R_append_step k30 (w0 := w) w.heap.size (by rfl) (.tmp 69) (.tmp 71) 34 30 (.agg #[(.int .i64 0), (.int .i64 0)]) 16 rfl Try.underlying34 info30 rfl (by decide) (by omega) (.slice A252_0 (rd_L4 x7_2 ((rd_T30 x8_1 x58_2).f0)).length c252_0) (rd_L4 x7_2 ((rd_T30 x8_1 x58_2).f0)) (⟨(rd_T30 x8_1 x58_2).f0, (rd_T30 x8_1 x58_2).f1⟩ : S30) [.int .i64 ((rd_T30 x8_1 x58_2).f0), .int .i64 ((rd_T30 x8_1 x58_2).f1)] (fun k_ => oki69 k_ ∨ ((fun k_ => some k_ ≠ (.slice (some ad250) x8_1.length co41 : Value).ownBlock ∧ some k_ ≠ (.slice (some ad250) x8_1.length co41 : Value).ownBlock ∧ k_ ≠ gb251)) k_ ∧ w67.heap.size ≤ k_) (fun _ => False) rfl rfl ?aP (fun _ hk => hk.elim) ?aF ?aO ?aB ?aS ?aL ?_
                                (case aP => exact k30_mkM _ _ _ (⟨(rd_T30 x8_1 x58_2).f0, (rd_T30 x8_1 x58_2).f1⟩ : S30))
                                (case aB => exact (by repeat (first | (with_reducible first | exact HB.out | apply below_alloc | apply pw_below_drewN | apply below_drew1 | refine below_set ?_ GE231.out | refine below_set ?_ GE251.out) | exact HB.out)))
                                (case aF => exact (fun k_ hk => .inr ⟨⟨Kd.fresh' (Kd.R_lt (by (with_reducible repeat (first | apply Kd.R_alloc | apply Kd.R_drewN | apply Kd.R_drew)); exact HO_8.out)) k_ hk, Kd.fresh' (Kd.R_lt (by (with_reducible repeat (first | apply Kd.R_alloc | apply Kd.R_drewN | apply Kd.R_drew)); exact HO_56.out)) k_ hk, Kd.freshB (g := gb251) (o := .cells #[.int .i64 ((rd_T30 x8_1 x58_2).f0), .int .i64 ((rd_T30 x8_1 x58_2).f1)] 30 (0, 0)) (by (with_reducible repeat (first | refine blk_drewN ?_ _ | refine blk_drew ?_ | refine blk_alloc ?_ _)); exact BK251.out) k_ hk⟩, hk⟩))
                                (case aO => exact (by (with_reducible repeat (first | apply Kd.R_alloc | apply Kd.R_drewN | apply Kd.R_drew)); exact Kd.R_mono UU69.out (fun _ hk => .inl hk)))
                                (case aS => exact (below_size (by repeat (first | (with_reducible first | exact HB.out | apply below_alloc | apply pw_below_drewN | apply below_drew1 | refine below_set ?_ GE231.out | refine below_set ?_ GE251.out) | exact HB.out))))
                                (case aL => have := LMc47.out; omega)
                                intro v254 w70 ho hb hg hat
                                (first | have HS2_ := cell_grown hg (hHeld.2.2) (by first | (rw [add_block]; exact (fun e_ => ((HL252_0.out.1 _ e_.symm).2) rfl)) | (show some (Addr.add _ _).block ≠ _; rw [add_block]; exact (fun e_ => ((HL252_0.out.1 _ e_.symm).2) rfl)) | exact (fun e_ => ((HL252_0.out.1 _ e_.symm).2) rfl)) | have HS2_ := cell_grown hg (cell_unalloc (hHeld.2.2) (by first | (rw [add_block]; exact Kd.S_lt HO_7.out _ rfl) | (show (Addr.add _ _).block < _; rw [add_block]; exact Kd.S_lt HO_7.out _ rfl) | exact Kd.S_lt HO_7.out _ rfl)) (by first | (rw [add_block]; exact (fun e_ => ((HL252_0.out.1 _ e_.symm).2) rfl)) | (show some (Addr.add _ _).block ≠ _; rw [add_block]; exact (fun e_ => ((HL252_0.out.1 _ e_.symm).2) rfl)) | exact (fun e_ => ((HL252_0.out.1 _ e_.symm).2) rfl)))
                                rw [← Ny253.out] at ho
                                have n0_ := Aside0.mk (Kd.R_grown2 (by (with_reducible repeat (first | apply Kd.R_alloc | apply Kd.R_drewN | apply Kd.R_drew)); exact HO_8.out) rfl hg (fun k_ e_ => (HL252_0.out.1 k_ e_).1.1))
                                have n1_ := Aside0.mk (Kd.R_grown2 (by (with_reducible repeat (first | apply Kd.R_alloc | apply Kd.R_drewN | apply Kd.R_drew)); exact HO_56.out) rfl hg (fun k_ e_ => (HL252_0.out.1 k_ e_).1.2.1))
                                have n2_ := Aside0.mk (blk_grown (g := gb231) (o := .cells #[.string a0_0, .slice A0_1 l0_1.length c0_1, .slice A0_2 l0_2.length c0_2] 25 (0, 0)) (by (with_reducible repeat (first | refine blk_drewN ?_ _ | refine blk_drew ?_ | refine blk_alloc ?_ _)); exact BK231.out) hg (Kd.R_ne HL252_0.out BK231.out (by decide)))
                                have n3_ := Aside0.mk (blk_grown (g := gb251) (o := .cells #[.int .i64 ((rd_T30 x8_1 x58_2).f0), .int .i64 ((rd_T30 x8_1 x58_2).f1)] 30 (0, 0)) (by (with_reducible repeat (first | refine blk_drewN ?_ _ | refine blk_drew ?_ | refine blk_alloc ?_ _)); exact BK251.out) hg (Kd.R_away HL252_0.out (fun _ hk => hk.1.2.2)))
                                have n4_ := Aside0.mk (hb)
                                have n5_ := Aside0.mk (Kd.H_grown (Kd.H_widen (by repeat (first | exact HH69.out | refine Kd.H_alloc ?_ _ | refine Kd.H_drewN ?_ _ | refine Kd.H_drew ?_))) hg (fun k_ e_ => .inl (UU69.out.1 k_ e_)))
                                have n6_ := Aside0.mk (ho)
                                clear HO_8
                                clear HO_56
                                clear BK231
                                clear BK251
                                clear HB
                                clear HH69
                                clear HO_7
                                clear UU69
                                clear HL252_0
                                have HO_8 := n0_
                                have HO_56 := n1_
                                have BK231 := n2_
                                have BK251 := n3_
                                have HB := n4_
                                have HH69 := n5_
                                have HO255 := n6_
                                clear n0_ n1_ n2_ n3_ n4_ n5_ n6_
                                clear ho hb hg hat
                                have p48 : 0 ≤ (((rd_T30 x8_1 x58_2).f0) : Int) := of_decide_eq_true (by first | (with_reducible assumption) | assumption)
                                have q48 : (((rd_T30 x8_1 x58_2).f0) : Int) < ((x7_2.length : Int) : Int) := of_decide_eq_true (by first | (with_reducible assumption) | assumption)
                                replace p48 := eq_true p48
                                replace q48 := eq_true q48
                                obtain ⟨Ao73, co73, eo73⟩ := Kd.R_slice HO255.out
                                (first | subst eo73 | (injection eo73 with f1_ f2_ f3_; have f4_ := f1_.symm; have f5_ := f3_.symm; clear f1_ f2_ f3_; subst f4_; subst f5_))
                                obtain ⟨_, _, hraw71, _, _, hcc71, _⟩ := Kd.H_raw HH69.out (of_decide_eq_true (by first | (with_reducible assumption) | assumption)) (by have h_ : (((rd_T30 x8_1 x58_2).f0) : Int) < ((x7_2.length : Int) : Int) := of_decide_eq_true (by first | (with_reducible assumption) | assumption); first | exact h_ | (have e_ := (HN69.out); omega) | simpa using h_)
                                obtain ⟨_, hfr71⟩ := Kd.H_at HH69.out (of_decide_eq_true (by first | (with_reducible assumption) | assumption)) (by have h_ : (((rd_T30 x8_1 x58_2).f0) : Int) < ((x7_2.length : Int) : Int) := of_decide_eq_true (by first | (with_reducible assumption) | assumption); first | exact h_ | (have e_ := (HN69.out); omega) | simpa using h_)
                                have hx71_0 := hcc71 0 _ rfl
                                have hf71_0 := hfr71 0
                                (try simp only [Nat.add_zero] at hx71_0 hf71_0)
                                (try rw [show ((Kd.slice 30 k30)).sz = 1 from rfl, Nat.mul_one] at hx71_0)
                                (try rw [show ((Kd.slice 30 k30)).sz = 1 from rfl, Nat.mul_one] at hf71_0)
                                have HP71 := Kd.S_seg0 HH69.out (of_decide_eq_true (by first | (with_reducible assumption) | assumption)) (by have h_ : (((rd_T30 x8_1 x58_2).f0) : Int) < ((x7_2.length : Int) : Int) := of_decide_eq_true (by first | (with_reducible assumption) | assumption); first | exact h_ | (have e_ := (HN69.out); omega) | simpa using h_) (seg := [.slice Ao73 y253.length co73]) (j := 0) (show 1 ≤ 1 from by decide) (x' := y253) (Kd.M_row HO255.out) (fun _ hk => hk)
                                (try simp only [show ((Kd.slice 30 k30)).sz = 1 from rfl, Nat.mul_one, Nat.add_zero] at HP71)
                                clear hcc71 hfr71
                                have HNB231_go69 := Aside0.mk (show gb231 ≠ go69 from by have h_ := Kd.R_ne hraw71 BK231.out (by decide); intro e_; exact h_ (by rw [e_]; rfl))
                                have HNB251_go69 := Aside0.mk (show gb251 ≠ go69 from by have h_ := Kd.R_ne hraw71 BK251.out (by decide); intro e_; exact h_ (by rw [e_]; rfl))
                                have HS71 := HP71.1
                                rw [← Ny256.out] at HS71
                                have HQ71 := Aside0.mk HS71
                                obtain ⟨_, hgg71⟩ := Kd.R_typed hraw71 go69 rfl
                                have GG71_ := Aside0.mk hgg71
                                clear HP71 HS71 hgg71
                                refine hK.out _ _ ⟨(blk_cell BK251.out 0).trans rfl, (blk_cell BK251.out 1).trans rfl, HS2_⟩ (fun hHeld => ?_)
                                clear hK K
                                refine norm_ (a' := ?_) ?_ ?_
                                rotate_left
                                · show Act.put _ (some 72) _ = _
                                  simp only [Act.put, List.setIfInBounds_toArray, List.set_cons_zero, List.set_cons_succ, i64_w, i32_w]
                                  rfl
                                refine pure_ (i := 11) (N := some 73) (v := ?_) (a' := ?_) #[true, true, true, true, true, true, true, true, true, true, true, true, false] rfl rfl (any_of HT_.out (by kernel_rfl)) (fun _ _ _ h => h) (Or.inl ⟨by rfl, ?_⟩) ?_ ?_
                                rotate_left
                                · intro w'
                                  go_simp
                                  with_reducible rfl
                                rotate_left
                                · simp only [Act.put, List.setIfInBounds_toArray, List.set_cons_zero, List.set_cons_succ, i64_w, i32_w]
                                  rfl
                                refine last_ (i := 12) (N := none) #[true, true, true, true, true, true, true, true, true, true, true, true, true] rfl rfl (one_of HT_.out (by kernel_rfl)) (by decide) (fun K hK => ?_)
                                refine skip_ (w1 := ?_) (by rfl) rfl ?_ ?_
                                rotate_left
                                · go_simp
                                  rfl
                                refine hK.out _ _ ?_
                                clear hK K
                                refine done_ (done_of HT_.out (by kernel_rfl)) ?_
                                have n0_ : Aside0 (Kd.R k30 30 (w70.setCell ⟨go69, (((rd_T30 x8_1 x58_2).f0) : Int).toNat, none⟩ (.slice Ao73 y253.length co73)) w.heap.size (fun k_ => k_ ≠ gb251) (.slice (some ad250) x8_1.length co41) x8_1) := ⟨by (with_reducible repeat (first | apply Kd.R_alloc | apply Kd.R_drewN | apply Kd.R_drew)); exact Kd.R_mono (Kd.R_far (p := ⟨go69, (((rd_T30 x8_1 x58_2).f0) : Int).toNat, none⟩) (Kd.R_types HO_8.out GG71_.out (by decide)) (fun _ hk => hk.2) (.slice Ao73 y253.length co73)) (fun _ hk => hk.1)⟩
                                have n1_ : Aside0 (Kd.R k30 30 (w70.setCell ⟨go69, (((rd_T30 x8_1 x58_2).f0) : Int).toNat, none⟩ (.slice Ao73 y253.length co73)) w.heap.size (fun k_ => k_ ≠ gb251) (.slice (some ad250) x8_1.length co41) x8_1) := ⟨by (with_reducible repeat (first | apply Kd.R_alloc | apply Kd.R_drewN | apply Kd.R_drew)); exact Kd.R_mono (Kd.R_far (p := ⟨go69, (((rd_T30 x8_1 x58_2).f0) : Int).toNat, none⟩) (Kd.R_types HO_56.out GG71_.out (by decide)) (fun _ hk => hk.2) (.slice Ao73 y253.length co73)) (fun _ hk => hk.1)⟩
                                have n2_ : Aside0 (Kd.S (Kd.slice 30 k30) 34 (w70.setCell ⟨go69, (((rd_T30 x8_1 x58_2).f0) : Int).toNat, none⟩ (.slice Ao73 y253.length co73)) w.heap.size (fun k_ => some k_ ≠ (.slice (some ad250) x8_1.length co41 : Value).ownBlock ∧ some k_ ≠ (.slice (some ad250) x8_1.length co41 : Value).ownBlock ∧ k_ ≠ gb251) (.slice (some ⟨go69, 0, none⟩) x7_2.length co68) y256) := ⟨by (with_reducible repeat (first | apply Kd.S_alloc | apply Kd.S_drewN | apply Kd.S_drew)); exact HQ71.out⟩
                                have n3_ : Aside0 ((w70.setCell ⟨go69, (((rd_T30 x8_1 x58_2).f0) : Int).toNat, none⟩ (.slice Ao73 y253.length co73)).heap[gb231]? = some (.cells #[.string a0_0, .slice A0_1 l0_1.length c0_1, .slice A0_2 l0_2.length c0_2] 25 (0, 0))) := ⟨by (with_reducible repeat (first | refine blk_drewN ?_ _ | refine blk_drew ?_ | refine blk_alloc ?_ _)); refine blk_far ?_ HNB231_go69.out _; (with_reducible repeat (first | refine blk_drewN ?_ _ | refine blk_drew ?_ | refine blk_alloc ?_ _)); exact BK231.out⟩
                                have n4_ : Aside0 ((w70.setCell ⟨go69, (((rd_T30 x8_1 x58_2).f0) : Int).toNat, none⟩ (.slice Ao73 y253.length co73)).heap[gb251]? = some (.cells #[.int .i64 ((rd_T30 x8_1 x58_2).f0), .int .i64 ((rd_T30 x8_1 x58_2).f1)] 30 (0, 0))) := ⟨by (with_reducible repeat (first | refine blk_drewN ?_ _ | refine blk_drew ?_ | refine blk_alloc ?_ _)); refine blk_far ?_ HNB251_go69.out _; (with_reducible repeat (first | refine blk_drewN ?_ _ | refine blk_drew ?_ | refine blk_alloc ?_ _)); exact BK251.out⟩
                                have n5_ : Aside0 (Below w.heap.size w (w70.setCell ⟨go69, (((rd_T30 x8_1 x58_2).f0) : Int).toNat, none⟩ (.slice Ao73 y253.length co73))) := ⟨by repeat (first | (with_reducible first | exact HB.out | apply below_alloc | apply pw_below_drewN | apply below_drew1 | refine below_set ?_ GB69.out | refine below_set ?_ GE231.out | refine below_set ?_ GE251.out) | exact HB.out)⟩
                                (try clear HO_8)
                                (try clear HO_56)
                                (try clear HO_7)
                                (try clear BK231)
                                (try clear BK251)
                                (try clear HB)
                                generalize (w70.setCell ⟨go69, (((rd_T30 x8_1 x58_2).f0) : Int).toNat, none⟩ (.slice Ao73 y253.length co73)) = w74 at n0_ n1_ n2_ n3_ n4_ n5_ ⊢
                                have HO_8 := n0_
                                have HO_56 := n1_
                                have HO_7 := n2_
                                have BK231 := n3_
                                have BK251 := n4_
                                have HB := n5_
                                clear n0_ n1_ n2_ n3_ n4_ n5_
                                have hcz75_0 : w74.cell? ⟨gb251, 0, none⟩ = some (.int .i64 ((rd_T30 x8_1 x58_2).f0)) := (blk_cell BK251.out 0).trans rfl
                                have hcz75_1 : w74.cell? ⟨gb251, 1, none⟩ = some (.int .i64 ((rd_T30 x8_1 x58_2).f1)) := (blk_cell BK251.out 1).trans rfl
                                have hfz75_0 := blk_frozen BK251.out 0
                                have hfz75_1 := blk_frozen BK251.out 1
                                have p257 : 0 ≤ (((rd_T30 x8_1 x58_2).f0) : Int) := of_decide_eq_true (by first | (with_reducible assumption) | assumption)
                                have q257 : ((rd_T30 x8_1 x58_2).f0) < (y256.length : Int) := (by have h_ : (((rd_T30 x8_1 x58_2).f0) : Int) < ((x7_2.length : Int) : Int) := of_decide_eq_true (by first | (with_reducible assumption) | assumption); first | (have e_ := (Kd.S_reads' HO_7.out).1; omega) | simpa only [Ny256.out, List.length_set] using h_)
                                have ql257 : ((((rd_T30 x8_1 x58_2).f0) : Int) < ((x7_2.length : Int) : Int)) = True := eq_true (of_decide_eq_true (by first | (with_reducible assumption) | assumption))
                                obtain ⟨ad257, A257_0, c257_0, e257, hx257_0, hl257_0, hi257_0⟩ := at_L4 (Kd.S_reads' HO_7.out).2.2 ((rd_T30 x8_1 x58_2).f0) p257 q257
                                obtain rfl : (⟨go69, 0, none⟩ : Addr) = ad257 := (by injection e257)
                                obtain ⟨ce257, hce257, hMe257, hcc257⟩ := Kd.S_get HO_7.out [] ((rd_T30 x8_1 x58_2).f0) p257 (by first | exact q257 | exact of_decide_eq_true (by first | (with_reducible assumption) | assumption) | (have e_ := (Kd.S_reads' HO_7.out).1; omega))
                                obtain ⟨ve257_0, rfl, ge257_0⟩ := hMe257
                                have hv257_0 := hcc257 0 _ rfl
                                rw [Nat.add_zero, show ((Kd.slice 30 k30)).sz = 1 from rfl, Nat.mul_one] at hv257_0
                                replace hv257_0 := Option.some.inj (hv257_0.symm.trans hx257_0)
                                rw [hv257_0] at ge257_0
                                have HL257_0 := Aside0.mk (show Kd.R k30 30 _ _ _ _ (rd_L4 y256 ((rd_T30 x8_1 x58_2).f0)) from ge257_0)
                                clear hv257_0 ge257_0
                                have HX257_0 := Aside0.mk hx257_0
                                clear hcc257 hce257
                                (first | simp only [add_plain] at hx257_0 | simp only [add_at] at hx257_0 | simp only [Addr.add, Nat.zero_add] at hx257_0 | skip)
                                have HR257_0 := Aside0.mk hi257_0
                                have HC257_0 := Aside0.mk hl257_0
                                clear hi257_0 hl257_0
                                replace p257 := eq_true p257
                                replace q257 := eq_true q257
                                try go_wp2
                                go_roundg k2
                                case measure => have := HK1.out; have := HK2.out; omega
                                case rel => exact ⟨(y256), (wrap64 (x58_2 + 1)), (by first | rfl | (simp; done) | (simp [*]; done)), H', ⟨by have := HK1.out; have := HK2.out; omega⟩, ⟨by (with_reducible repeat (first | apply Kd.S_alloc | apply Kd.S_drewN | apply Kd.S_drew)); exact Kd.S_mono HO_7.out (fun _ hk => ⟨hk.1, hk.2.1⟩)⟩, ⟨by (with_reducible repeat (first | apply Kd.R_alloc | apply Kd.R_drewN | apply Kd.R_drew)); exact Kd.R_mono HO_8.out (fun _ hk => trivial)⟩, ⟨by (with_reducible repeat (first | apply Kd.R_alloc | apply Kd.R_drewN | apply Kd.R_drew)); exact Kd.R_mono HO_56.out (fun _ hk => trivial)⟩, ⟨by (with_reducible repeat (first | refine blk_drewN ?_ _ | refine blk_drew ?_ | refine blk_alloc ?_ _)); exact BK231.out⟩, ⟨by repeat (first | (with_reducible first | exact HB.out | apply below_alloc | apply pw_below_drewN | apply below_drew1 | refine below_set ?_ GE231.out | refine below_set ?_ GE251.out) | exact HB.out)⟩⟩
                            · rw [if_neg c47] at H
                              exact absurd H (by simp)
                          · rw [if_neg c46] at H
                            exact absurd H (by simp)
                        · rw [if_neg c45] at H
                          exact absurd H (by simp)
                      · rw [if_neg c44] at H
                        exact absurd H (by simp)
                    · rw [if_neg c43] at H
                      exact absurd H (by simp)
                  · rw [if_neg c42] at H
                    have c42b0 : decide (x58_2 < (x8_1.length : Int)) = false := decide_eq_false c42
                    clear c42
                    simp only [Option.some.injEq, Prod.mk.injEq] at H
                    obtain ⟨rfl, rfl, rfl⟩ := H
                    go_wp2
                    go_ret3
                    exact ⟨_, by first | rfl | (simp only [i64_w, i32_w]; rfl) | (simp only [i64_w, i32_w, wrap64_zero, Int.sub_zero, Int.add_zero, Int.mul_zero, Int.zero_mul]; rfl) | (simp [errW_none, errW_some] <;> rfl) | (simp [*, errW_none, errW_some] <;> rfl), by (with_reducible repeat (first | apply Kd.S_alloc | apply Kd.S_drewN | apply Kd.S_drew)); exact Kd.S_mono HO_7.out (fun _ hk => trivial), by repeat (first | (with_reducible first | exact HB.out | apply below_alloc | apply pw_below_drewN | apply below_drew1 | refine below_set ?_ GE231.out) | exact HB.out)⟩
      · rw [if_neg c6] at H
        exact absurd H (by simp)
    · rw [if_neg c5] at H
      exact absurd H (by simp)
  · replace c4 := Bool.eq_false_iff.mpr c4
    subst c4
    have H1 : (some (([] : List (List (S30))), 0, false)) = some (r1, r2, r3) := by rw [if_neg (show ¬ (false = true) by decide)] at H; exact H
    clear H
    have H := H1
    clear H1
    simp only [Option.some.injEq, Prod.mk.injEq] at H
    obtain ⟨rfl, rfl, rfl⟩ := H
    go_enter Try.func66, Try.ntmps66
    go_wp2_with (first | ((with_reducible refine gate_dst (N := 2) rfl ?_); refine box_event ?hg (N := 2) ?hd (cs := #[.string a0_0, .slice A0_1 l0_1.length c0_1, .slice A0_2 l0_2.length c0_2]) (t := 25) ?hr ?_; (case hd => rfl); (case hg => rfl); (case hr => first | (go_simp; done) | (go_simp; rfl)); intro gb231 hg w76 hbox hb; have n0_ := Aside0.mk (below_step (by repeat (first | (with_reducible first | exact HB.out | apply below_alloc | apply pw_below_drewN | apply below_drew1) | exact HB.out)) hb); have n1_ := Aside0.mk (hbox); have n2_ := Aside0.mk ((by rw [hg]; exact (below_size (by repeat (first | (with_reducible first | exact HB.out | apply below_alloc | apply pw_below_drewN | apply below_drew1) | exact HB.out))) : w.heap.size ≤ gb231)); have n3_ := Aside0.mk ((by rw [hg]; exact (below_size (by repeat (first | (with_reducible first | exact HB.out | apply below_alloc | apply pw_below_drewN | apply below_drew1) | exact HB.out))) : w.heap.size ≤ gb231)); clear HB; have HB := n0_; have BK231 := n1_; have GW231 := n2_; have GE231 := n3_; clear n0_ n1_ n2_ n3_; clear hb hbox hg; have hcz77_0 : w76.cell? ⟨gb231, 0, none⟩ = some (.string a0_0) := (blk_cell BK231.out 0).trans rfl; have hcz77_1 : w76.cell? ⟨gb231, 1, none⟩ = some (.slice A0_1 l0_1.length c0_1) := (blk_cell BK231.out 1).trans rfl; have hcz77_2 : w76.cell? ⟨gb231, 2, none⟩ = some (.slice A0_2 l0_2.length c0_2) := (blk_cell BK231.out 2).trans rfl; have hfz77_0 := blk_frozen BK231.out 0; have hfz77_1 := blk_frozen BK231.out 1; have hfz77_2 := blk_frozen BK231.out 2) | ((with_reducible refine gate_callee (f := 44) rfl ?_); refine goesL_ (some 17) rfl rfl Try.func44 (by kernel_rfl) rfl #[.agg #[.string a0_0, .slice A0_1 l0_1.length c0_1, .slice A0_2 l0_2.length c0_2], .slice A1 l1.length c1] rfl (by (try simp only [List.map_toArray, List.map_cons, List.map_nil]); first | done | rfl | (simp only [List.length_drop, List.length_take]; rfl)) ?_; (with_reducible refine (impl_MagazineOk.calls k a0_0 _ _ l0_1 _ _ l0_2 _ _ l1 false _ ?side1 ?side2 ?side3 ?side4 ?side5 ?side6 A3.out).mono ?_); (case side1 => repeat (first | exact (Kd.C_below HR0_1.out HB.out) | (with_reducible refine Kd.C_alloc ?_ _) | (with_reducible refine Kd.C_drewN ?_ _) | (with_reducible refine Kd.C_drew ?_))); (case side2 => exact HC0_1.out); (case side3 => repeat (first | exact (Kd.C_below HR0_2.out HB.out) | (with_reducible refine Kd.C_alloc ?_ _) | (with_reducible refine Kd.C_drewN ?_ _) | (with_reducible refine Kd.C_drew ?_))); (case side4 => exact HC0_2.out); (case side5 => repeat (first | exact (Kd.C_below HR1.out HB.out) | (with_reducible refine Kd.C_alloc ?_ _) | (with_reducible refine Kd.C_drewN ?_ _) | (with_reducible refine Kd.C_drew ?_))); (case side6 => exact HC1.out); rintro e w78 ⟨rfl, hb⟩; refine ⟨_, rfl, ?_⟩; have n0_ := Aside0.mk (blk_below (g := gb231) (o := .cells #[.string a0_0, .slice A0_1 l0_1.length c0_1, .slice A0_2 l0_2.length c0_2] 25 (0, 0)) (by (with_reducible repeat (first | refine blk_drewN ?_ _ | refine blk_drew ?_ | refine blk_alloc ?_ _)); exact BK231.out) hb); have n1_ := Aside0.mk (below_step (by repeat (first | (with_reducible first | exact HB.out | apply below_alloc | apply pw_below_drewN | apply below_drew1 | refine below_set ?_ GE231.out) | exact HB.out)) hb); clear BK231; clear HB; have BK231 := n0_; have HB := n1_; clear n0_ n1_; (try clear hb); (try clear hb2); (try clear hk); (try clear hi)))
    go_ret3
    exact ⟨_, by first | rfl | (simp only [i64_w, i32_w]; rfl) | (simp only [i64_w, i32_w, wrap64_zero, Int.sub_zero, Int.add_zero, Int.mul_zero, Int.zero_mul]; rfl) | (simp [errW_none, errW_some] <;> rfl) | (simp [*, errW_none, errW_some] <;> rfl), by first | exact Kd.S_nil _ _ _ _ _ | exact Kd.N_nil _ _ _ _ _ | exact Kd.V_nil _ _ _ _ _ | exact Kd.Q_nil _ _ _ _ _ | exact Kd.R_nil _ _ _ _ _, by repeat (first | (with_reducible first | exact HB.out | apply below_alloc | apply pw_below_drewN | apply below_drew1 | refine below_set ?_ GE231.out) | exact HB.out)⟩

end Go.Proofs.Ytilbngklgjjblaa.Q
