/- Contracts of Go functions over this translation. Conditions: those that each theorem names. -/
import Derived.Test.YtilbngklgjjblaaQ0
import Derived.Test.YtilbngklgjjblaaQ10
import Derived.Test.YtilbngklgjjblaaQ16
namespace Go.Proofs.Ytilbngklgjjblaa.Q
open Go.RowKit Go.Proofs.YtilbngklgjjblaaW.PrintWords Go.Proofs.YtilbngklgjjblaaW.PrintLast Go.Proofs.YtilbngklgjjblaaW.PrintMore
attribute [local go_sem] max2_int min2_int max_two min_two max_three min_three max_four min_four
set_option linter.unusedVariables false
set_option linter.unusedSimpArgs false

mutual
def spec_l2Stock.l0 : Nat → Int → List (List (S30)) → Int → Int → Int → List Int → Int → Int → ByteArray → List Int → List Int → Option ((List (List (S30))) × Int × Int)
  | 0, _, _, _, _, _, _, _, _, _, _, _ => none
  | k + 1, x5, x6, x7, x19, x20, x1000, x1001, x1002, x326000, x326001, x326002 => if x20 < x19 then ((spec_l01Below.f x1000 x1001 x1002 5).bind fun bt332 => ((spec_l01Once.f x1000 bt332.2.1 bt332.2.2 10).bind fun bt335 => (if bt335.1 = true then ((spec_l01Below.f x1000 bt335.2.1 bt335.2.2 2).bind fun bt338 => (spec_l2Stock.j1 k x5 x6 x7 x20 (wrap64 (19 + bt338.1)) x19 x20 x1000 bt338.2.1 bt338.2.2 x326000 x326001 x326002)) else (spec_l2Stock.j1 k x5 x6 x7 x20 bt332.1 x19 x20 x1000 bt335.2.1 bt335.2.2 x326000 x326001 x326002)))) else (some (x6, x1001, x1002))
def spec_l2Stock.j1 : Nat → Int → List (List (S30)) → Int → Int → Int → Int → Int → List Int → Int → Int → ByteArray → List Int → List Int → Option ((List (List (S30))) × Int × Int)
  | 0, _, _, _, _, _, _, _, _, _, _, _, _, _ => none
  | k + 1, x5, x6, x7, x8, x9, x19, x20, x1000, x1001, x1002, x326000, x326001, x326002 => spec_l2Stock.l1 k x5 x6 x7 x8 x9 x19 x20 x1000 x1001 x1002 x326000 x326001 x326002
def spec_l2Stock.l1 : Nat → Int → List (List (S30)) → Int → Int → Int → Int → Int → List Int → Int → Int → ByteArray → List Int → List Int → Option ((List (List (S30))) × Int × Int)
  | 0, _, _, _, _, _, _, _, _, _, _, _, _, _ => none
  | k + 1, x5, x6, x7, x8, x9, x19, x20, x1000, x1001, x1002, x326000, x326001, x326002 => if x9 > 0 then (if x7 > 0 then ((spec_l01Once.f x1000 x1001 x1002 4).bind fun bt342 => (spec_l2Stock.j3 k x5 x6 x7 x8 x9 x19 x20 bt342.1 x1000 bt342.2.1 bt342.2.2 x326000 x326001 x326002 x8 0)) else (spec_l2Stock.j3 k x5 x6 x7 x8 x9 x19 x20 false x1000 x1001 x1002 x326000 x326001 x326002 x8 0)) else (spec_l2Stock.l0 k x5 x6 x7 x19 (wrap64 (x20 + 1)) x1000 x1001 x1002 x326000 x326001 x326002)
def spec_l2Stock.j3 : Nat → Int → List (List (S30)) → Int → Int → Int → Int → Int → Bool → List Int → Int → Int → ByteArray → List Int → List Int → Int → Int → Option ((List (List (S30))) × Int × Int)
  | 0, _, _, _, _, _, _, _, _, _, _, _, _, _, _, _, _ => none
  | k + 1, x5, x6, x7, x8, x9, x19, x20, x41, x1000, x1001, x1002, x326000, x326001, x326002, x342000, x342001 => if x41 = true then ((spec_l01Below.f x1000 x1001 x1002 x5).bind fun bt345 => (spec_l2Stock.j4 k x5 x6 x7 x8 x9 x19 x20 x1000 bt345.2.1 bt345.2.2 x326000 x326001 x326002 bt345.1 x342001)) else (spec_l2Stock.j4 k x5 x6 x7 x8 x9 x19 x20 x1000 x1001 x1002 x326000 x326001 x326002 x342000 x342001)
def spec_l2Stock.j4 : Nat → Int → List (List (S30)) → Int → Int → Int → Int → Int → List Int → Int → Int → ByteArray → List Int → List Int → Int → Int → Option ((List (List (S30))) × Int × Int)
  | 0, _, _, _, _, _, _, _, _, _, _, _, _, _, _, _ => none
  | k + 1, x5, x6, x7, x8, x9, x19, x20, x1000, x1001, x1002, x326000, x326001, x326002, x342000, x342001 => if x342000 < (x326002.length : Int) then (if 0 ≤ x342000 then (spec_l2Stock.j5 k x5 x6 x7 x8 x9 x19 x20 x1000 x1001 x1002 x326000 x326001 x326002 x342000 (rd x326002 x342000)) else (none)) else (spec_l2Stock.j5 k x5 x6 x7 x8 x9 x19 x20 x1000 x1001 x1002 x326000 x326001 x326002 x342000 x342001)
def spec_l2Stock.j5 : Nat → Int → List (List (S30)) → Int → Int → Int → Int → Int → List Int → Int → Int → ByteArray → List Int → List Int → Int → Int → Option ((List (List (S30))) × Int × Int)
  | 0, _, _, _, _, _, _, _, _, _, _, _, _, _, _, _ => none
  | k + 1, x5, x6, x7, x8, x9, x19, x20, x1000, x1001, x1002, x326000, x326001, x326002, x342000, x342001 => if x7 > 1 then ((spec_l01Once.f x1000 x1001 x1002 3).bind fun bt349 => (if bt349.1 = true then ((spec_l01Below.f x1000 bt349.2.1 bt349.2.2 7).bind fun bt352 => (if 0 ≤ bt352.1 then (if 0 ≤ x8 then (if x8 < (x6.length : Int) then (if (rd_L2 x6 x8).length < 8796093022208 then (spec_l2Stock.l1 k x5 (x6.set (x8 : Int).toNat ((rd_L2 x6 x8) ++ [(⟨x342000, Go.bits .andNot .i64 x342001 (shl .i64 1 bt352.1)⟩ : S30)])) x7 x8 (wrap64 (x9 - 1)) x19 x20 x1000 bt352.2.1 bt352.2.2 x326000 x326001 x326002) else (none)) else (none)) else (none)) else (none))) else (if 0 ≤ x8 then (if x8 < (x6.length : Int) then (if (rd_L2 x6 x8).length < 8796093022208 then (spec_l2Stock.l1 k x5 (x6.set (x8 : Int).toNat ((rd_L2 x6 x8) ++ [(⟨x342000, x342001⟩ : S30)])) x7 x8 (wrap64 (x9 - 1)) x19 x20 x1000 bt349.2.1 bt349.2.2 x326000 x326001 x326002) else (none)) else (none)) else (none)))) else (if 0 ≤ x8 then (if x8 < (x6.length : Int) then (if (rd_L2 x6 x8).length < 8796093022208 then (spec_l2Stock.l1 k x5 (x6.set (x8 : Int).toNat ((rd_L2 x6 x8) ++ [(⟨x342000, x342001⟩ : S30)])) x7 x8 (wrap64 (x9 - 1)) x19 x20 x1000 x1001 x1002 x326000 x326001 x326002) else (none)) else (none)) else (none))
end
def spec_l2Stock.f (k : Nat) (s0_0 : List Int) (s0_1 : Int) (s0_2 : Int) (a1_0 : ByteArray) (l1_1 : List Int) (l1_2 : List Int) : Option ((List (List (S30))) × Int × Int) := if 0 ≤ (a1_0.size : Int) then (if ((a1_0.size : Int) : Int).toNat ≤ 11728124029610 then ((some (List.replicate ((a1_0.size : Int) : Int).toNat [] : List (List (S30)))).bind fun y326 => ((spec_l01Below.f s0_0 s0_1 s0_2 3).bind fun bt329 => (spec_l2Stock.l0 k (a1_0.size : Int) y326 bt329.1 (y326.length : Int) 0 s0_0 bt329.2.1 bt329.2.2 a1_0 l1_1 l1_2))) else (none)) else (none)
theorem spec_l2Stock.mono_l : ∀ k, (∀ y0 y1 y2 y3 y4 y5 y6 y7 y8 y9 y10, LeO (spec_l2Stock.l0 k y0 y1 y2 y3 y4 y5 y6 y7 y8 y9 y10) (spec_l2Stock.l0 (k + 1) y0 y1 y2 y3 y4 y5 y6 y7 y8 y9 y10)) ∧ (∀ y0 y1 y2 y3 y4 y5 y6 y7 y8 y9 y10 y11 y12, LeO (spec_l2Stock.j1 k y0 y1 y2 y3 y4 y5 y6 y7 y8 y9 y10 y11 y12) (spec_l2Stock.j1 (k + 1) y0 y1 y2 y3 y4 y5 y6 y7 y8 y9 y10 y11 y12)) ∧ (∀ y0 y1 y2 y3 y4 y5 y6 y7 y8 y9 y10 y11 y12, LeO (spec_l2Stock.l1 k y0 y1 y2 y3 y4 y5 y6 y7 y8 y9 y10 y11 y12) (spec_l2Stock.l1 (k + 1) y0 y1 y2 y3 y4 y5 y6 y7 y8 y9 y10 y11 y12)) ∧ (∀ y0 y1 y2 y3 y4 y5 y6 y7 y8 y9 y10 y11 y12 y13 y14 y15, LeO (spec_l2Stock.j3 k y0 y1 y2 y3 y4 y5 y6 y7 y8 y9 y10 y11 y12 y13 y14 y15) (spec_l2Stock.j3 (k + 1) y0 y1 y2 y3 y4 y5 y6 y7 y8 y9 y10 y11 y12 y13 y14 y15)) ∧ (∀ y0 y1 y2 y3 y4 y5 y6 y7 y8 y9 y10 y11 y12 y13 y14, LeO (spec_l2Stock.j4 k y0 y1 y2 y3 y4 y5 y6 y7 y8 y9 y10 y11 y12 y13 y14) (spec_l2Stock.j4 (k + 1) y0 y1 y2 y3 y4 y5 y6 y7 y8 y9 y10 y11 y12 y13 y14)) ∧ (∀ y0 y1 y2 y3 y4 y5 y6 y7 y8 y9 y10 y11 y12 y13 y14, LeO (spec_l2Stock.j5 k y0 y1 y2 y3 y4 y5 y6 y7 y8 y9 y10 y11 y12 y13 y14) (spec_l2Stock.j5 (k + 1) y0 y1 y2 y3 y4 y5 y6 y7 y8 y9 y10 y11 y12 y13 y14))
  | 0 => ⟨fun _ _ _ _ _ _ _ _ _ _ _ r h => by simp [spec_l2Stock.l0] at h, fun _ _ _ _ _ _ _ _ _ _ _ _ _ r h => by simp [spec_l2Stock.j1] at h, fun _ _ _ _ _ _ _ _ _ _ _ _ _ r h => by simp [spec_l2Stock.l1] at h, fun _ _ _ _ _ _ _ _ _ _ _ _ _ _ _ _ r h => by simp [spec_l2Stock.j3] at h, fun _ _ _ _ _ _ _ _ _ _ _ _ _ _ _ r h => by simp [spec_l2Stock.j4] at h, fun _ _ _ _ _ _ _ _ _ _ _ _ _ _ _ r h => by simp [spec_l2Stock.j5] at h⟩
  | k + 1 => by
    obtain ⟨ih0, ih1, ih2, ih3, ih4, ih5⟩ := spec_l2Stock.mono_l k
    refine ⟨?_, ?_, ?_, ?_, ?_, ?_⟩ <;> intros <;> (first | unfold spec_l2Stock.l0 | unfold spec_l2Stock.j1 | unfold spec_l2Stock.l1 | unfold spec_l2Stock.j3 | unfold spec_l2Stock.j4 | unfold spec_l2Stock.j5) <;> repeat' first | (with_reducible first | exact ih0 _ _ _ _ _ _ _ _ _ _ _ | exact ih1 _ _ _ _ _ _ _ _ _ _ _ _ _ | exact ih2 _ _ _ _ _ _ _ _ _ _ _ _ _ | exact ih3 _ _ _ _ _ _ _ _ _ _ _ _ _ _ _ _ | exact ih4 _ _ _ _ _ _ _ _ _ _ _ _ _ _ _ | exact ih5 _ _ _ _ _ _ _ _ _ _ _ _ _ _ _ | exact LeO.refl _ | exact LeO.none _ | refine LeO.ite ?_ ?_ | refine LeO.bind ?_ (fun _ => ?_)) | exact ih0 _ _ _ _ _ _ _ _ _ _ _ | exact ih1 _ _ _ _ _ _ _ _ _ _ _ _ _ | exact ih2 _ _ _ _ _ _ _ _ _ _ _ _ _ | exact ih3 _ _ _ _ _ _ _ _ _ _ _ _ _ _ _ _ | exact ih4 _ _ _ _ _ _ _ _ _ _ _ _ _ _ _ | exact ih5 _ _ _ _ _ _ _ _ _ _ _ _ _ _ _ | exact LeO.none _ | refine LeO.ite ?_ ?_ | refine LeO.bind ?_ (fun _ => ?_)
theorem spec_l2Stock.mono : ∀ a0 a1 a2 a3 a4 a5 k, LeO (spec_l2Stock.f k a0 a1 a2 a3 a4 a5) (spec_l2Stock.f (k + 1) a0 a1 a2 a3 a4 a5) := by
 intro a0 a1 a2 a3 a4 a5 k
 obtain ⟨ih0, ih1, ih2, ih3, ih4, ih5⟩ := spec_l2Stock.mono_l k
 unfold spec_l2Stock.f
 repeat' first | (with_reducible first | exact ih0 _ _ _ _ _ _ _ _ _ _ _ | exact ih1 _ _ _ _ _ _ _ _ _ _ _ _ _ | exact ih2 _ _ _ _ _ _ _ _ _ _ _ _ _ | exact ih3 _ _ _ _ _ _ _ _ _ _ _ _ _ _ _ _ | exact ih4 _ _ _ _ _ _ _ _ _ _ _ _ _ _ _ | exact ih5 _ _ _ _ _ _ _ _ _ _ _ _ _ _ _ | exact LeO.refl _ | exact LeO.none _ | refine LeO.ite ?_ ?_ | refine LeO.bind ?_ (fun _ => ?_)) | exact ih0 _ _ _ _ _ _ _ _ _ _ _ | exact ih1 _ _ _ _ _ _ _ _ _ _ _ _ _ | exact ih2 _ _ _ _ _ _ _ _ _ _ _ _ _ | exact ih3 _ _ _ _ _ _ _ _ _ _ _ _ _ _ _ _ | exact ih4 _ _ _ _ _ _ _ _ _ _ _ _ _ _ _ | exact ih5 _ _ _ _ _ _ _ _ _ _ _ _ _ _ _ | exact LeO.none _ | refine LeO.ite ?_ ?_ | refine LeO.bind ?_ (fun _ => ?_)
def spec_l2Stock.T18 : Bool × List (List Nat × List Nat) := (true, [([], []), ([0], [0]), ([], []), ([2], [2]), ([3], [3]), ([1, 4], [1, 4]), ([0, 1, 2, 3, 4, 5], []), ([6, 5, 3, 0, 1, 2, 3, 4, 5], [5, 6])])
def spec_l2Stock.B18 : List Nat := [0, 1, 0, 4, 12, 31, 63, 127]
theorem spec_l2Stock.tab18 : rtab .any (opsOf Try.f99 18) = spec_l2Stock.T18 := by kernel_rfl
theorem spec_l2Stock.bits18 : waitsOk spec_l2Stock.T18.2 spec_l2Stock.B18 = true := by kernel_rfl
def spec_l2Stock.T19 : Bool × List (List Nat × List Nat) := (true, [([], []), ([], []), ([], []), ([], []), ([2, 3], [2, 3]), ([4], [4]), ([], []), ([6], [6]), ([5, 7], [5, 7]), ([0, 1, 0, 1, 2, 3, 4, 5, 6, 7, 8], [0, 1]), ([9, 8, 8, 0, 1, 2, 3, 4, 5, 6, 7, 8], [8, 9])])
def spec_l2Stock.B19 : List Nat := [0, 0, 0, 0, 12, 28, 0, 64, 252, 511, 1023]
theorem spec_l2Stock.tab19 : rtab .any (opsOf Try.f99 19) = spec_l2Stock.T19 := by kernel_rfl
theorem spec_l2Stock.bits19 : waitsOk spec_l2Stock.T19.2 spec_l2Stock.B19 = true := by kernel_rfl
set_option maxHeartbeats 8000000 in
set_option maxRecDepth 100000 in
theorem spec_l2Stock.calls (k : Nat) (g : Nat) (s0_0 : List Int) (s0_1 : Int) (s0_2 : Int) (a1_0 : ByteArray) (A1_1 : Option Addr) (c1_1 : Nat) (l1_1 : List Int) (A1_2 : Option Addr) (c1_2 : Nat) (l1_2 : List Int) (r1 : List (List (S30))) (r2 : Int) (r3 : Int) (w0 w : World) (hI : IsS99 w0 w g s0_0 s0_1 s0_2) (hB : Below w0.heap.size w0 w) (hr1_1 : Kd.C (Kd.int .i64) w A1_1 l1_1.length l1_1) (hc1_1 : l1_1.length ≤ c1_1) (hf1_1 : ∀ ad, A1_1 = some ad → 0 < l1_1.length → ad.block ≠ g) (hr1_2 : Kd.C (Kd.int .i64) w A1_2 l1_2.length l1_2) (hc1_2 : l1_2.length ≤ c1_2) (hf1_2 : ∀ ad, A1_2 = some ad → 0 < l1_2.length → ad.block ≠ g) (h : spec_l2Stock.f k s0_0 s0_1 s0_2 a1_0 l1_1 l1_2 = some (r1, r2, r3)) :
    Calls Try.prog 99 #[.pointer (some ⟨g, 0, none⟩), .agg #[.string a1_0, .slice A1_1 l1_1.length c1_1, .slice A1_2 l1_2.length c1_2]] w fun e w' => ∃ v0_ : Value, e = .returned (v0_) ∧ Kd.S (Kd.slice 30 k30) 34 w' w.heap.size (fun _ => True) v0_ r1 ∧ IsS99 w0 w' g s0_0 r2 r3 ∧ Below w0.heap.size w0 w' ∧ KeepBut w w' g none := by
 have hu25 := Try.underlying25
 have hu30 := Try.underlying30
 have HR1_1 := M_ hr1_1
 have HC1_1 := M_ hc1_1
 clear hr1_1 hc1_1
 have HR1_2 := M_ hr1_2
 have HC1_2 := M_ hc1_2
 clear hr1_2 hc1_2
 have HI0 := M_ hI
 have HK := M_ (KeepBut.refl w g none)
 have HL := M_ hB.size
 clear hI
 have HW0 := M_ hB.size
 have HB := M_ hB
 clear hB
 have H : (if 0 ≤ (a1_0.size : Int) then (if ((a1_0.size : Int) : Int).toNat ≤ 11728124029610 then ((some (List.replicate ((a1_0.size : Int) : Int).toNat [] : List (List (S30)))).bind fun y326 => ((spec_l01Below.f s0_0 s0_1 s0_2 3).bind fun bt329 => (spec_l2Stock.l0 k (a1_0.size : Int) y326 bt329.1 (y326.length : Int) 0 s0_0 bt329.2.1 bt329.2.2 a1_0 l1_1 l1_2))) else (none)) else (none)) = some (r1, r2, r3) := h
 clear h
 by_cases c3 : 0 ≤ (a1_0.size : Int)
 ·rw [if_pos c3] at H
  have c3b0 := eq_true c3
  have c3b1 := dt_ c3
  clear c3
  by_cases c4 : ((a1_0.size : Int) : Int).toNat ≤ 11728124029610
  ·rw [if_pos c4] at H
   have c4b0 := eq_true c4
   have c4b1 := dt_ c4
   clear c4
   obtain ⟨y326, hy326⟩ : ∃ y_ : List (List (S30)), y_ = (List.replicate ((a1_0.size : Int) : Int).toNat []) := ⟨_, rfl⟩
   replace H : ((spec_l01Below.f s0_0 s0_1 s0_2 3).bind fun bt329 => (spec_l2Stock.l0 k (a1_0.size : Int) y326 bt329.1 (y326.length : Int) 0 s0_0 bt329.2.1 bt329.2.2 a1_0 l1_1 l1_2)) = some (r1, r2, r3) := by first | (rw [hy326]; with_reducible exact H) | (have H2_ := (Option.bind_some _ _).symm.trans H; rw [hy326]; with_reducible exact H2_) | (have H2_ := (Option.bind_some _ _).symm.trans H; with_reducible exact H2_) | with_reducible exact H | (rw [hy326]; exact H) | exact H
   have Ny326 := M_ hy326
   clear hy326
   replace H := bs_ H
   obtain ⟨⟨t329, t330, t331⟩, A50, H⟩ := H
   dsimp only at H
   have A5 := M_ A50
   clear A50
   have H' := M_ H
   clear H
   go_enter Try.func99, Try.ntmps99
   go_wp2_with (first | ((with_reducible refine gate_dst (N := 3) rfl ?_); refine be_ 3 #[.string a1_0, .slice A1_1 l1_1.length c1_1, .slice A1_2 l1_2.length c1_2] 25 ?_; intro gb325 hg w6 hbox hb; have z_ := t6_ (IsS99.below (iz0_ HI0.out) hb) (kT_ (ki0_ HK.out) (kO_ hb g none) (.inl rfl)) (bS_ (bw1_ HB.out (IsS99.ge HI0.out)) hb) hbox (gw_ g hg (ki0_ HK.out) : w.heap.size ≤ gb325) (by rw [hg]; exact Nat.ne_of_lt (IsS99.lt (show IsS99 w0 _ g s0_0 s0_1 s0_2 from iz0_ HI0.out)) : g ≠ gb325); clear HB HK HI0; obtain ⟨HI0, HK, HB, BK325, GW325, NB0_325⟩ := z_; have GE325 := M_ (Nat.le_trans HW0.out GW325.out); have NB325_0 := M_ NB0_325.out.symm; clear hb hbox hg; have hnb7 := NB325_0.out; have hnc7 := NB0_325.out; have hcz8_0 := cz_ BK325.out 0 (.string a1_0); have hcz8_1 := cz_ BK325.out 1 (.slice A1_1 l1_1.length c1_1); have hcz8_2 := cz_ BK325.out 2 (.slice A1_2 l1_2.length c1_2); have hfz8_0 := fz_ BK325.out 0; have hfz8_1 := fz_ BK325.out 1; have hfz8_2 := fz_ BK325.out 2) | ((with_reducible refine gate_dst (N := 15) rfl ?_); refine Kd.S_make (Kd.slice 30 k30) _ 34 rfl (N := 15) rfl 26 _ _ rfl (a1_0.size : Int) rfl rfl Try.underlying26 (.slice none 0 0) 24 info34 rfl (by decide) (by omega) [] (ok := fun _ => True) (okp := fun _ => True) ⟨_, rfl, Kd.R_nil _ _ _ _ _⟩ (fun _ hk => hk) trivial (od_ as_) (Nat.le_trans (Nat.mul_le_mul_right _ (od_ as_ : (a1_0.size : Int).toNat ≤ 11728124029610)) (by omega)) (Below.refl _ _) (Nat.le_refl _) ?_; intro v327 w9 ho10 hb hg_ hnew_; clear hg_ hnew_; (first | rw [← Ny326.out] at ho10 | (simp only [Int.reduceToNat] at ho10; rw [← Ny326.out] at ho10)); have z_ := t5_ (Kd.S_lower ho10 (keep_size (w := w) (g := g) (row := none) (ki1_ HK.out GW325.out))) (IsS99.below (iz1_ HI0.out NB0_325.out) hb) (bB_ (bk_ BK325.out) hb) (kT_ (ki1_ HK.out GW325.out) (kO_ hb g none) (.inl rfl)) (bS_ (bw2_ HB.out (IsS99.ge HI0.out) GE325.out) hb); clear HB HK BK325 HI0; obtain ⟨HO328, HI0, BK325, HK, HB⟩ := z_; clear hb ho10) | ((with_reducible refine gate_callee (f := 73) rfl ?_); refine gl_ (some 17) Try.func73 #[.pointer (some ⟨g, 0, none⟩), .int .i64 3] ?_; (with_reducible refine (spec_l01Below.calls g s0_0 s0_1 s0_2 3 t329 t330 t331 w0 _ ?side1 ?side2 A5.out).mono ?_); (case side1 => exact iz1_ HI0.out NB0_325.out); (case side2 => exact bw2_ HB.out (IsS99.ge HI0.out) GE325.out); rintro e w11 ⟨rfl, hi, hb, hk⟩; refine ⟨_, rfl, ?_⟩; have z_ := t5_ (KeepBut.blk hk (bk_ BK325.out) NB325_0.out (by simp)) (Kd.S_mono (Kd.S_keep (IsS99.apartS (show IsS99 w0 _ g s0_0 s0_1 s0_2 from iz1_ HI0.out NB0_325.out) (kS_ HO328.out) (by decide)) hk (fun _ h => h.2)) (fun _ h => h.1)) (kT_ (ki1_ HK.out GW325.out) hk (.inl rfl)) hb hi; clear HI0 HB HK HO328 BK325; obtain ⟨BK325, HO328, HK, HB, HI0⟩ := z_; (try clear hi hk hb); obtain ⟨Ao12, co12, eo12⟩ := Kd.S_slice HO328.out; subst eo12))
   go_loopg [20] k (fun kq v20 w' => ∃ (x6_1 : List (List (S30))) (x20_1 : Int) (x1001_1 : Int) (x1002_1 : Int), v20 = .int .i64 x20_1 ∧ Aside0 (spec_l2Stock.l0 kq (a1_0.size : Int) x6_1 t329 (y326.length : Int) x20_1 s0_0 x1001_1 x1002_1 a1_0 l1_1 l1_2 = some (r1, r2, r3)) ∧ Aside0 (kq ≤ k) ∧ Aside0 (Kd.S (Kd.slice 30 k30) 34 w' w.heap.size (fun _ => True) (.slice Ao12 y326.length co12) x6_1) ∧ Aside0 (w'.heap[gb325]? = some (.cells #[.string a1_0, (.slice A1_1 l1_1.length c1_1), (.slice A1_2 l1_2.length c1_2)] 25 (0, 0))) ∧ Aside0 (IsS99 w0 w' g s0_0 x1001_1 x1002_1) ∧ Aside0 (KeepBut w w' g none) ∧ Aside0 (Below w0.heap.size w0 w'))
   case atStart => exact ⟨(y326), (0), (t330), (t331), (by first | rfl | (simp; done) | (simp [*]; done)), H', ⟨Nat.le_refl _⟩, ⟨by refine kS_ ?_; exact HO328.out⟩, ⟨by refine bk_ ?_; exact BK325.out⟩, ⟨iz1_ HI0.out NB0_325.out⟩, ⟨ki1_ HK.out GW325.out⟩, ⟨bw2_ HB.out (IsS99.ge HI0.out) GE325.out⟩⟩
   case round =>
    clear H'
    (try clear hfz8_2 hfz8_1 hfz8_0 hcz8_2 hcz8_1 hcz8_0 c9 c7 c4b1 c4b0 c4 c3b1 c3b0 c3 p2 c1)
    obtain ⟨x6_1, x20_1, x1001_1, x1002_1, rfl, HA, HK1, HO_6, BK325, HI0, HK, HB⟩ := hrel
    have hl6_1 := (Kd.S_reads' HO_6.out).1
    rw [hl6_1] at HO_6
    (try simp only [hl6_1])
    (try simp only [hl6_1] at BK325)
    cases gk with
    | zero => exact absurd HA.out (by simp [spec_l2Stock.l0])
    | succ k1 =>
     have H := HA.out
     clear HA
     simp only [spec_l2Stock.l0] at H
     by_cases c13 : x20_1 < (y326.length : Int)
     ·rw [if_pos c13] at H
      have c13b0 := dt_ c13
      (try (have c13h0 := c13b0; simp only [hl6_1] at c13h0))
      clear c13
      replace H := bs_ H
      obtain ⟨⟨t332, t333, t334⟩, A140, H⟩ := H
      dsimp only at H
      have A14 := M_ A140
      clear A140
      replace H := bs_ H
      obtain ⟨⟨t335, t336, t337⟩, A150, H⟩ := H
      dsimp only at H
      have A15 := M_ A150
      clear A150
      have HC16 := M_ H
      clear H
      go_upto_if 26 with (first | ((with_reducible refine gate_callee (f := 73) rfl ?_); refine gl_ (some 24) Try.func73 #[.pointer (some ⟨g, 0, none⟩), .int .i64 5] ?_; (with_reducible refine (spec_l01Below.calls g s0_0 x1001_1 x1002_1 5 t332 t333 t334 w0 _ ?side1 ?side2 A14.out).mono ?_); (case side1 => exact iz1_ HI0.out NB0_325.out); (case side2 => exact bw2_ HB.out (IsS99.ge HI0.out) GE325.out); rintro e w17 ⟨rfl, hi, hb, hk⟩; refine ⟨_, rfl, ?_⟩; have z_ := t5_ (Kd.S_mono (Kd.S_keep (IsS99.apartS (show IsS99 w0 _ g s0_0 x1001_1 x1002_1 from iz1_ HI0.out NB0_325.out) (kS_ HO_6.out) (by decide)) hk (fun _ h => h.2)) (fun _ h => h.1)) (KeepBut.blk hk (bk_ BK325.out) NB325_0.out (by simp)) (kT_ (ki1_ HK.out GW325.out) hk (.inl rfl)) hb hi; clear HI0 HB HK BK325 HO_6; obtain ⟨HO_6, BK325, HK, HB, HI0⟩ := z_; (try clear hi hk hb)) | ((with_reducible refine gate_callee (f := 100) rfl ?_); refine gl_ (some 26) Try.func100 #[.pointer (some ⟨g, 0, none⟩), .int .i64 10] ?_; (with_reducible refine (spec_l01Once.calls g s0_0 t333 t334 10 t335 t336 t337 w0 _ ?side1 ?side2 A15.out).mono ?_); (case side1 => exact iz1_ HI0.out NB0_325.out); (case side2 => exact bw2_ HB.out (IsS99.ge HI0.out) GE325.out); rintro e w18 ⟨rfl, hi, hb, hk⟩; refine ⟨_, rfl, ?_⟩; have z_ := t5_ (Kd.S_mono (Kd.S_keep (IsS99.apartS (show IsS99 w0 _ g s0_0 t333 t334 from iz1_ HI0.out NB0_325.out) (kS_ HO_6.out) (by decide)) hk (fun _ h => h.2)) (fun _ h => h.1)) (KeepBut.blk hk (bk_ BK325.out) NB325_0.out (by simp)) (kT_ (ki1_ HK.out GW325.out) hk (.inl rfl)) hb hi; clear HI0 HB HK BK325 HO_6; obtain ⟨HO_6, BK325, HK, HB, HI0⟩ := z_; (try clear hi hk hb)))
      (try simp only [Act.put, lA_, lB_, lC_])
      go_cut [9] (fun v9 wc => ∃ (kq : Nat) (x9_15 : Int) (x1001_15 : Int) (x1002_15 : Int), v9 = .int .i64 x9_15 ∧ Aside0 (spec_l2Stock.j1 kq (a1_0.size : Int) x6_1 t329 x20_1 x9_15 (y326.length : Int) x20_1 s0_0 x1001_15 x1002_15 a1_0 l1_1 l1_2 = some (r1, r2, r3)) ∧ Aside0 (kq ≤ k1) ∧ Aside0 (Kd.S (Kd.slice 30 k30) 34 wc w.heap.size (fun _ => True) (.slice Ao12 x6_1.length co12) x6_1) ∧ Aside0 (wc.heap[gb325]? = some (.cells #[.string a1_0, (.slice A1_1 l1_1.length c1_1), (.slice A1_2 l1_2.length c1_2)] 25 (0, 0))) ∧ Aside0 (IsS99 w0 wc g s0_0 x1001_15 x1002_15) ∧ Aside0 (KeepBut w wc g none) ∧ Aside0 (Below w0.heap.size w0 wc))
      case first =>
       have H := HC16.out
       clear HC16
       by_cases c19 : t335 = true
       ·subst c19
        rw [if_pos rfl] at H
        replace H := bs_ H
        obtain ⟨⟨t338, t339, t340⟩, A200, H⟩ := H
        dsimp only at H
        have A20 := M_ A200
        clear A200
        have H' := M_ H
        clear H
        go_wp2_with (first | ((with_reducible refine gate_callee (f := 73) rfl ?_); refine gl_ (some 28) Try.func73 #[.pointer (some ⟨g, 0, none⟩), .int .i64 2] ?_; (with_reducible refine (spec_l01Below.calls g s0_0 t336 t337 2 t338 t339 t340 w0 _ ?side1 ?side2 A20.out).mono ?_); (case side1 => exact iz1_ HI0.out NB0_325.out); (case side2 => exact bw2_ HB.out (IsS99.ge HI0.out) GE325.out); rintro e w21 ⟨rfl, hi, hb, hk⟩; refine ⟨_, rfl, ?_⟩; have z_ := t5_ (Kd.S_mono (Kd.S_keep (IsS99.apartS (show IsS99 w0 _ g s0_0 t336 t337 from iz1_ HI0.out NB0_325.out) (kS_ HO_6.out) (by decide)) hk (fun _ h => h.2)) (fun _ h => h.1)) (KeepBut.blk hk (bk_ BK325.out) NB325_0.out (by simp)) (kT_ (ki1_ HK.out GW325.out) hk (.inl rfl)) hb hi; clear HI0 HB HK BK325 HO_6; obtain ⟨HO_6, BK325, HK, HB, HI0⟩ := z_; (try clear hi hk hb)))
        go_meet
        case rel => exact ⟨_, (wrap64 (19 + t338)), (t339), (t340), (by first | rfl | (simp; done) | (simp [*]; done)), H', ⟨by have := HK1.out; first | omega | exact Nat.le_refl _⟩, ⟨by (try simp only [hl6_1]); refine kS_ ?_; exact HO_6.out⟩, ⟨by (try simp only [hl6_1]); refine bk_ ?_; exact BK325.out⟩, ⟨iz1_ HI0.out NB0_325.out⟩, ⟨ki1_ HK.out GW325.out⟩, ⟨bw2_ HB.out (IsS99.ge HI0.out) GE325.out⟩⟩
       ·replace c19 := Bool.eq_false_iff.mpr c19
        subst c19
        rw [if_neg (show ¬ (false = true) by decide)] at H
        have H' := M_ H
        clear H
        go_wp2
        go_meet
        case rel => exact ⟨_, (t332), (t336), (t337), (by first | rfl | (simp; done) | (simp [*]; done)), H', ⟨by have := HK1.out; first | omega | exact Nat.le_refl _⟩, ⟨by (try simp only [hl6_1]); refine kS_ ?_; exact HO_6.out⟩, ⟨by (try simp only [hl6_1]); refine bk_ ?_; exact BK325.out⟩, ⟨iz1_ HI0.out NB0_325.out⟩, ⟨ki1_ HK.out GW325.out⟩, ⟨bw2_ HB.out (IsS99.ge HI0.out) GE325.out⟩⟩
      case rest =>
       clear HC16
       (try clear p2 hfz8_2 hfz8_1 hfz8_0 hcz8_2 hcz8_1 hcz8_0 c19 c13b0 c13 c10 c9 c7 p6 c4b1 c4b0 c4 c3b1 c3b0 c3 p2 c1)
       obtain ⟨kq, x9_15, x1001_15, x1002_15, rfl, HA, HJ15, HO_6, BK325, HI0, HK, HB⟩ := hcut
       cases kq with
       | zero => exact absurd HA.out (by simp [spec_l2Stock.j1])
       | succ kj15 =>
        have H := HA.out
        clear HA
        simp only [spec_l2Stock.j1] at H
        have H' := M_ H
        clear H
        go_wp2
        go_loopg [9] kj15 (fun kq v9 w' => ∃ (x6_3 : List (List (S30))) (x9_3 : Int) (x1001_3 : Int) (x1002_3 : Int), v9 = .int .i64 x9_3 ∧ Aside0 (spec_l2Stock.l1 kq (a1_0.size : Int) x6_3 t329 x20_1 x9_3 (y326.length : Int) x20_1 s0_0 x1001_3 x1002_3 a1_0 l1_1 l1_2 = some (r1, r2, r3)) ∧ Aside0 (kq ≤ kj15) ∧ Aside0 (Kd.S (Kd.slice 30 k30) 34 w' w.heap.size (fun _ => True) (.slice Ao12 x6_1.length co12) x6_3) ∧ Aside0 (w'.heap[gb325]? = some (.cells #[.string a1_0, (.slice A1_1 l1_1.length c1_1), (.slice A1_2 l1_2.length c1_2)] 25 (0, 0))) ∧ Aside0 (IsS99 w0 w' g s0_0 x1001_3 x1002_3) ∧ Aside0 (KeepBut w w' g none) ∧ Aside0 (Below w0.heap.size w0 w'))
        case atStart => exact ⟨(x6_1), (x9_15), (x1001_15), (x1002_15), (by first | rfl | (simp; done) | (simp [*]; done)), H', ⟨Nat.le_refl _⟩, ⟨by (try simp only [hl6_1]); refine kS_ ?_; exact HO_6.out⟩, ⟨by (try simp only [hl6_1]); refine bk_ ?_; exact BK325.out⟩, ⟨iz1_ HI0.out NB0_325.out⟩, ⟨ki1_ HK.out GW325.out⟩, ⟨bw2_ HB.out (IsS99.ge HI0.out) GE325.out⟩⟩
        case round =>
         clear H'
         (try clear p6 p2 hfz8_2 hfz8_1 hfz8_0 hcz8_2 hcz8_1 hcz8_0 c19 c13b0 c13 c10 c9 c7 p6 c4b1 c4b0 c4 c3b1 c3b0 c3 p2 c1)
         obtain ⟨x6_3, x9_3, x1001_3, x1002_3, rfl, HA, HK3, HO_6, BK325, HI0, HK, HB⟩ := hrel
         have hl6_3 := (Kd.S_reads' HO_6.out).1
         rw [hl6_3] at HO_6
         (try simp only [hl6_3])
         (try simp only [hl6_3] at BK325)
         cases gk with
         | zero => exact absurd HA.out (by simp [spec_l2Stock.l1])
         | succ k3 =>
          have H := HA.out
          clear HA
          simp only [spec_l2Stock.l1] at H
          by_cases c22 : x9_3 > 0
          ·rw [if_pos c22] at H
           have c22b0 : decide (0 < x9_3) = true := dt_ c22
           (try (have c22h0 := c22b0; simp only [hl6_1, hl6_3] at c22h0))
           clear c22
           have HC23 := M_ H
           clear H
           go_upto_region 13 with (first | ((with_reducible refine gate_dst (N := 10) rfl ?_); refine be_ 10 #[.int .i64 0, .int .i64 0] 30 ?_; intro gb341 hg w24 hbox hb; have z_ := t9_ (sB_ (Kd.S_elderB (kS_ HO_6.out) gb341 (Nat.le_of_eq hg.symm)) hb) (bB_ (bk_ BK325.out) hb) (IsS99.below (iz1_ HI0.out NB0_325.out) hb) (kT_ (ki1_ HK.out GW325.out) (kO_ hb g none) (.inl rfl)) (bS_ (bw2_ HB.out (IsS99.ge HI0.out) GE325.out) hb) hbox (gw_ g hg (ki1_ HK.out GW325.out) : w.heap.size ≤ gb341) (by rw [hg]; exact Nat.ne_of_lt (blk_lt (bk_ BK325.out)) : gb325 ≠ gb341) (by rw [hg]; exact Nat.ne_of_lt (IsS99.lt (show IsS99 w0 _ g s0_0 x1001_3 x1002_3 from iz1_ HI0.out NB0_325.out)) : g ≠ gb341); clear HB HK HI0 BK325 HO_6; obtain ⟨HO_6, BK325, HI0, HK, HB, BK341, GW341, NB325_341, NB0_341⟩ := z_; have GE341 := M_ (Nat.le_trans HW0.out GW341.out); have NB341_325 := M_ NB325_341.out.symm; have NB341_0 := M_ NB0_341.out.symm; clear hb hbox hg; have hnb25 := NB341_325.out; have hnc25 := NB325_341.out; have hnb26 := NB341_0.out; have hnc26 := NB0_341.out; have hcz27_0 := cz_ BK341.out 0 (.int .i64 0); have hcz27_1 := cz_ BK341.out 1 (.int .i64 0); have hfz27_0 := fz_ BK341.out 0; have hfz27_1 := fz_ BK341.out 1))
           (try simp only [Act.put, lA_, lB_, lC_])
           go_cut [41] (fun v41 wc => ∃ (kq : Nat) (x41_22 : Bool) (x1001_22 : Int) (x1002_22 : Int), v41 = .bool x41_22 ∧ Aside0 (spec_l2Stock.j3 kq (a1_0.size : Int) x6_3 t329 x20_1 x9_3 (y326.length : Int) x20_1 x41_22 s0_0 x1001_22 x1002_22 a1_0 l1_1 l1_2 x20_1 0 = some (r1, r2, r3)) ∧ Aside0 (kq ≤ k3) ∧ Aside0 (Kd.S (Kd.slice 30 k30) 34 wc w.heap.size (fun k_ => k_ ≠ gb341) (.slice Ao12 x6_3.length co12) x6_3) ∧ Aside0 (wc.heap[gb325]? = some (.cells #[.string a1_0, (.slice A1_1 l1_1.length c1_1), (.slice A1_2 l1_2.length c1_2)] 25 (0, 0))) ∧ Aside0 (wc.heap[gb341]? = some (.cells #[.int .i64 x20_1, .int .i64 0] 30 (0, 0))) ∧ Aside0 (IsS99 w0 wc g s0_0 x1001_22 x1002_22) ∧ Aside0 (KeepBut w wc g none) ∧ Aside0 (Below w0.heap.size w0 wc))
           case first =>
            have H := HC23.out
            clear HC23
            by_cases c28 : t329 > 0
            ·rw [if_pos c28] at H
             have c28b0 : decide (0 < t329) = true := dt_ c28
             (try (have c28h0 := c28b0; simp only [hl6_1, hl6_3] at c28h0))
             clear c28
             (first | rw [c28b0] | (simp only [i64_w, i32_w]; rw [c28b0]) | skip)
             replace H := bs_ H
             obtain ⟨⟨t342, t343, t344⟩, A290, H⟩ := H
             dsimp only at H
             have A29 := M_ A290
             clear A290
             have H' := M_ H
             clear H
             go_wp2_with (first | (go_at_call 100; (with_reducible refine (spec_l01Once.calls g s0_0 x1001_3 x1002_3 4 t342 t343 t344 w0 _ ?side1 ?side2 A29.out).mono ?_); (case side1 => exact iz2_ HI0.out NB0_325.out NB0_341.out); (case side2 => exact bw3_ HB.out (IsS99.ge HI0.out) GE325.out GE341.out); rintro e w30 ⟨rfl, hi, hb, hk⟩; have z_ := t6_ (Kd.S_mono (Kd.S_keep (IsS99.apartS (show IsS99 w0 _ g s0_0 x1001_3 x1002_3 from iz2_ HI0.out NB0_325.out NB0_341.out) (by refine kS_ ?_; exact (Kd.S_mono (Kd.S_far (p := ⟨gb341, 1, none⟩) (Kd.S_far (p := ⟨gb341, 0, none⟩) (Kd.S_mono HO_6.out (fun k_ hk => (⟨hk, hk.2⟩ : _ ∧ k_ ≠ gb341))) (fun _ hk => hk.2) (.int .i64 x20_1)) (fun _ hk => hk.2) (.int .i64 0)) (fun _ h_ => h_.1))) (by decide)) hk (fun _ h => h.2)) (fun _ h => h.1)) (KeepBut.blk hk (g' := gb325) (o := .cells #[.string a1_0, .slice A1_1 l1_1.length c1_1, .slice A1_2 l1_2.length c1_2] 25 (0, 0)) (by refine bk_ ?_; refine blk_far ?_ NB325_341.out _; refine bk_ ?_; refine blk_far ?_ NB325_341.out _; refine bk_ ?_; exact BK325.out) NB325_0.out (by simp)) (KeepBut.blk hk (g' := gb341) (o := .cells #[.int .i64 x20_1, .int .i64 0] 30 (0, 0)) (by refine bk_ ?_; refine blk_put (cs := #[.int .i64 x20_1, .int .i64 0]) ?_ 1 _ rfl; refine bk_ ?_; refine blk_put (cs := #[.int .i64 0, .int .i64 0]) ?_ 0 _ rfl; refine bk_ ?_; exact BK341.out) NB341_0.out (by simp)) (kT_ (ki2_ HK.out GW325.out GW341.out) hk (.inl rfl)) hb hi; clear HI0 HB HK BK341 BK325 HO_6; obtain ⟨HO_6, BK325, BK341, HK, HB, HI0⟩ := z_; (try clear hi hk hb)))
             go_meet
             case rel => exact ⟨_, (t342), (t343), (t344), (by first | rfl | (simp; done) | (simp [*]; done)), H', ⟨by have := HK1.out; have := HJ15.out; have := HK3.out; first | omega | exact Nat.le_refl _⟩, ⟨by (try simp only [hl6_1]); (try simp only [hl6_3]); refine kS_ ?_; exact Kd.S_mono HO_6.out (fun _ hk => hk.2)⟩, ⟨by (try simp only [hl6_1]); (try simp only [hl6_3]); refine bk_ ?_; exact BK325.out⟩, ⟨by (try simp only [hl6_1]); (try simp only [hl6_3]); refine bk_ ?_; exact BK341.out⟩, ⟨iz2_ HI0.out NB0_325.out NB0_341.out⟩, ⟨ki2_ HK.out GW325.out GW341.out⟩, ⟨bw3_ HB.out (IsS99.ge HI0.out) GE325.out GE341.out⟩⟩
            ·rw [if_neg c28] at H
             have c28b0 : decide (0 < t329) = false := decide_eq_false c28
             (try (have c28h0 := c28b0; simp only [hl6_1, hl6_3] at c28h0))
             clear c28
             (first | rw [c28b0] | (simp only [i64_w, i32_w]; rw [c28b0]) | skip)
             have H' := M_ H
             clear H
             go_wp2
             go_meet
             case rel => exact ⟨_, (false), (x1001_3), (x1002_3), (by first | rfl | (simp; done) | (simp [*]; done)), H', ⟨by have := HK1.out; have := HJ15.out; have := HK3.out; first | omega | exact Nat.le_refl _⟩, ⟨by (try simp only [hl6_1]); (try simp only [hl6_3]); refine kS_ ?_; exact Kd.S_mono (Kd.S_far (p := ⟨gb341, 1, none⟩) (Kd.S_far (p := ⟨gb341, 0, none⟩) (Kd.S_mono HO_6.out (fun k_ hk => (⟨hk, hk.2⟩ : _ ∧ k_ ≠ gb341))) (fun _ hk => hk.2) (.int .i64 x20_1)) (fun _ hk => hk.2) (.int .i64 0)) (fun _ hk => hk.1.2)⟩, ⟨by (try simp only [hl6_1]); (try simp only [hl6_3]); refine bk_ ?_; refine blk_far ?_ NB325_341.out _; refine bk_ ?_; refine blk_far ?_ NB325_341.out _; refine bk_ ?_; exact BK325.out⟩, ⟨by (try simp only [hl6_1]); (try simp only [hl6_3]); refine bk_ ?_; refine blk_put (cs := #[.int .i64 x20_1, .int .i64 0]) ?_ 1 _ rfl; refine bk_ ?_; refine blk_put (cs := #[.int .i64 0, .int .i64 0]) ?_ 0 _ rfl; refine bk_ ?_; exact BK341.out⟩, ⟨iz2_ HI0.out NB0_325.out NB0_341.out⟩, ⟨ki2_ HK.out GW325.out GW341.out⟩, ⟨bw3_ HB.out (IsS99.ge HI0.out) GE325.out GE341.out⟩⟩
           case rest =>
            clear HC23
            (try clear p6 p2 hfz8_2 hfz8_1 hfz8_0 hfz27_1 hfz27_0 hcz8_2 hcz8_1 hcz8_0 hcz27_1 hcz27_0 c28b0 c28 c26 c25 c22b0 c22 c19 c13b0 c13 c10 c9 c7 p6 c4b1 c4b0 c4 c3b1 c3b0 c3 p2 c2 c1)
            obtain ⟨kq, x41_22, x1001_22, x1002_22, rfl, HA, HJ22, HO_6, BK325, BK341, HI0, HK, HB⟩ := hcut
            cases kq with
            | zero => exact absurd HA.out (by simp [spec_l2Stock.j3])
            | succ kj22 =>
             have H := HA.out
             clear HA
             simp only [spec_l2Stock.j3] at H
             have HC31 := M_ H
             clear H
             go_upto_if 41 with (fail)
             go_cut [] (fun wc => ∃ (kq : Nat) (x1001_30 : Int) (x1002_30 : Int) (x342000_30 : Int), Aside0 (spec_l2Stock.j4 kq (a1_0.size : Int) x6_3 t329 x20_1 x9_3 (y326.length : Int) x20_1 s0_0 x1001_30 x1002_30 a1_0 l1_1 l1_2 x342000_30 0 = some (r1, r2, r3)) ∧ Aside0 (kq ≤ kj22) ∧ Aside0 (Kd.S (Kd.slice 30 k30) 34 wc w.heap.size (fun k_ => k_ ≠ gb341) (.slice Ao12 x6_3.length co12) x6_3) ∧ Aside0 (wc.heap[gb325]? = some (.cells #[.string a1_0, (.slice A1_1 l1_1.length c1_1), (.slice A1_2 l1_2.length c1_2)] 25 (0, 0))) ∧ Aside0 (wc.heap[gb341]? = some (.cells #[.int .i64 x342000_30, .int .i64 0] 30 (0, 0))) ∧ Aside0 (IsS99 w0 wc g s0_0 x1001_30 x1002_30) ∧ Aside0 (KeepBut w wc g none) ∧ Aside0 (Below w0.heap.size w0 wc))
             case first =>
              have H := HC31.out
              clear HC31
              by_cases c32 : x41_22 = true
              ·subst c32
               rw [if_pos rfl] at H
               replace H := bs_ H
               obtain ⟨⟨t345, t346, t347⟩, A330, H⟩ := H
               dsimp only at H
               have A33 := M_ A330
               clear A330
               have H' := M_ H
               clear H
               go_wp2_with (first | ((with_reducible refine gate_callee (f := 73) rfl ?_); refine gl_ (some 44) Try.func73 #[.pointer (some ⟨g, 0, none⟩), .int .i64 (a1_0.size : Int)] ?_; (with_reducible refine (spec_l01Below.calls g s0_0 x1001_22 x1002_22 (a1_0.size : Int) t345 t346 t347 w0 _ ?side1 ?side2 A33.out).mono ?_); (case side1 => exact iz2_ HI0.out NB0_325.out NB0_341.out); (case side2 => exact bw3_ HB.out (IsS99.ge HI0.out) GE325.out GE341.out); rintro e w34 ⟨rfl, hi, hb, hk⟩; refine ⟨_, rfl, ?_⟩; have z_ := t6_ (Kd.S_mono (Kd.S_keep (IsS99.apartS (show IsS99 w0 _ g s0_0 x1001_22 x1002_22 from iz2_ HI0.out NB0_325.out NB0_341.out) (kS_ HO_6.out) (by decide)) hk (fun _ h => h.2)) (fun _ h => h.1)) (KeepBut.blk hk (bk_ BK325.out) NB325_0.out (by simp)) (KeepBut.blk hk (bk_ BK341.out) NB341_0.out (by simp)) (kT_ (ki2_ HK.out GW325.out GW341.out) hk (.inl rfl)) hb hi; clear HI0 HB HK BK341 BK325 HO_6; obtain ⟨HO_6, BK325, BK341, HK, HB, HI0⟩ := z_; (try clear hi hk hb); have hnb35 := NB341_325.out; have hnc35 := NB325_341.out; have hnb36 := NB341_0.out; have hnc36 := NB0_341.out; have hcz37_0 := cz_ BK341.out 0 (.int .i64 x20_1); have hcz37_1 := cz_ BK341.out 1 (.int .i64 0); have hfz37_0 := fz_ BK341.out 0; have hfz37_1 := fz_ BK341.out 1))
               go_meet
               case rel => exact ⟨_, (t346), (t347), (t345), H', ⟨by have := HK1.out; have := HJ15.out; have := HK3.out; have := HJ22.out; first | omega | exact Nat.le_refl _⟩, ⟨by (try simp only [hl6_1]); (try simp only [hl6_3]); refine kS_ ?_; exact Kd.S_mono (Kd.S_far (p := ⟨gb341, 0, none⟩) (Kd.S_mono HO_6.out (fun k_ hk => (⟨hk, hk⟩ : _ ∧ k_ ≠ gb341))) (fun _ hk => hk.2) (.int .i64 t345)) (fun _ hk => hk.1)⟩, ⟨by (try simp only [hl6_1]); (try simp only [hl6_3]); refine bk_ ?_; refine blk_far ?_ NB325_341.out _; refine bk_ ?_; exact BK325.out⟩, ⟨by (try simp only [hl6_1]); (try simp only [hl6_3]); refine bk_ ?_; refine blk_put (cs := #[.int .i64 x20_1, .int .i64 0]) ?_ 0 _ rfl; refine bk_ ?_; exact BK341.out⟩, ⟨iz2_ HI0.out NB0_325.out NB0_341.out⟩, ⟨ki2_ HK.out GW325.out GW341.out⟩, ⟨bw3_ HB.out (IsS99.ge HI0.out) GE325.out GE341.out⟩⟩
              ·replace c32 := Bool.eq_false_iff.mpr c32
               subst c32
               rw [if_neg (show ¬ (false = true) by decide)] at H
               have H' := M_ H
               clear H
               go_wp2
               go_meet
               case rel => exact ⟨_, (x1001_22), (x1002_22), (x20_1), H', ⟨by have := HK1.out; have := HJ15.out; have := HK3.out; have := HJ22.out; first | omega | exact Nat.le_refl _⟩, ⟨by (try simp only [hl6_1]); (try simp only [hl6_3]); refine kS_ ?_; exact HO_6.out⟩, ⟨by (try simp only [hl6_1]); (try simp only [hl6_3]); refine bk_ ?_; exact BK325.out⟩, ⟨by (try simp only [hl6_1]); (try simp only [hl6_3]); refine bk_ ?_; exact BK341.out⟩, ⟨iz2_ HI0.out NB0_325.out NB0_341.out⟩, ⟨ki2_ HK.out GW325.out GW341.out⟩, ⟨bw3_ HB.out (IsS99.ge HI0.out) GE325.out GE341.out⟩⟩
             case rest =>
              clear HC31
              (try clear p6 p2 hfz8_2 hfz8_1 hfz8_0 hfz37_1 hfz37_0 hfz27_1 hfz27_0 hcz8_2 hcz8_1 hcz8_0 hcz37_1 hcz37_0 hcz27_1 hcz27_0 c36 c35 c32 c28b0 c28 c26 c25 c22b0 c22 c19 c13b0 c13 c10 c9 c7 p6 c4b1 c4b0 c4 c3b1 c3b0 c3 p2 c2 c1)
              obtain ⟨kq, x1001_30, x1002_30, x342000_30, HA, HJ30, HO_6, BK325, BK341, HI0, HK, HB⟩ := hcut
              cases kq with
              | zero => exact absurd HA.out (by simp [spec_l2Stock.j4])
              | succ kj30 =>
               have H := HA.out
               clear HA
               simp only [spec_l2Stock.j4] at H
               have HC38 := M_ H
               clear H
               have hnb39 := NB341_325.out
               have hnc39 := NB325_341.out
               have hnb40 := NB341_0.out
               have hnc40 := NB0_341.out
               have hcz41_0 : wc.cell? ⟨gb341, 0, none⟩ = some (.int .i64 x342000_30) := (blk_cell BK341.out 0).trans rfl
               have hcz41_1 : wc.cell? ⟨gb341, 1, none⟩ = some (.int .i64 0) := (blk_cell BK341.out 1).trans rfl
               have hfz41_0 := fz_ BK341.out 0
               have hfz41_1 := fz_ BK341.out 1
               have hnb42 := NB325_0.out
               have hnc42 := NB0_325.out
               have hcz43_0 : wc.cell? ⟨gb325, 0, none⟩ = some (.string a1_0) := (blk_cell BK325.out 0).trans rfl
               have hcz43_1 : wc.cell? ⟨gb325, 1, none⟩ = some (.slice A1_1 l1_1.length c1_1) := (blk_cell BK325.out 1).trans rfl
               have hcz43_2 : wc.cell? ⟨gb325, 2, none⟩ = some (.slice A1_2 l1_2.length c1_2) := (blk_cell BK325.out 2).trans rfl
               have hfz43_0 := fz_ BK325.out 0
               have hfz43_1 := fz_ BK325.out 1
               have hfz43_2 := fz_ BK325.out 2
               go_upto_if 51 with (fail)
               go_cut [] (fun wc => ∃ (kq : Nat) (x342001_37 : Int), Aside0 (spec_l2Stock.j5 kq (a1_0.size : Int) x6_3 t329 x20_1 x9_3 (y326.length : Int) x20_1 s0_0 x1001_30 x1002_30 a1_0 l1_1 l1_2 x342000_30 x342001_37 = some (r1, r2, r3)) ∧ Aside0 (kq ≤ kj30) ∧ Aside0 (Kd.S (Kd.slice 30 k30) 34 wc w.heap.size (fun k_ => k_ ≠ gb341) (.slice Ao12 x6_3.length co12) x6_3) ∧ Aside0 (wc.heap[gb325]? = some (.cells #[.string a1_0, (.slice A1_1 l1_1.length c1_1), (.slice A1_2 l1_2.length c1_2)] 25 (0, 0))) ∧ Aside0 (wc.heap[gb341]? = some (.cells #[.int .i64 x342000_30, .int .i64 x342001_37] 30 (0, 0))) ∧ Aside0 (IsS99 w0 wc g s0_0 x1001_30 x1002_30) ∧ Aside0 (KeepBut w wc g none) ∧ Aside0 (Below w0.heap.size w0 wc))
               case first =>
                have H := HC38.out
                clear HC38
                by_cases c44 : x342000_30 < (l1_2.length : Int)
                ·rw [if_pos c44] at H
                 have c44b0 := dt_ c44
                 (try (have c44h0 := c44b0; simp only [hl6_1, hl6_3] at c44h0))
                 clear c44
                 (first | rw [c44b0] | (simp only [i64_w, i32_w]; rw [c44b0]) | skip)
                 by_cases c45 : 0 ≤ x342000_30
                 ·rw [if_pos c45] at H
                  have c45b0 := dt_ c45
                  (try (have c45h0 := c45b0; simp only [hl6_1, hl6_3] at c45h0))
                  clear c45
                  have H' := M_ H
                  clear H
                  have hnb46 := NB325_341.out
                  have hnc46 := NB341_325.out
                  have hnb47 := NB325_0.out
                  have hnc47 := NB0_325.out
                  have hcz48_0 : wc.cell? ⟨gb325, 0, none⟩ = some (.string a1_0) := (blk_cell BK325.out 0).trans rfl
                  have hcz48_1 : wc.cell? ⟨gb325, 1, none⟩ = some (.slice A1_1 l1_1.length c1_1) := (blk_cell BK325.out 1).trans rfl
                  have hcz48_2 : wc.cell? ⟨gb325, 2, none⟩ = some (.slice A1_2 l1_2.length c1_2) := (blk_cell BK325.out 2).trans rfl
                  have hfz48_0 := fz_ BK325.out 0
                  have hfz48_1 := fz_ BK325.out 1
                  have hfz48_2 := fz_ BK325.out 2
                  have hnb49 := NB341_0.out
                  have hnc49 := NB0_341.out
                  have hcz50_0 : wc.cell? ⟨gb341, 0, none⟩ = some (.int .i64 x342000_30) := (blk_cell BK341.out 0).trans rfl
                  have hcz50_1 : wc.cell? ⟨gb341, 1, none⟩ = some (.int .i64 0) := (blk_cell BK341.out 1).trans rfl
                  have hfz50_0 := fz_ BK341.out 0
                  have hfz50_1 := fz_ BK341.out 1
                  have p348 : 0 ≤ (x342000_30 : Int) := od_ as_
                  have q348 : x342000_30 < (l1_2.length : Int) := od_ as_
                  obtain ⟨ad348, e348, hx348_0⟩ := Kd.at_int HR1_2.out x342000_30 p348 q348
                  cases e348
                  replace hx348_0 := keep_cell HK.out hx348_0 (by first | (rw [add_block]; exact hf1_2 _ rfl (by omega)) | exact hf1_2 _ rfl (by omega) | exact hf1_2 ad348 rfl (by omega))
                  replace p348 := eq_true p348
                  replace q348 := eq_true q348
                  go_wp2
                  go_meet
                  case rel => exact ⟨_, (rd l1_2 x342000_30), H', ⟨by have := HK1.out; have := HJ15.out; have := HK3.out; have := HJ22.out; have := HJ30.out; first | omega | exact Nat.le_refl _⟩, ⟨by (try simp only [hl6_1]); (try simp only [hl6_3]); refine kS_ ?_; exact Kd.S_mono (Kd.S_far (p := ⟨gb341, 1, none⟩) (Kd.S_mono HO_6.out (fun k_ hk => (⟨hk, hk⟩ : _ ∧ k_ ≠ gb341))) (fun _ hk => hk.2) (.int .i64 (rd l1_2 x342000_30))) (fun _ hk => hk.1)⟩, ⟨by (try simp only [hl6_1]); (try simp only [hl6_3]); refine bk_ ?_; refine blk_far ?_ NB325_341.out _; refine bk_ ?_; exact BK325.out⟩, ⟨by (try simp only [hl6_1]); (try simp only [hl6_3]); refine bk_ ?_; refine blk_put (cs := #[.int .i64 x342000_30, .int .i64 0]) ?_ 1 _ rfl; refine bk_ ?_; exact BK341.out⟩, ⟨iz2_ HI0.out NB0_325.out NB0_341.out⟩, ⟨ki2_ HK.out GW325.out GW341.out⟩, ⟨bw3_ HB.out (IsS99.ge HI0.out) GE325.out GE341.out⟩⟩
                 ·rw [if_neg c45] at H
                  exact absurd H (by simp)
                ·rw [if_neg c44] at H
                 have c44b0 := decide_eq_false c44
                 (try (have c44h0 := c44b0; simp only [hl6_1, hl6_3] at c44h0))
                 clear c44
                 (first | rw [c44b0] | (simp only [i64_w, i32_w]; rw [c44b0]) | skip)
                 have H' := M_ H
                 clear H
                 go_wp2
                 go_meet
                 case rel => exact ⟨_, (0), H', ⟨by have := HK1.out; have := HJ15.out; have := HK3.out; have := HJ22.out; have := HJ30.out; first | omega | exact Nat.le_refl _⟩, ⟨by (try simp only [hl6_1]); (try simp only [hl6_3]); refine kS_ ?_; exact HO_6.out⟩, ⟨by (try simp only [hl6_1]); (try simp only [hl6_3]); refine bk_ ?_; exact BK325.out⟩, ⟨by (try simp only [hl6_1]); (try simp only [hl6_3]); refine bk_ ?_; exact BK341.out⟩, ⟨iz2_ HI0.out NB0_325.out NB0_341.out⟩, ⟨ki2_ HK.out GW325.out GW341.out⟩, ⟨bw3_ HB.out (IsS99.ge HI0.out) GE325.out GE341.out⟩⟩
               case rest =>
                clear HC38
                (try clear q348 p6 p348 p2 hx348_0 hfz8_2 hfz8_1 hfz8_0 hfz50_1 hfz50_0 hfz48_2 hfz48_1 hfz48_0 hfz43_2 hfz43_1 hfz43_0 hfz41_1 hfz41_0 hfz37_1 hfz37_0 hfz27_1 hfz27_0 hcz8_2 hcz8_1 hcz8_0 hcz50_1 hcz50_0 hcz48_2 hcz48_1 hcz48_0 hcz43_2 hcz43_1 hcz43_0 hcz41_1 hcz41_0 hcz37_1 hcz37_0 hcz27_1 hcz27_0 c49 c47 c46 c45b0 c45 c44b0 c44 c42 c40 c39 c36 c35 hx34 q34 p34 c32 c28b0 c28 c26 c25 c22b0 c22 c19 c13b0 c13 c10 c9 c7 p6 c4b1 c4b0 c4 hx3 q3 p3 c3b1 c3b0 c3 p2 c2 c1)
                obtain ⟨kq, x342001_37, HA, HJ37, HO_6, BK325, BK341, HI0, HK, HB⟩ := hcut
                cases kq with
                | zero => exact absurd HA.out (by simp [spec_l2Stock.j5])
                | succ kj37 =>
                 have H := HA.out
                 clear HA
                 simp only [spec_l2Stock.j5] at H
                 by_cases c51 : t329 > 1
                 ·rw [if_pos c51] at H
                  have c51b0 : decide (1 < t329) = true := dt_ c51
                  (try (have c51h0 := c51b0; simp only [hl6_1, hl6_3] at c51h0))
                  clear c51
                  replace H := bs_ H
                  obtain ⟨⟨t349, t350, t351⟩, A520, H⟩ := H
                  dsimp only at H
                  have A52 := M_ A520
                  clear A520
                  by_cases c53 : t349 = true
                  ·subst c53
                   rw [if_pos rfl] at H
                   replace H := bs_ H
                   obtain ⟨⟨t352, t353, t354⟩, A540, H⟩ := H
                   dsimp only at H
                   have A54 := M_ A540
                   clear A540
                   by_cases c55 : 0 ≤ t352
                   ·rw [if_pos c55] at H
                    have c55b0 := eq_true c55
                    have c55b1 := dt_ c55
                    clear c55
                    obtain ⟨ji56, hji56⟩ : ∃ j_ : Int, (shl .i64 1 t352) = j_ := ⟨_, rfl⟩
                    replace H : (if 0 ≤ x20_1 then (if x20_1 < (x6_3.length : Int) then (if (rd_L2 x6_3 x20_1).length < 8796093022208 then (spec_l2Stock.l1 kj37 (a1_0.size : Int) (x6_3.set (x20_1 : Int).toNat ((rd_L2 x6_3 x20_1) ++ [(⟨x342000_30, Go.bits .andNot .i64 x342001_37 (ji56)⟩ : S30)])) t329 x20_1 (wrap64 (x9_3 - 1)) (y326.length : Int) x20_1 s0_0 t353 t354 a1_0 l1_1 l1_2) else (none)) else (none)) else (none)) = some (r1, r2, r3) := by first | (rw [hji56] at H; exact H) | (simp only [hji56] at H ⊢; exact H)
                    (try rw [hji56] at A52)
                    (try rw [hji56] at A54)
                    have hji56_ : (IntKind.i64.wrap (1 * 2 ^ min t352.toNat 64)) = ji56 := hji56
                    have hji56z : t352 ≤ 64 → (IntKind.i64.wrap (1 * 2 ^ t352.toNat)) = ji56 := shl_small hji56
                    have hji56u : (IntKind.i64.wrap (2 ^ min t352.toNat 64)) = ji56 := by have h_ := hji56_; rw [Int.one_mul] at h_; exact h_
                    have hji56v : t352 ≤ 64 → (IntKind.i64.wrap (2 ^ t352.toNat)) = ji56 := fun hle_ => by have h_ := hji56z hle_; rw [Int.one_mul] at h_; exact h_
                    have hji56y : (wrap64 (1 * 2 ^ min t352.toNat 64)) = ji56 := (i64_w _).symm.trans hji56_
                    have hji56x : t352 ≤ 64 → (wrap64 (1 * 2 ^ t352.toNat)) = ji56 := fun h_ => (i64_w _).symm.trans (hji56z h_)
                    by_cases c57 : 0 ≤ x20_1
                    ·rw [if_pos c57] at H
                     have c57b0 := dt_ c57
                     (try (have c57h0 := c57b0; simp only [hl6_1, hl6_3] at c57h0))
                     clear c57
                     by_cases c58 : x20_1 < (x6_3.length : Int)
                     ·rw [if_pos c58] at H
                      have c58b0 := dt_ c58
                      (try (have c58h0 := c58b0; simp only [hl6_1, hl6_3] at c58h0))
                      clear c58
                      by_cases c59 : (rd_L2 x6_3 x20_1).length < 8796093022208
                      ·rw [if_pos c59] at H
                       have LMc59 := M_ c59
                       clear c59
                       obtain ⟨y356, hy356⟩ : ∃ y_ : List (S30), y_ = ((rd_L2 x6_3 x20_1) ++ [(⟨x342000_30, Go.bits .andNot .i64 x342001_37 (ji56)⟩ : S30)]) := ⟨_, rfl⟩
                       replace H : (spec_l2Stock.l1 kj37 (a1_0.size : Int) (x6_3.set (x20_1 : Int).toNat y356) t329 x20_1 (wrap64 (x9_3 - 1)) (y326.length : Int) x20_1 s0_0 t353 t354 a1_0 l1_1 l1_2) = some (r1, r2, r3) := by first | (rw [hy356]; with_reducible exact H) | (have H2_ := (Option.bind_some _ _).symm.trans H; rw [hy356]; with_reducible exact H2_) | (have H2_ := (Option.bind_some _ _).symm.trans H; with_reducible exact H2_) | with_reducible exact H | (rw [hy356]; exact H) | exact H
                       have Ny356 := M_ hy356
                       clear hy356
                       obtain ⟨y359, hy359⟩ : ∃ y_ : List (List (S30)), y_ = (x6_3.set (x20_1 : Int).toNat y356) := ⟨_, rfl⟩
                       replace H : (spec_l2Stock.l1 kj37 (a1_0.size : Int) y359 t329 x20_1 (wrap64 (x9_3 - 1)) (y326.length : Int) x20_1 s0_0 t353 t354 a1_0 l1_1 l1_2) = some (r1, r2, r3) := by first | (rw [hy359]; with_reducible exact H) | (have H2_ := (Option.bind_some _ _).symm.trans H; rw [hy359]; with_reducible exact H2_) | (have H2_ := (Option.bind_some _ _).symm.trans H; with_reducible exact H2_) | with_reducible exact H | (rw [hy359]; exact H) | exact H
                       have Ny359 := M_ hy359
                       clear hy359
                       have H' := M_ H
                       clear H
                       try go_wp2_with (first | (go_at_call 100; (with_reducible refine (spec_l01Once.calls g s0_0 x1001_30 x1002_30 3 true t350 t351 w0 _ ?side1 ?side2 A52.out).mono ?_); (case side1 => exact iz2_ HI0.out NB0_325.out NB0_341.out); (case side2 => exact bw3_ HB.out (IsS99.ge HI0.out) GE325.out GE341.out); rintro e w61 ⟨rfl, hi, hb, hk⟩; have z_ := t6_ (Kd.S_mono (Kd.S_keep (IsS99.apartS (show IsS99 w0 _ g s0_0 x1001_30 x1002_30 from iz2_ HI0.out NB0_325.out NB0_341.out) (kS_ HO_6.out) (by decide)) hk (fun _ h => h.2)) (fun _ h => h.1)) (KeepBut.blk hk (bk_ BK325.out) NB325_0.out (by simp)) (KeepBut.blk hk (bk_ BK341.out) NB341_0.out (by simp)) (kT_ (ki2_ HK.out GW325.out GW341.out) hk (.inl rfl)) hb hi; clear HI0 HB HK BK341 BK325 HO_6; obtain ⟨HO_6, BK325, BK341, HK, HB, HI0⟩ := z_; (try clear hi hk hb)))
                       have z_ := t6_ (Kd.S_drew HO_6.out) (blk_drew BK325.out) (blk_drew BK341.out) (IsS99.drew HI0.out) (keep_drew HK.out) (below_drew1 HB.out)
                       clear HB HK HI0 BK341 BK325 HO_6
                       obtain ⟨HO_6, BK325, BK341, HI0, HK, HB⟩ := z_
                       refine start_ (n := 8) (S := fun w' => w'.cell? ⟨gb341, 0, none⟩ = some (.int .i64 x342000_30) ∧ w'.cell? ⟨gb341, 1, none⟩ = some (.int .i64 x342001_37)) (ds := [7]) (mk_ 8 0) (by kernel_rfl) rfl rfl ⟨(blk_cell BK341.out 0).trans rfl, (blk_cell BK341.out 1).trans rfl⟩ (fun hHeld => ?_); refine with_tabW spec_l2Stock.tab18 spec_l2Stock.bits18 (fun HT_ HW_ => ?_)
                       generalize w61.drew = w62 at HO_6 BK325 BK341 HI0 HK HB hHeld ⊢
                       refine pu_ 0 (some 65) (mk_ 8 1) HT_.out ?_
                       refine pu_ 2 (some 67) (mk_ 8 5) HT_.out ?_
                       refine ta_ 1 (some 66) (mk_ 8 7) HT_.out HW_.out hHeld (hy := by rintro w' ⟨s0, s1⟩; go_simp; with_reducible rfl) (h := ?_)
                       refine on_ 3 (some 68) (mk_ 8 15) HT_.out fun K hK => ?_
                       refine goes_ Try.func73 (by kernel_rfl) rfl #[.pointer (some ⟨g, 0, none⟩), .int .i64 7] (by rfl) rfl rfl ar_ ?_
                       with_reducible refine (spec_l01Below.calls g s0_0 t350 t351 7 t352 t353 t354 w0 _ ?side1 ?side2 A54.out).mono ?_
                       (case side1 => exact iz2_ HI0.out NB0_325.out NB0_341.out)
                       (case side2 => exact bw3_ HB.out (IsS99.ge HI0.out) GE325.out GE341.out)
                       rintro e w63 ⟨rfl, hi, hb, hk⟩
                       refine ⟨_, rfl, ?_⟩
                       have z_ := t6_ (Kd.S_mono (Kd.S_keep (IsS99.apartS (show IsS99 w0 _ g s0_0 t350 t351 from iz2_ HI0.out NB0_325.out NB0_341.out) (kS_ HO_6.out) (by decide)) hk (fun _ h => h.2)) (fun _ h => h.1)) (KeepBut.blk hk (bk_ BK325.out) NB325_0.out (by simp)) (KeepBut.blk hk (bk_ BK341.out) NB341_0.out (by simp)) (kT_ (ki2_ HK.out GW325.out GW341.out) hk (.inl rfl)) hb hi
                       clear HI0 HB HK BK341 BK325 HO_6
                       obtain ⟨HO_6, BK325, BK341, HK, HB, HI0⟩ := z_
                       (try clear hi hk hb)
                       refine hK.out _ _ ⟨(blk_cell BK341.out 0).trans rfl, (blk_cell BK341.out 1).trans rfl⟩ (fun hHeld => ?_)
                       clear hK K
                       refine norm_ (a' := ?_) ?_ ?_
                       rotate_left
                       ·show Act.put _ (some 68) _ = _
                        simp only [Act.put, lA_, lB_, lC_, i64_w, i32_w]
                        rfl
                       refine pu_ 4 (some 69) (mk_ 8 31) HT_.out ?_
                       refine pu_ 5 (some 70) (mk_ 8 63) HT_.out ?_
                       refine pu_ 6 (some 71) (mk_ 8 127) HT_.out ?_
                       refine la_ 7 none (mk_ 8 255) HT_.out fun K hK => ?_
                       have hs64 := cz_ BK341.out 1 (.int .i64 x342001_37)
                       have hfs64 := fz_ BK341.out 1
                       have hns64_0 := NB325_341.out
                       have hms64_0 := NB341_325.out
                       refine skip_ (w1 := ?_) (by rfl) rfl ?_ ?_
                       rotate_left
                       ·go_simp
                        rfl
                       refine hK.out _ _ ?_
                       clear hK K
                       refine done_ (done_of HT_.out (by kernel_rfl)) ?_
                       try go_wp2
                       have n0_ : Aside0 (Kd.S (Kd.slice 30 k30) 34 (w63.setCell ⟨gb341, 1, none⟩ (.int .i64 (Go.bits .andNot .i64 x342001_37 (ji56)))) w.heap.size (fun k_ => k_ ≠ gb341) (.slice Ao12 x6_3.length co12) x6_3) := ⟨by refine kS_ ?_; exact Kd.S_mono (Kd.S_far (p := ⟨gb341, 1, none⟩) (Kd.S_mono HO_6.out (fun k_ hk => (⟨hk, hk⟩ : _ ∧ k_ ≠ gb341))) (fun _ hk => hk.2) (.int .i64 (Go.bits .andNot .i64 x342001_37 (ji56)))) (fun _ hk => hk.1)⟩
                       have n1_ : Aside0 ((w63.setCell ⟨gb341, 1, none⟩ (.int .i64 (Go.bits .andNot .i64 x342001_37 (ji56)))).heap[gb325]? = some (.cells #[.string a1_0, .slice A1_1 l1_1.length c1_1, .slice A1_2 l1_2.length c1_2] 25 (0, 0))) := ⟨by refine bk_ ?_; refine blk_far ?_ NB325_341.out _; refine bk_ ?_; exact BK325.out⟩
                       have n2_ : Aside0 ((w63.setCell ⟨gb341, 1, none⟩ (.int .i64 (Go.bits .andNot .i64 x342001_37 (ji56)))).heap[gb341]? = some (.cells #[.int .i64 x342000_30, .int .i64 (Go.bits .andNot .i64 x342001_37 (ji56))] 30 (0, 0))) := ⟨by refine bk_ ?_; refine blk_put (cs := #[.int .i64 x342000_30, .int .i64 x342001_37]) ?_ 1 _ rfl; refine bk_ ?_; exact BK341.out⟩
                       have n3_ : Aside0 (IsS99 w0 (w63.setCell ⟨gb341, 1, none⟩ (.int .i64 (Go.bits .andNot .i64 x342001_37 (ji56)))) g s0_0 t353 t354) := ⟨iz2_ HI0.out NB0_325.out NB0_341.out⟩
                       have n4_ : Aside0 (KeepBut w (w63.setCell ⟨gb341, 1, none⟩ (.int .i64 (Go.bits .andNot .i64 x342001_37 (ji56)))) g none) := ⟨ki2_ HK.out GW325.out GW341.out⟩
                       have n5_ : Aside0 (Below w0.heap.size w0 (w63.setCell ⟨gb341, 1, none⟩ (.int .i64 (Go.bits .andNot .i64 x342001_37 (ji56))))) := ⟨bw3_ HB.out (IsS99.ge HI0.out) GE325.out GE341.out⟩
                       (try clear HB HK HI0 BK341 BK325 HO_6)
                       generalize (w63.setCell ⟨gb341, 1, none⟩ (.int .i64 (Go.bits .andNot .i64 x342001_37 (ji56)))) = w65 at n0_ n1_ n2_ n3_ n4_ n5_ ⊢
                       have HO_6 := n0_
                       have BK325 := n1_
                       have BK341 := n2_
                       have HI0 := n3_
                       have HK := n4_
                       have HB := n5_
                       clear n0_ n1_ n2_ n3_ n4_ n5_
                       have z_ := t6_ (Kd.S_drew HO_6.out) (blk_drew BK325.out) (blk_drew BK341.out) (IsS99.drew HI0.out) (keep_drew HK.out) (below_drew1 HB.out)
                       clear HB HK HI0 BK341 BK325 HO_6
                       obtain ⟨HO_6, BK325, BK341, HI0, HK, HB⟩ := z_
                       have p355 : 0 ≤ (x20_1 : Int) := od_ as_
                       have q355 : x20_1 < (x6_3.length : Int) := od_ as_
                       obtain ⟨ad355, A355_0, c355_0, e355, hx355_0, hl355_0, hi355_0⟩ := at_L2 (Kd.S_reads' HO_6.out).2.2 x20_1 p355 q355
                       cases e355
                       obtain ⟨ce355, hce355, hMe355, hcc355⟩ := Kd.S_get HO_6.out [] x20_1 p355 (by first | exact q355 | exact od_ as_ | (have e_ := (Kd.S_reads' HO_6.out).1; omega))
                       obtain ⟨ve355_0, rfl, ge355_0⟩ := hMe355
                       have hv355_0 := hcc355 0 _ rfl
                       rw [Nat.add_zero, show ((Kd.slice 30 k30)).sz = 1 from rfl, Nat.mul_one] at hv355_0
                       replace hv355_0 := Option.some.inj (hv355_0.symm.trans hx355_0)
                       rw [hv355_0] at ge355_0
                       have HL355_0 := M_ (show Kd.R k30 30 _ _ _ _ (rd_L2 x6_3 x20_1) from ge355_0)
                       clear hv355_0 ge355_0
                       have HX355_0 := M_ hx355_0
                       clear hcc355 hce355
                       have HR355_0 := M_ hi355_0
                       have HC355_0 := M_ hl355_0
                       clear hi355_0 hl355_0
                       replace p355 := eq_true p355
                       replace q355 := eq_true q355
                       obtain ⟨go67, co67, eo67, gb67, gl67, cl67, HG67⟩ := Kd.S_form HO_6.out (by have h_ : (x20_1 : Int) < ((x6_3.length : Int) : Int) := od_ as_; have h2_ : 0 ≤ (x20_1 : Int) := (od_ as_); omega)
                       (first | cases eo67 | (injection eo67 with ea_ en_ ec_; (first | subst ea_ | (injection ea_ with ea_; subst ea_)); subst ec_; clear en_))
                       have GB67 := M_ gb67
                       have GG67 := M_ HG67
                       clear gb67 gl67 HG67
                       (first | simp only [add_plain] at hx355_0 | skip)
                       obtain ⟨oki67, ce67, hcl67, hM67, hcc67, _, _, hH67⟩ := Kd.S_elem HO_6.out [] (x20_1 : Int) (od_ as_) (by have h_ : (x20_1 : Int) < ((x6_3.length : Int) : Int) := od_ as_; first | exact h_ | (have e_ := (Kd.S_reads' HO_6.out).1; omega) | simpa using h_)
                       obtain ⟨ve67_0, rfl, ge67_0⟩ := hM67
                       have hv67 := hcc67 0 _ rfl
                       have hX67 := HX355_0.out
                       (try simp only [add_plain] at hX67)
                       (try simp only [Nat.add_zero] at hv67)
                       (try rw [show ((Kd.slice 30 k30)).sz = 1 from rfl, Nat.mul_one] at hv67)
                       replace hv67 := Option.some.inj (hv67.symm.trans hX67)
                       subst hv67
                       clear hX67 hcc67 hcl67
                       have UU67 := M_ (show Kd.R k30 30 _ w.heap.size oki67 (.slice A355_0 (rd_L2 x6_3 x20_1).length c355_0) (rd_L2 x6_3 x20_1) from ge67_0)
                       have HH67 := M_ hH67
                       have HN67 := M_ (Kd.S_reads' HO_6.out).1
                       clear hH67 ge67_0
                       refine start_ (n := 11) (S := fun w' => w'.cell? ⟨gb341, 0, none⟩ = some (.int .i64 x342000_30) ∧ w'.cell? ⟨gb341, 1, none⟩ = some (.int .i64 (Go.bits .andNot .i64 x342001_37 (ji56))) ∧ w'.cell? ⟨go67, (x20_1).toNat, none⟩ = some (.slice A355_0 (rd_L2 x6_3 x20_1).length c355_0)) (ds := [10]) (mk_ 11 0) (by kernel_rfl) rfl rfl ⟨(blk_cell BK341.out 0).trans rfl, (blk_cell BK341.out 1).trans rfl, hx355_0⟩ (fun hHeld => ?_); refine with_tabW spec_l2Stock.tab19 spec_l2Stock.bits19 (fun HT_ HW_ => ?_)
                       generalize w65.drew = w66 at HO_6 BK325 BK341 HI0 HK HB GG67 HH67 HL355_0 HR355_0 HX355_0 UU67 hx355_0 hHeld ⊢
                       refine pu_ 0 (some 72) (mk_ 11 1) HT_.out ?_
                       refine pu_ 1 (some 73) (mk_ 11 3) HT_.out ?_
                       refine pu_ 2 (some 74) (mk_ 11 7) HT_.out ?_
                       refine pu_ 3 (some 75) (mk_ 11 15) HT_.out ?_
                       refine pu_ 4 (some 76) (mk_ 11 31) HT_.out ?_
                       refine ta_ 5 (some 77) (mk_ 11 63) HT_.out HW_.out hHeld (hy := by rintro w' ⟨s0, s1, s2⟩; go_simp; with_reducible rfl) (h := ?_)
                       refine ta_ 6 (some 78) (mk_ 11 127) HT_.out HW_.out hHeld (hy := by rintro w' ⟨s0, s1, s2⟩; go_simp; with_reducible rfl) (h := ?_)
                       refine on_ 7 (some 79) (mk_ 11 255) HT_.out fun K hK => ?_
                       refine value_ (w1 := ?_) (v := ?_) (by rfl) rfl ?_ ?_
                       rotate_left 2
                       ·go_simp
                        constructor
                        ·rfl
                        ·rfl
                       refine hK.out _ _ ⟨(blk_cell (blk_alloc BK341.out _) 0).trans rfl, (blk_cell (blk_alloc BK341.out _) 1).trans rfl, (World.cell?_alloc_lt _ _ _ (World.block_lt_of_cell? _ _ (hHeld.2.2))).trans (hHeld.2.2)⟩ (fun hHeld => ?_)
                       clear hK K
                       refine norm_ (a' := ?_) ?_ ?_
                       rotate_left
                       ·show Act.put _ (some 79) _ = _
                        simp only [Act.put, lA_, lB_, lC_, i64_w, i32_w]
                        rfl
                       refine on_ 8 (some 80) (mk_ 11 511) HT_.out fun K hK => ?_
                       refine Kd.R_append_step k30 w.heap.size (by rfl) (.tmp 77) (.tmp 79) 34 30 (.agg #[(.int .i64 0), (.int .i64 0)]) 16 rfl Try.underlying34 info30 rfl (by decide) (by omega) (.slice A355_0 (rd_L2 x6_3 x20_1).length c355_0) (rd_L2 x6_3 x20_1) (⟨x342000_30, Go.bits .andNot .i64 x342001_37 (ji56)⟩ : S30) [.int .i64 x342000_30, .int .i64 (Go.bits .andNot .i64 x342001_37 (ji56))] (fun k_ => oki67 k_ ∨ ((fun k_ => k_ ≠ gb341)) k_ ∧ w66.heap.size ≤ k_) (fun _ => False) rfl rfl ?aP (fun _ hk => hk.elim) ?aF ?aO (Below.refl _ _) ?aS ?aL ?_
                       (case aP => exact k30_mkM _ _ _ (⟨x342000_30, Go.bits .andNot .i64 x342001_37 (ji56)⟩ : S30))
                       (case aF => exact (fun k_ hk => .inr ⟨Kd.freshB (g := gb341) (o := .cells #[.int .i64 x342000_30, .int .i64 (Go.bits .andNot .i64 x342001_37 (ji56))] 30 (0, 0)) (bk_ BK341.out) k_ hk, hk⟩))
                       (case aO => exact (by refine kR_ ?_; exact Kd.R_mono UU67.out (fun _ hk => .inl hk)))
                       (case aS => exact (keep_size (w := w) (g := g) (row := none) (ki2_ HK.out GW325.out GW341.out)))
                       (case aL => have := LMc59.out; omega)
                       intro v357 w68 ho hb hg hat
                       (first | have HS2_ := cell_grown hg (hHeld.2.2) (by first | (rw [add_block]; exact (fun e_ => ((HL355_0.out.1 _ e_.symm).2) rfl)) | (show some (Addr.add _ _).block ≠ _; rw [add_block]; exact (fun e_ => ((HL355_0.out.1 _ e_.symm).2) rfl)) | exact (fun e_ => ((HL355_0.out.1 _ e_.symm).2) rfl)) | have HS2_ := cell_grown hg (cell_unalloc (hHeld.2.2) (by first | (rw [add_block]; exact Kd.S_lt HO_6.out _ rfl) | (show (Addr.add _ _).block < _; rw [add_block]; exact Kd.S_lt HO_6.out _ rfl) | exact Kd.S_lt HO_6.out _ rfl)) (by first | (rw [add_block]; exact (fun e_ => ((HL355_0.out.1 _ e_.symm).2) rfl)) | (show some (Addr.add _ _).block ≠ _; rw [add_block]; exact (fun e_ => ((HL355_0.out.1 _ e_.symm).2) rfl)) | exact (fun e_ => ((HL355_0.out.1 _ e_.symm).2) rfl)))
                       rw [← Ny356.out] at ho
                       have z_ := t7_ (blk_grown (g := gb325) (o := .cells #[.string a1_0, .slice A1_1 l1_1.length c1_1, .slice A1_2 l1_2.length c1_2] 25 (0, 0)) (bk_ BK325.out) hg (Kd.R_ne HL355_0.out BK325.out (by decide))) (blk_grown (g := gb341) (o := .cells #[.int .i64 x342000_30, .int .i64 (Go.bits .andNot .i64 x342001_37 (ji56))] 30 (0, 0)) (bk_ BK341.out) hg (Kd.R_away HL355_0.out (fun _ hk => hk.1))) (IsS99.grown (iz2_ HI0.out NB0_325.out NB0_341.out) hg (IsS99.own_ne HI0.out HL355_0.out (by decide))) (below_weaken (bw3_ HB.out (IsS99.ge HI0.out) GE325.out GE341.out) HL.out hb) (kT_ (ki2_ HK.out GW325.out GW341.out) (KeepBut.of_grown hg g) (Kd.R_base2 HL355_0.out)) (Kd.H_grown (Kd.H_widen (by repeat (first | exact HH67.out | refine Kd.H_alloc ?_ _ | refine Kd.H_drewN ?_ _ | refine Kd.H_drew ?_))) hg (fun k_ e_ => .inl (UU67.out.1 k_ e_))) ho
                       clear HL355_0 UU67 HO_6 HH67 HK HB HI0 BK341 BK325
                       obtain ⟨BK325, BK341, HI0, HB, HK, HH67, HO358⟩ := z_
                       clear ho hb hg hat
                       have p60 : 0 ≤ (x20_1 : Int) := od_ as_
                       have q60 : (x20_1 : Int) < ((x6_3.length : Int) : Int) := od_ as_
                       replace p60 := eq_true p60
                       replace q60 := eq_true q60
                       obtain ⟨Ao71, co71, eo71⟩ := Kd.R_slice HO358.out
                       (first | subst eo71 | (injection eo71 with f1_ f2_ f3_; have f4_ := f1_.symm; have f5_ := f3_.symm; clear f1_ f2_ f3_; subst f4_; subst f5_))
                       obtain ⟨_, _, hraw69, _, _, hcc69, _⟩ := Kd.H_raw HH67.out (od_ as_) (by have h_ : (x20_1 : Int) < ((x6_3.length : Int) : Int) := od_ as_; first | exact h_ | (have e_ := (HN67.out); omega) | simpa using h_)
                       obtain ⟨_, hfr69⟩ := Kd.H_at HH67.out (od_ as_) (by have h_ : (x20_1 : Int) < ((x6_3.length : Int) : Int) := od_ as_; first | exact h_ | (have e_ := (HN67.out); omega) | simpa using h_)
                       have hx69_0 := hcc69 0 _ rfl
                       have hf69_0 := hfr69 0
                       (try simp only [Nat.add_zero] at hx69_0 hf69_0)
                       (try rw [show ((Kd.slice 30 k30)).sz = 1 from rfl, Nat.mul_one] at hx69_0)
                       (try rw [show ((Kd.slice 30 k30)).sz = 1 from rfl, Nat.mul_one] at hf69_0)
                       have HP69 := Kd.S_seg0 HH67.out (od_ as_) (by have h_ : (x20_1 : Int) < ((x6_3.length : Int) : Int) := od_ as_; first | exact h_ | (have e_ := (HN67.out); omega) | simpa using h_) (seg := [.slice Ao71 y356.length co71]) (j := 0) (show 1 ≤ 1 from by decide) (x' := y356) (Kd.M_row HO358.out) (fun _ hk => hk)
                       (try simp only [show ((Kd.slice 30 k30)).sz = 1 from rfl, Nat.mul_one, Nat.add_zero] at HP69)
                       clear hcc69 hfr69
                       have HN0_go67 := M_ (show g ≠ go67 from by have h_ := IsS99.own_ne HI0.out hraw69 (by decide); intro e_; exact h_ (by rw [e_]; rfl))
                       have HNB325_go67 := M_ (show gb325 ≠ go67 from by have h_ := Kd.R_ne hraw69 BK325.out (by decide); intro e_; exact h_ (by rw [e_]; rfl))
                       have HNB341_go67 := M_ (show gb341 ≠ go67 from by have h_ := Kd.R_ne hraw69 BK341.out (by decide); intro e_; exact h_ (by rw [e_]; rfl))
                       have HS69 := HP69.1
                       rw [← Ny359.out] at HS69
                       have HQ69 := M_ HS69
                       obtain ⟨_, hgg69⟩ := Kd.R_typed hraw69 go67 rfl
                       have GG69_ := M_ hgg69
                       clear HP69 HS69 hgg69
                       refine hK.out _ _ ⟨(blk_cell BK341.out 0).trans rfl, (blk_cell BK341.out 1).trans rfl, HS2_⟩ (fun hHeld => ?_)
                       clear hK K
                       refine norm_ (a' := ?_) ?_ ?_
                       rotate_left
                       ·show Act.put _ (some 80) _ = _
                        simp only [Act.put, lA_, lB_, lC_, i64_w, i32_w]
                        rfl
                       refine pu_ 9 (some 81) (mk_ 11 1023) HT_.out ?_
                       refine la_ 10 none (mk_ 11 2047) HT_.out fun K hK => ?_
                       refine skip_ (w1 := ?_) (by rfl) rfl ?_ ?_
                       rotate_left
                       ·go_simp
                        rfl
                       refine hK.out _ _ ?_
                       clear hK K
                       refine done_ (done_of HT_.out (by kernel_rfl)) ?_
                       try go_wp2
                       (try simp only [← hl6_3])
                       go_roundg kj37
                       case measure => have := HK1.out; have := HJ15.out; have := HK3.out; have := HJ22.out; have := HJ30.out; have := HJ37.out; omega
                       case rel => exact ⟨(y359), (wrap64 (x9_3 - 1)), (t353), (t354), (by first | rfl | (simp; done) | (simp [*]; done)), H', ⟨by have := HK1.out; have := HJ15.out; have := HK3.out; have := HJ22.out; have := HJ30.out; have := HJ37.out; omega⟩, ⟨by (try simp only [hl6_1]); (try simp only [hl6_3]); refine kS_ ?_; exact Kd.S_mono HQ69.out (fun _ hk => trivial)⟩, ⟨by (try simp only [hl6_1]); (try simp only [hl6_3]); refine bk_ ?_; refine blk_far ?_ HNB325_go67.out _; refine bk_ ?_; exact BK325.out⟩, ⟨iz3_ HI0.out HN0_go67.out NB0_325.out NB0_341.out⟩, ⟨ki3_ HK.out GB67.out GW325.out GW341.out⟩, ⟨bw4_ HB.out (Nat.le_trans HL.out GB67.out) (IsS99.ge HI0.out) GE325.out GE341.out⟩⟩
                      ·rw [if_neg c59] at H
                       exact absurd H (by simp)
                     ·rw [if_neg c58] at H
                      exact absurd H (by simp)
                    ·rw [if_neg c57] at H
                     exact absurd H (by simp)
                   ·rw [if_neg c55] at H
                    exact absurd H (by simp)
                  ·replace c53 := Bool.eq_false_iff.mpr c53
                   subst c53
                   rw [if_neg (show ¬ (false = true) by decide)] at H
                   by_cases c72 : 0 ≤ x20_1
                   ·rw [if_pos c72] at H
                    have c72b0 := dt_ c72
                    (try (have c72h0 := c72b0; simp only [hl6_1, hl6_3] at c72h0))
                    clear c72
                    by_cases c73 : x20_1 < (x6_3.length : Int)
                    ·rw [if_pos c73] at H
                     have c73b0 := dt_ c73
                     (try (have c73h0 := c73b0; simp only [hl6_1, hl6_3] at c73h0))
                     clear c73
                     by_cases c74 : (rd_L2 x6_3 x20_1).length < 8796093022208
                     ·rw [if_pos c74] at H
                      have LMc74 := M_ c74
                      clear c74
                      obtain ⟨y361, hy361⟩ : ∃ y_ : List (S30), y_ = ((rd_L2 x6_3 x20_1) ++ [(⟨x342000_30, x342001_37⟩ : S30)]) := ⟨_, rfl⟩
                      replace H : (spec_l2Stock.l1 kj37 (a1_0.size : Int) (x6_3.set (x20_1 : Int).toNat y361) t329 x20_1 (wrap64 (x9_3 - 1)) (y326.length : Int) x20_1 s0_0 t350 t351 a1_0 l1_1 l1_2) = some (r1, r2, r3) := by first | (rw [hy361]; with_reducible exact H) | (have H2_ := (Option.bind_some _ _).symm.trans H; rw [hy361]; with_reducible exact H2_) | (have H2_ := (Option.bind_some _ _).symm.trans H; with_reducible exact H2_) | with_reducible exact H | (rw [hy361]; exact H) | exact H
                      have Ny361 := M_ hy361
                      clear hy361
                      obtain ⟨y364, hy364⟩ : ∃ y_ : List (List (S30)), y_ = (x6_3.set (x20_1 : Int).toNat y361) := ⟨_, rfl⟩
                      replace H : (spec_l2Stock.l1 kj37 (a1_0.size : Int) y364 t329 x20_1 (wrap64 (x9_3 - 1)) (y326.length : Int) x20_1 s0_0 t350 t351 a1_0 l1_1 l1_2) = some (r1, r2, r3) := by first | (rw [hy364]; with_reducible exact H) | (have H2_ := (Option.bind_some _ _).symm.trans H; rw [hy364]; with_reducible exact H2_) | (have H2_ := (Option.bind_some _ _).symm.trans H; with_reducible exact H2_) | with_reducible exact H | (rw [hy364]; exact H) | exact H
                      have Ny364 := M_ hy364
                      clear hy364
                      have H' := M_ H
                      clear H
                      try go_wp2_with (first | (go_at_call 100; (with_reducible refine (spec_l01Once.calls g s0_0 x1001_30 x1002_30 3 false t350 t351 w0 _ ?side1 ?side2 A52.out).mono ?_); (case side1 => exact iz2_ HI0.out NB0_325.out NB0_341.out); (case side2 => exact bw3_ HB.out (IsS99.ge HI0.out) GE325.out GE341.out); rintro e w76 ⟨rfl, hi, hb, hk⟩; have z_ := t6_ (Kd.S_mono (Kd.S_keep (IsS99.apartS (show IsS99 w0 _ g s0_0 x1001_30 x1002_30 from iz2_ HI0.out NB0_325.out NB0_341.out) (kS_ HO_6.out) (by decide)) hk (fun _ h => h.2)) (fun _ h => h.1)) (KeepBut.blk hk (bk_ BK325.out) NB325_0.out (by simp)) (KeepBut.blk hk (bk_ BK341.out) NB341_0.out (by simp)) (kT_ (ki2_ HK.out GW325.out GW341.out) hk (.inl rfl)) hb hi; clear HI0 HB HK BK341 BK325 HO_6; obtain ⟨HO_6, BK325, BK341, HK, HB, HI0⟩ := z_; (try clear hi hk hb)))
                      have z_ := t6_ (Kd.S_drew HO_6.out) (blk_drew BK325.out) (blk_drew BK341.out) (IsS99.drew HI0.out) (keep_drew HK.out) (below_drew1 HB.out)
                      clear HB HK HI0 BK341 BK325 HO_6
                      obtain ⟨HO_6, BK325, BK341, HI0, HK, HB⟩ := z_
                      have p360 : 0 ≤ (x20_1 : Int) := od_ as_
                      have q360 : x20_1 < (x6_3.length : Int) := od_ as_
                      obtain ⟨ad360, A360_0, c360_0, e360, hx360_0, hl360_0, hi360_0⟩ := at_L2 (Kd.S_reads' HO_6.out).2.2 x20_1 p360 q360
                      cases e360
                      obtain ⟨ce360, hce360, hMe360, hcc360⟩ := Kd.S_get HO_6.out [] x20_1 p360 (by first | exact q360 | exact od_ as_ | (have e_ := (Kd.S_reads' HO_6.out).1; omega))
                      obtain ⟨ve360_0, rfl, ge360_0⟩ := hMe360
                      have hv360_0 := hcc360 0 _ rfl
                      rw [Nat.add_zero, show ((Kd.slice 30 k30)).sz = 1 from rfl, Nat.mul_one] at hv360_0
                      replace hv360_0 := Option.some.inj (hv360_0.symm.trans hx360_0)
                      rw [hv360_0] at ge360_0
                      have HL360_0 := M_ (show Kd.R k30 30 _ _ _ _ (rd_L2 x6_3 x20_1) from ge360_0)
                      clear hv360_0 ge360_0
                      have HX360_0 := M_ hx360_0
                      clear hcc360 hce360
                      have HR360_0 := M_ hi360_0
                      have HC360_0 := M_ hl360_0
                      clear hi360_0 hl360_0
                      replace p360 := eq_true p360
                      replace q360 := eq_true q360
                      obtain ⟨go78, co78, eo78, gb78, gl78, cl78, HG78⟩ := Kd.S_form HO_6.out (by have h_ : (x20_1 : Int) < ((x6_3.length : Int) : Int) := od_ as_; have h2_ : 0 ≤ (x20_1 : Int) := (od_ as_); omega)
                      (first | cases eo78 | (injection eo78 with ea_ en_ ec_; (first | subst ea_ | (injection ea_ with ea_; subst ea_)); subst ec_; clear en_))
                      have GB78 := M_ gb78
                      have GG78 := M_ HG78
                      clear gb78 gl78 HG78
                      (first | simp only [add_plain] at hx360_0 | skip)
                      obtain ⟨oki78, ce78, hcl78, hM78, hcc78, _, _, hH78⟩ := Kd.S_elem HO_6.out [] (x20_1 : Int) (od_ as_) (by have h_ : (x20_1 : Int) < ((x6_3.length : Int) : Int) := od_ as_; first | exact h_ | (have e_ := (Kd.S_reads' HO_6.out).1; omega) | simpa using h_)
                      obtain ⟨ve78_0, rfl, ge78_0⟩ := hM78
                      have hv78 := hcc78 0 _ rfl
                      have hX78 := HX360_0.out
                      (try simp only [add_plain] at hX78)
                      (try simp only [Nat.add_zero] at hv78)
                      (try rw [show ((Kd.slice 30 k30)).sz = 1 from rfl, Nat.mul_one] at hv78)
                      replace hv78 := Option.some.inj (hv78.symm.trans hX78)
                      subst hv78
                      clear hX78 hcc78 hcl78
                      have UU78 := M_ (show Kd.R k30 30 _ w.heap.size oki78 (.slice A360_0 (rd_L2 x6_3 x20_1).length c360_0) (rd_L2 x6_3 x20_1) from ge78_0)
                      have HH78 := M_ hH78
                      have HN78 := M_ (Kd.S_reads' HO_6.out).1
                      clear hH78 ge78_0
                      refine start_ (n := 11) (S := fun w' => w'.cell? ⟨gb341, 0, none⟩ = some (.int .i64 x342000_30) ∧ w'.cell? ⟨gb341, 1, none⟩ = some (.int .i64 x342001_37) ∧ w'.cell? ⟨go78, (x20_1).toNat, none⟩ = some (.slice A360_0 (rd_L2 x6_3 x20_1).length c360_0)) (ds := [10]) (mk_ 11 0) (by kernel_rfl) rfl rfl ⟨(blk_cell BK341.out 0).trans rfl, (blk_cell BK341.out 1).trans rfl, hx360_0⟩ (fun hHeld => ?_); refine with_tabW spec_l2Stock.tab19 spec_l2Stock.bits19 (fun HT_ HW_ => ?_)
                      generalize w76.drew = w77 at HO_6 BK325 BK341 HI0 HK HB GG78 HH78 HL360_0 HR360_0 HX360_0 UU78 hx360_0 hHeld ⊢
                      refine pu_ 0 (some 72) (mk_ 11 1) HT_.out ?_
                      refine pu_ 1 (some 73) (mk_ 11 3) HT_.out ?_
                      refine pu_ 2 (some 74) (mk_ 11 7) HT_.out ?_
                      refine pu_ 3 (some 75) (mk_ 11 15) HT_.out ?_
                      refine pu_ 4 (some 76) (mk_ 11 31) HT_.out ?_
                      refine ta_ 5 (some 77) (mk_ 11 63) HT_.out HW_.out hHeld (hy := by rintro w' ⟨s0, s1, s2⟩; go_simp; with_reducible rfl) (h := ?_)
                      refine ta_ 6 (some 78) (mk_ 11 127) HT_.out HW_.out hHeld (hy := by rintro w' ⟨s0, s1, s2⟩; go_simp; with_reducible rfl) (h := ?_)
                      refine on_ 7 (some 79) (mk_ 11 255) HT_.out fun K hK => ?_
                      refine value_ (w1 := ?_) (v := ?_) (by rfl) rfl ?_ ?_
                      rotate_left 2
                      ·go_simp
                       constructor
                       ·rfl
                       ·rfl
                      refine hK.out _ _ ⟨(blk_cell (blk_alloc BK341.out _) 0).trans rfl, (blk_cell (blk_alloc BK341.out _) 1).trans rfl, (World.cell?_alloc_lt _ _ _ (World.block_lt_of_cell? _ _ (hHeld.2.2))).trans (hHeld.2.2)⟩ (fun hHeld => ?_)
                      clear hK K
                      refine norm_ (a' := ?_) ?_ ?_
                      rotate_left
                      ·show Act.put _ (some 79) _ = _
                       simp only [Act.put, lA_, lB_, lC_, i64_w, i32_w]
                       rfl
                      refine on_ 8 (some 80) (mk_ 11 511) HT_.out fun K hK => ?_
                      refine Kd.R_append_step k30 w.heap.size (by rfl) (.tmp 77) (.tmp 79) 34 30 (.agg #[(.int .i64 0), (.int .i64 0)]) 16 rfl Try.underlying34 info30 rfl (by decide) (by omega) (.slice A360_0 (rd_L2 x6_3 x20_1).length c360_0) (rd_L2 x6_3 x20_1) (⟨x342000_30, x342001_37⟩ : S30) [.int .i64 x342000_30, .int .i64 x342001_37] (fun k_ => oki78 k_ ∨ ((fun k_ => k_ ≠ gb341)) k_ ∧ w77.heap.size ≤ k_) (fun _ => False) rfl rfl ?aP (fun _ hk => hk.elim) ?aF ?aO (Below.refl _ _) ?aS ?aL ?_
                      (case aP => exact k30_mkM _ _ _ (⟨x342000_30, x342001_37⟩ : S30))
                      (case aF => exact (fun k_ hk => .inr ⟨Kd.freshB (g := gb341) (o := .cells #[.int .i64 x342000_30, .int .i64 x342001_37] 30 (0, 0)) (bk_ BK341.out) k_ hk, hk⟩))
                      (case aO => exact (by refine kR_ ?_; exact Kd.R_mono UU78.out (fun _ hk => .inl hk)))
                      (case aS => exact (keep_size (w := w) (g := g) (row := none) (ki2_ HK.out GW325.out GW341.out)))
                      (case aL => have := LMc74.out; omega)
                      intro v362 w79 ho hb hg hat
                      (first | have HS2_ := cell_grown hg (hHeld.2.2) (by first | (rw [add_block]; exact (fun e_ => ((HL360_0.out.1 _ e_.symm).2) rfl)) | (show some (Addr.add _ _).block ≠ _; rw [add_block]; exact (fun e_ => ((HL360_0.out.1 _ e_.symm).2) rfl)) | exact (fun e_ => ((HL360_0.out.1 _ e_.symm).2) rfl)) | have HS2_ := cell_grown hg (cell_unalloc (hHeld.2.2) (by first | (rw [add_block]; exact Kd.S_lt HO_6.out _ rfl) | (show (Addr.add _ _).block < _; rw [add_block]; exact Kd.S_lt HO_6.out _ rfl) | exact Kd.S_lt HO_6.out _ rfl)) (by first | (rw [add_block]; exact (fun e_ => ((HL360_0.out.1 _ e_.symm).2) rfl)) | (show some (Addr.add _ _).block ≠ _; rw [add_block]; exact (fun e_ => ((HL360_0.out.1 _ e_.symm).2) rfl)) | exact (fun e_ => ((HL360_0.out.1 _ e_.symm).2) rfl)))
                      rw [← Ny361.out] at ho
                      have z_ := t7_ (blk_grown (g := gb325) (o := .cells #[.string a1_0, .slice A1_1 l1_1.length c1_1, .slice A1_2 l1_2.length c1_2] 25 (0, 0)) (bk_ BK325.out) hg (Kd.R_ne HL360_0.out BK325.out (by decide))) (blk_grown (g := gb341) (o := .cells #[.int .i64 x342000_30, .int .i64 x342001_37] 30 (0, 0)) (bk_ BK341.out) hg (Kd.R_away HL360_0.out (fun _ hk => hk.1))) (IsS99.grown (iz2_ HI0.out NB0_325.out NB0_341.out) hg (IsS99.own_ne HI0.out HL360_0.out (by decide))) (below_weaken (bw3_ HB.out (IsS99.ge HI0.out) GE325.out GE341.out) HL.out hb) (kT_ (ki2_ HK.out GW325.out GW341.out) (KeepBut.of_grown hg g) (Kd.R_base2 HL360_0.out)) (Kd.H_grown (Kd.H_widen (by repeat (first | exact HH78.out | refine Kd.H_alloc ?_ _ | refine Kd.H_drewN ?_ _ | refine Kd.H_drew ?_))) hg (fun k_ e_ => .inl (UU78.out.1 k_ e_))) ho
                      clear HL360_0 UU78 HO_6 HH78 HK HB HI0 BK341 BK325
                      obtain ⟨BK325, BK341, HI0, HB, HK, HH78, HO363⟩ := z_
                      clear ho hb hg hat
                      have p75 : 0 ≤ (x20_1 : Int) := od_ as_
                      have q75 : (x20_1 : Int) < ((x6_3.length : Int) : Int) := od_ as_
                      replace p75 := eq_true p75
                      replace q75 := eq_true q75
                      obtain ⟨Ao82, co82, eo82⟩ := Kd.R_slice HO363.out
                      (first | subst eo82 | (injection eo82 with f1_ f2_ f3_; have f4_ := f1_.symm; have f5_ := f3_.symm; clear f1_ f2_ f3_; subst f4_; subst f5_))
                      obtain ⟨_, _, hraw80, _, _, hcc80, _⟩ := Kd.H_raw HH78.out (od_ as_) (by have h_ : (x20_1 : Int) < ((x6_3.length : Int) : Int) := od_ as_; first | exact h_ | (have e_ := (HN78.out); omega) | simpa using h_)
                      obtain ⟨_, hfr80⟩ := Kd.H_at HH78.out (od_ as_) (by have h_ : (x20_1 : Int) < ((x6_3.length : Int) : Int) := od_ as_; first | exact h_ | (have e_ := (HN78.out); omega) | simpa using h_)
                      have hx80_0 := hcc80 0 _ rfl
                      have hf80_0 := hfr80 0
                      (try simp only [Nat.add_zero] at hx80_0 hf80_0)
                      (try rw [show ((Kd.slice 30 k30)).sz = 1 from rfl, Nat.mul_one] at hx80_0)
                      (try rw [show ((Kd.slice 30 k30)).sz = 1 from rfl, Nat.mul_one] at hf80_0)
                      have HP80 := Kd.S_seg0 HH78.out (od_ as_) (by have h_ : (x20_1 : Int) < ((x6_3.length : Int) : Int) := od_ as_; first | exact h_ | (have e_ := (HN78.out); omega) | simpa using h_) (seg := [.slice Ao82 y361.length co82]) (j := 0) (show 1 ≤ 1 from by decide) (x' := y361) (Kd.M_row HO363.out) (fun _ hk => hk)
                      (try simp only [show ((Kd.slice 30 k30)).sz = 1 from rfl, Nat.mul_one, Nat.add_zero] at HP80)
                      clear hcc80 hfr80
                      have HN0_go78 := M_ (show g ≠ go78 from by have h_ := IsS99.own_ne HI0.out hraw80 (by decide); intro e_; exact h_ (by rw [e_]; rfl))
                      have HNB325_go78 := M_ (show gb325 ≠ go78 from by have h_ := Kd.R_ne hraw80 BK325.out (by decide); intro e_; exact h_ (by rw [e_]; rfl))
                      have HNB341_go78 := M_ (show gb341 ≠ go78 from by have h_ := Kd.R_ne hraw80 BK341.out (by decide); intro e_; exact h_ (by rw [e_]; rfl))
                      have HS80 := HP80.1
                      rw [← Ny364.out] at HS80
                      have HQ80 := M_ HS80
                      obtain ⟨_, hgg80⟩ := Kd.R_typed hraw80 go78 rfl
                      have GG80_ := M_ hgg80
                      clear HP80 HS80 hgg80
                      refine hK.out _ _ ⟨(blk_cell BK341.out 0).trans rfl, (blk_cell BK341.out 1).trans rfl, HS2_⟩ (fun hHeld => ?_)
                      clear hK K
                      refine norm_ (a' := ?_) ?_ ?_
                      rotate_left
                      ·show Act.put _ (some 80) _ = _
                       simp only [Act.put, lA_, lB_, lC_, i64_w, i32_w]
                       rfl
                      refine pu_ 9 (some 81) (mk_ 11 1023) HT_.out ?_
                      refine la_ 10 none (mk_ 11 2047) HT_.out fun K hK => ?_
                      refine skip_ (w1 := ?_) (by rfl) rfl ?_ ?_
                      rotate_left
                      ·go_simp
                       rfl
                      refine hK.out _ _ ?_
                      clear hK K
                      refine done_ (done_of HT_.out (by kernel_rfl)) ?_
                      try go_wp2
                      (try simp only [← hl6_3])
                      go_roundg kj37
                      case measure => have := HK1.out; have := HJ15.out; have := HK3.out; have := HJ22.out; have := HJ30.out; have := HJ37.out; omega
                      case rel => exact ⟨(y364), (wrap64 (x9_3 - 1)), (t350), (t351), (by first | rfl | (simp; done) | (simp [*]; done)), H', ⟨by have := HK1.out; have := HJ15.out; have := HK3.out; have := HJ22.out; have := HJ30.out; have := HJ37.out; omega⟩, ⟨by (try simp only [hl6_1]); (try simp only [hl6_3]); refine kS_ ?_; exact Kd.S_mono HQ80.out (fun _ hk => trivial)⟩, ⟨by (try simp only [hl6_1]); (try simp only [hl6_3]); refine bk_ ?_; refine blk_far ?_ HNB325_go78.out _; refine bk_ ?_; exact BK325.out⟩, ⟨iz3_ HI0.out HN0_go78.out NB0_325.out NB0_341.out⟩, ⟨ki3_ HK.out GB78.out GW325.out GW341.out⟩, ⟨bw4_ HB.out (Nat.le_trans HL.out GB78.out) (IsS99.ge HI0.out) GE325.out GE341.out⟩⟩
                     ·rw [if_neg c74] at H
                      exact absurd H (by simp)
                    ·rw [if_neg c73] at H
                     exact absurd H (by simp)
                   ·rw [if_neg c72] at H
                    exact absurd H (by simp)
                 ·rw [if_neg c51] at H
                  have c51b0 : decide (1 < t329) = false := decide_eq_false c51
                  (try (have c51h0 := c51b0; simp only [hl6_1, hl6_3] at c51h0))
                  clear c51
                  by_cases c83 : 0 ≤ x20_1
                  ·rw [if_pos c83] at H
                   have c83b0 := dt_ c83
                   (try (have c83h0 := c83b0; simp only [hl6_1, hl6_3] at c83h0))
                   clear c83
                   by_cases c84 : x20_1 < (x6_3.length : Int)
                   ·rw [if_pos c84] at H
                    have c84b0 := dt_ c84
                    (try (have c84h0 := c84b0; simp only [hl6_1, hl6_3] at c84h0))
                    clear c84
                    by_cases c85 : (rd_L2 x6_3 x20_1).length < 8796093022208
                    ·rw [if_pos c85] at H
                     have LMc85 := M_ c85
                     clear c85
                     obtain ⟨y366, hy366⟩ : ∃ y_ : List (S30), y_ = ((rd_L2 x6_3 x20_1) ++ [(⟨x342000_30, x342001_37⟩ : S30)]) := ⟨_, rfl⟩
                     replace H : (spec_l2Stock.l1 kj37 (a1_0.size : Int) (x6_3.set (x20_1 : Int).toNat y366) t329 x20_1 (wrap64 (x9_3 - 1)) (y326.length : Int) x20_1 s0_0 x1001_30 x1002_30 a1_0 l1_1 l1_2) = some (r1, r2, r3) := by first | (rw [hy366]; with_reducible exact H) | (have H2_ := (Option.bind_some _ _).symm.trans H; rw [hy366]; with_reducible exact H2_) | (have H2_ := (Option.bind_some _ _).symm.trans H; with_reducible exact H2_) | with_reducible exact H | (rw [hy366]; exact H) | exact H
                     have Ny366 := M_ hy366
                     clear hy366
                     obtain ⟨y369, hy369⟩ : ∃ y_ : List (List (S30)), y_ = (x6_3.set (x20_1 : Int).toNat y366) := ⟨_, rfl⟩
                     replace H : (spec_l2Stock.l1 kj37 (a1_0.size : Int) y369 t329 x20_1 (wrap64 (x9_3 - 1)) (y326.length : Int) x20_1 s0_0 x1001_30 x1002_30 a1_0 l1_1 l1_2) = some (r1, r2, r3) := by first | (rw [hy369]; with_reducible exact H) | (have H2_ := (Option.bind_some _ _).symm.trans H; rw [hy369]; with_reducible exact H2_) | (have H2_ := (Option.bind_some _ _).symm.trans H; with_reducible exact H2_) | with_reducible exact H | (rw [hy369]; exact H) | exact H
                     have Ny369 := M_ hy369
                     clear hy369
                     have H' := M_ H
                     clear H
                     try go_wp2
                     have z_ := t6_ (Kd.S_drew HO_6.out) (blk_drew BK325.out) (blk_drew BK341.out) (IsS99.drew HI0.out) (keep_drew HK.out) (below_drew1 HB.out)
                     clear HB HK HI0 BK341 BK325 HO_6
                     obtain ⟨HO_6, BK325, BK341, HI0, HK, HB⟩ := z_
                     have p365 : 0 ≤ (x20_1 : Int) := od_ as_
                     have q365 : x20_1 < (x6_3.length : Int) := od_ as_
                     obtain ⟨ad365, A365_0, c365_0, e365, hx365_0, hl365_0, hi365_0⟩ := at_L2 (Kd.S_reads' HO_6.out).2.2 x20_1 p365 q365
                     cases e365
                     obtain ⟨ce365, hce365, hMe365, hcc365⟩ := Kd.S_get HO_6.out [] x20_1 p365 (by first | exact q365 | exact od_ as_ | (have e_ := (Kd.S_reads' HO_6.out).1; omega))
                     obtain ⟨ve365_0, rfl, ge365_0⟩ := hMe365
                     have hv365_0 := hcc365 0 _ rfl
                     rw [Nat.add_zero, show ((Kd.slice 30 k30)).sz = 1 from rfl, Nat.mul_one] at hv365_0
                     replace hv365_0 := Option.some.inj (hv365_0.symm.trans hx365_0)
                     rw [hv365_0] at ge365_0
                     have HL365_0 := M_ (show Kd.R k30 30 _ _ _ _ (rd_L2 x6_3 x20_1) from ge365_0)
                     clear hv365_0 ge365_0
                     have HX365_0 := M_ hx365_0
                     clear hcc365 hce365
                     have HR365_0 := M_ hi365_0
                     have HC365_0 := M_ hl365_0
                     clear hi365_0 hl365_0
                     replace p365 := eq_true p365
                     replace q365 := eq_true q365
                     obtain ⟨go88, co88, eo88, gb88, gl88, cl88, HG88⟩ := Kd.S_form HO_6.out (by have h_ : (x20_1 : Int) < ((x6_3.length : Int) : Int) := od_ as_; have h2_ : 0 ≤ (x20_1 : Int) := (od_ as_); omega)
                     (first | cases eo88 | (injection eo88 with ea_ en_ ec_; (first | subst ea_ | (injection ea_ with ea_; subst ea_)); subst ec_; clear en_))
                     have GB88 := M_ gb88
                     have GG88 := M_ HG88
                     clear gb88 gl88 HG88
                     (first | simp only [add_plain] at hx365_0 | skip)
                     obtain ⟨oki88, ce88, hcl88, hM88, hcc88, _, _, hH88⟩ := Kd.S_elem HO_6.out [] (x20_1 : Int) (od_ as_) (by have h_ : (x20_1 : Int) < ((x6_3.length : Int) : Int) := od_ as_; first | exact h_ | (have e_ := (Kd.S_reads' HO_6.out).1; omega) | simpa using h_)
                     obtain ⟨ve88_0, rfl, ge88_0⟩ := hM88
                     have hv88 := hcc88 0 _ rfl
                     have hX88 := HX365_0.out
                     (try simp only [add_plain] at hX88)
                     (try simp only [Nat.add_zero] at hv88)
                     (try rw [show ((Kd.slice 30 k30)).sz = 1 from rfl, Nat.mul_one] at hv88)
                     replace hv88 := Option.some.inj (hv88.symm.trans hX88)
                     subst hv88
                     clear hX88 hcc88 hcl88
                     have UU88 := M_ (show Kd.R k30 30 _ w.heap.size oki88 (.slice A365_0 (rd_L2 x6_3 x20_1).length c365_0) (rd_L2 x6_3 x20_1) from ge88_0)
                     have HH88 := M_ hH88
                     have HN88 := M_ (Kd.S_reads' HO_6.out).1
                     clear hH88 ge88_0
                     refine start_ (n := 11) (S := fun w' => w'.cell? ⟨gb341, 0, none⟩ = some (.int .i64 x342000_30) ∧ w'.cell? ⟨gb341, 1, none⟩ = some (.int .i64 x342001_37) ∧ w'.cell? ⟨go88, (x20_1).toNat, none⟩ = some (.slice A365_0 (rd_L2 x6_3 x20_1).length c365_0)) (ds := [10]) (mk_ 11 0) (by kernel_rfl) rfl rfl ⟨(blk_cell BK341.out 0).trans rfl, (blk_cell BK341.out 1).trans rfl, hx365_0⟩ (fun hHeld => ?_); refine with_tabW spec_l2Stock.tab19 spec_l2Stock.bits19 (fun HT_ HW_ => ?_)
                     generalize wc.drew = w87 at HO_6 BK325 BK341 HI0 HK HB GG88 HH88 HL365_0 HR365_0 HX365_0 UU88 hx365_0 hHeld ⊢
                     refine pu_ 0 (some 72) (mk_ 11 1) HT_.out ?_
                     refine pu_ 1 (some 73) (mk_ 11 3) HT_.out ?_
                     refine pu_ 2 (some 74) (mk_ 11 7) HT_.out ?_
                     refine pu_ 3 (some 75) (mk_ 11 15) HT_.out ?_
                     refine pu_ 4 (some 76) (mk_ 11 31) HT_.out ?_
                     refine ta_ 5 (some 77) (mk_ 11 63) HT_.out HW_.out hHeld (hy := by rintro w' ⟨s0, s1, s2⟩; go_simp; with_reducible rfl) (h := ?_)
                     refine ta_ 6 (some 78) (mk_ 11 127) HT_.out HW_.out hHeld (hy := by rintro w' ⟨s0, s1, s2⟩; go_simp; with_reducible rfl) (h := ?_)
                     refine on_ 7 (some 79) (mk_ 11 255) HT_.out fun K hK => ?_
                     refine value_ (w1 := ?_) (v := ?_) (by rfl) rfl ?_ ?_
                     rotate_left 2
                     ·go_simp
                      constructor
                      ·rfl
                      ·rfl
                     refine hK.out _ _ ⟨(blk_cell (blk_alloc BK341.out _) 0).trans rfl, (blk_cell (blk_alloc BK341.out _) 1).trans rfl, (World.cell?_alloc_lt _ _ _ (World.block_lt_of_cell? _ _ (hHeld.2.2))).trans (hHeld.2.2)⟩ (fun hHeld => ?_)
                     clear hK K
                     refine norm_ (a' := ?_) ?_ ?_
                     rotate_left
                     ·show Act.put _ (some 79) _ = _
                      simp only [Act.put, lA_, lB_, lC_, i64_w, i32_w]
                      rfl
                     refine on_ 8 (some 80) (mk_ 11 511) HT_.out fun K hK => ?_
                     refine Kd.R_append_step k30 w.heap.size (by rfl) (.tmp 77) (.tmp 79) 34 30 (.agg #[(.int .i64 0), (.int .i64 0)]) 16 rfl Try.underlying34 info30 rfl (by decide) (by omega) (.slice A365_0 (rd_L2 x6_3 x20_1).length c365_0) (rd_L2 x6_3 x20_1) (⟨x342000_30, x342001_37⟩ : S30) [.int .i64 x342000_30, .int .i64 x342001_37] (fun k_ => oki88 k_ ∨ ((fun k_ => k_ ≠ gb341)) k_ ∧ w87.heap.size ≤ k_) (fun _ => False) rfl rfl ?aP (fun _ hk => hk.elim) ?aF ?aO (Below.refl _ _) ?aS ?aL ?_
                     (case aP => exact k30_mkM _ _ _ (⟨x342000_30, x342001_37⟩ : S30))
                     (case aF => exact (fun k_ hk => .inr ⟨Kd.freshB (g := gb341) (o := .cells #[.int .i64 x342000_30, .int .i64 x342001_37] 30 (0, 0)) (bk_ BK341.out) k_ hk, hk⟩))
                     (case aO => exact (by refine kR_ ?_; exact Kd.R_mono UU88.out (fun _ hk => .inl hk)))
                     (case aS => exact (keep_size (w := w) (g := g) (row := none) (ki2_ HK.out GW325.out GW341.out)))
                     (case aL => have := LMc85.out; omega)
                     intro v367 w89 ho hb hg hat
                     (first | have HS2_ := cell_grown hg (hHeld.2.2) (by first | (rw [add_block]; exact (fun e_ => ((HL365_0.out.1 _ e_.symm).2) rfl)) | (show some (Addr.add _ _).block ≠ _; rw [add_block]; exact (fun e_ => ((HL365_0.out.1 _ e_.symm).2) rfl)) | exact (fun e_ => ((HL365_0.out.1 _ e_.symm).2) rfl)) | have HS2_ := cell_grown hg (cell_unalloc (hHeld.2.2) (by first | (rw [add_block]; exact Kd.S_lt HO_6.out _ rfl) | (show (Addr.add _ _).block < _; rw [add_block]; exact Kd.S_lt HO_6.out _ rfl) | exact Kd.S_lt HO_6.out _ rfl)) (by first | (rw [add_block]; exact (fun e_ => ((HL365_0.out.1 _ e_.symm).2) rfl)) | (show some (Addr.add _ _).block ≠ _; rw [add_block]; exact (fun e_ => ((HL365_0.out.1 _ e_.symm).2) rfl)) | exact (fun e_ => ((HL365_0.out.1 _ e_.symm).2) rfl)))
                     rw [← Ny366.out] at ho
                     have z_ := t7_ (blk_grown (g := gb325) (o := .cells #[.string a1_0, .slice A1_1 l1_1.length c1_1, .slice A1_2 l1_2.length c1_2] 25 (0, 0)) (bk_ BK325.out) hg (Kd.R_ne HL365_0.out BK325.out (by decide))) (blk_grown (g := gb341) (o := .cells #[.int .i64 x342000_30, .int .i64 x342001_37] 30 (0, 0)) (bk_ BK341.out) hg (Kd.R_away HL365_0.out (fun _ hk => hk.1))) (IsS99.grown (iz2_ HI0.out NB0_325.out NB0_341.out) hg (IsS99.own_ne HI0.out HL365_0.out (by decide))) (below_weaken (bw3_ HB.out (IsS99.ge HI0.out) GE325.out GE341.out) HL.out hb) (kT_ (ki2_ HK.out GW325.out GW341.out) (KeepBut.of_grown hg g) (Kd.R_base2 HL365_0.out)) (Kd.H_grown (Kd.H_widen (by repeat (first | exact HH88.out | refine Kd.H_alloc ?_ _ | refine Kd.H_drewN ?_ _ | refine Kd.H_drew ?_))) hg (fun k_ e_ => .inl (UU88.out.1 k_ e_))) ho
                     clear HL365_0 UU88 HO_6 HH88 HK HB HI0 BK341 BK325
                     obtain ⟨BK325, BK341, HI0, HB, HK, HH88, HO368⟩ := z_
                     clear ho hb hg hat
                     have p86 : 0 ≤ (x20_1 : Int) := od_ as_
                     have q86 : (x20_1 : Int) < ((x6_3.length : Int) : Int) := od_ as_
                     replace p86 := eq_true p86
                     replace q86 := eq_true q86
                     obtain ⟨Ao92, co92, eo92⟩ := Kd.R_slice HO368.out
                     (first | subst eo92 | (injection eo92 with f1_ f2_ f3_; have f4_ := f1_.symm; have f5_ := f3_.symm; clear f1_ f2_ f3_; subst f4_; subst f5_))
                     obtain ⟨_, _, hraw90, _, _, hcc90, _⟩ := Kd.H_raw HH88.out (od_ as_) (by have h_ : (x20_1 : Int) < ((x6_3.length : Int) : Int) := od_ as_; first | exact h_ | (have e_ := (HN88.out); omega) | simpa using h_)
                     obtain ⟨_, hfr90⟩ := Kd.H_at HH88.out (od_ as_) (by have h_ : (x20_1 : Int) < ((x6_3.length : Int) : Int) := od_ as_; first | exact h_ | (have e_ := (HN88.out); omega) | simpa using h_)
                     have hx90_0 := hcc90 0 _ rfl
                     have hf90_0 := hfr90 0
                     (try simp only [Nat.add_zero] at hx90_0 hf90_0)
                     (try rw [show ((Kd.slice 30 k30)).sz = 1 from rfl, Nat.mul_one] at hx90_0)
                     (try rw [show ((Kd.slice 30 k30)).sz = 1 from rfl, Nat.mul_one] at hf90_0)
                     have HP90 := Kd.S_seg0 HH88.out (od_ as_) (by have h_ : (x20_1 : Int) < ((x6_3.length : Int) : Int) := od_ as_; first | exact h_ | (have e_ := (HN88.out); omega) | simpa using h_) (seg := [.slice Ao92 y366.length co92]) (j := 0) (show 1 ≤ 1 from by decide) (x' := y366) (Kd.M_row HO368.out) (fun _ hk => hk)
                     (try simp only [show ((Kd.slice 30 k30)).sz = 1 from rfl, Nat.mul_one, Nat.add_zero] at HP90)
                     clear hcc90 hfr90
                     have HN0_go88 := M_ (show g ≠ go88 from by have h_ := IsS99.own_ne HI0.out hraw90 (by decide); intro e_; exact h_ (by rw [e_]; rfl))
                     have HNB325_go88 := M_ (show gb325 ≠ go88 from by have h_ := Kd.R_ne hraw90 BK325.out (by decide); intro e_; exact h_ (by rw [e_]; rfl))
                     have HNB341_go88 := M_ (show gb341 ≠ go88 from by have h_ := Kd.R_ne hraw90 BK341.out (by decide); intro e_; exact h_ (by rw [e_]; rfl))
                     have HS90 := HP90.1
                     rw [← Ny369.out] at HS90
                     have HQ90 := M_ HS90
                     obtain ⟨_, hgg90⟩ := Kd.R_typed hraw90 go88 rfl
                     have GG90_ := M_ hgg90
                     clear HP90 HS90 hgg90
                     refine hK.out _ _ ⟨(blk_cell BK341.out 0).trans rfl, (blk_cell BK341.out 1).trans rfl, HS2_⟩ (fun hHeld => ?_)
                     clear hK K
                     refine norm_ (a' := ?_) ?_ ?_
                     rotate_left
                     ·show Act.put _ (some 80) _ = _
                      simp only [Act.put, lA_, lB_, lC_, i64_w, i32_w]
                      rfl
                     refine pu_ 9 (some 81) (mk_ 11 1023) HT_.out ?_
                     refine la_ 10 none (mk_ 11 2047) HT_.out fun K hK => ?_
                     refine skip_ (w1 := ?_) (by rfl) rfl ?_ ?_
                     rotate_left
                     ·go_simp
                      rfl
                     refine hK.out _ _ ?_
                     clear hK K
                     refine done_ (done_of HT_.out (by kernel_rfl)) ?_
                     try go_wp2
                     (try simp only [← hl6_3])
                     go_roundg kj37
                     case measure => have := HK1.out; have := HJ15.out; have := HK3.out; have := HJ22.out; have := HJ30.out; have := HJ37.out; omega
                     case rel => exact ⟨(y369), (wrap64 (x9_3 - 1)), (x1001_30), (x1002_30), (by first | rfl | (simp; done) | (simp [*]; done)), H', ⟨by have := HK1.out; have := HJ15.out; have := HK3.out; have := HJ22.out; have := HJ30.out; have := HJ37.out; omega⟩, ⟨by (try simp only [hl6_1]); (try simp only [hl6_3]); refine kS_ ?_; exact Kd.S_mono HQ90.out (fun _ hk => trivial)⟩, ⟨by (try simp only [hl6_1]); (try simp only [hl6_3]); refine bk_ ?_; refine blk_far ?_ HNB325_go88.out _; refine bk_ ?_; exact BK325.out⟩, ⟨iz3_ HI0.out HN0_go88.out NB0_325.out NB0_341.out⟩, ⟨ki3_ HK.out GB88.out GW325.out GW341.out⟩, ⟨bw4_ HB.out (Nat.le_trans HL.out GB88.out) (IsS99.ge HI0.out) GE325.out GE341.out⟩⟩
                    ·rw [if_neg c85] at H
                     exact absurd H (by simp)
                   ·rw [if_neg c84] at H
                    exact absurd H (by simp)
                  ·rw [if_neg c83] at H
                   exact absurd H (by simp)
          ·rw [if_neg c22] at H
           have c22b0 : decide (0 < x9_3) = false := decide_eq_false c22
           (try (have c22h0 := c22b0; simp only [hl6_1, hl6_3] at c22h0))
           clear c22
           have H' := M_ H
           clear H
           go_wp2
           (try simp only [← hl6_1, ← hl6_3])
           go_roundg k3
           case measure => have := HK1.out; have := HJ15.out; have := HK3.out; omega
           case rel => exact ⟨(x6_3), (wrap64 (x20_1 + 1)), (x1001_3), (x1002_3), (by first | rfl | (simp; done) | (simp [*]; done)), H', ⟨by have := HK1.out; have := HJ15.out; have := HK3.out; omega⟩, ⟨by (try simp only [hl6_1]); (try simp only [hl6_3]); refine kS_ ?_; exact HO_6.out⟩, ⟨by (try simp only [hl6_1]); (try simp only [hl6_3]); refine bk_ ?_; exact BK325.out⟩, ⟨iz1_ HI0.out NB0_325.out⟩, ⟨ki1_ HK.out GW325.out⟩, ⟨bw2_ HB.out (IsS99.ge HI0.out) GE325.out⟩⟩
     ·rw [if_neg c13] at H
      have c13b0 := decide_eq_false c13
      (try (have c13h0 := c13b0; simp only [hl6_1] at c13h0))
      clear c13
      simp only [Option.some.injEq, Prod.mk.injEq] at H
      obtain ⟨rfl, rfl, rfl⟩ := H
      go_wp2
      go_ret
      exact ⟨_, rb_, by refine kS_ ?_; exact HO_6.out, iz1_ HI0.out NB0_325.out, bw2_ HB.out (IsS99.ge HI0.out) GE325.out, ki1_ HK.out GW325.out⟩
  ·rw [if_neg c4] at H
   exact absurd H (by simp)
 ·rw [if_neg c3] at H
  exact absurd H (by simp)

end Go.Proofs.Ytilbngklgjjblaa.Q
