/- Contracts of Go functions over this translation. Conditions: those that each theorem names. -/
import Derived.Test.YtilbngklgjjblaaQ0
import Derived.Test.YtilbngklgjjblaaQ10
import Derived.Test.YtilbngklgjjblaaQ12
namespace Go.Proofs.Ytilbngklgjjblaa.Q
open Go.RowKit Go.Proofs.YtilbngklgjjblaaW.PrintWords Go.Proofs.YtilbngklgjjblaaW.PrintLast Go.Proofs.YtilbngklgjjblaaW.PrintMore
attribute [local go_sem] max2_int min2_int max_two min_two max_three min_three max_four min_four
set_option linter.unusedVariables false
set_option linter.unusedSimpArgs false

mutual
def spec_l2Font.l0 : Nat → List Int → Int → List Int → Int → Int → ByteArray → Option (ByteArray × List Int × List Int × Int × Int)
  | 0, _, _, _, _, _, _ => none
  | k + 1, x6, x7, x1000, x1001, x1002, x228000 => if x7 > 0 then ((spec_l01Below.f x1000 x1001 x1002 5).bind fun bt234 => (if 0 ≤ bt234.1 then ((spec_l01Below.f x1000 bt234.2.1 bt234.2.2 5).bind fun bt237 => (if 0 ≤ bt237.1 then ((spec_l01Below.f x1000 bt237.2.1 bt237.2.2 7).bind fun bt240 => (if 0 ≤ bt240.1 then ((some (([] : List Int) : List Int)).bind fun y243 => (if y243.length + x6.length < 17592186044416 then ((some (y243 ++ x6 : List Int)).bind fun y246 => (if y246.length < 17592186044416 then ((some (y246 ++ [Go.bits .or .i64 (Go.bits .or .i64 (shl .i64 1 bt234.1) (shl .i64 1 bt237.1)) (shl .i64 1 bt240.1)] : List Int)).bind fun y249 => ((spec_l1Sets.f k y249).bind fun t252 => (if t252 = true then (spec_l2Font.l0 k y249 (wrap64 (x7 - 1)) x1000 bt240.2.1 bt240.2.2 x228000) else (spec_l2Font.l0 k x6 (wrap64 (x7 - 1)) x1000 bt240.2.1 bt240.2.2 x228000)))) else (none))) else (none))) else (none))) else (none))) else (none))) else ((spec_OrderBar.f k x6).bind fun bt253 => (spec_l2Font.l1 k (bt253.1.length : Int) 0 x1000 x1001 x1002 x228000 ([] : List Int) bt253.1))
def spec_l2Font.l1 : Nat → Int → Int → List Int → Int → Int → ByteArray → List Int → List Int → Option (ByteArray × List Int × List Int × Int × Int)
  | 0, _, _, _, _, _, _, _, _ => none
  | k + 1, x49, x50, x1000, x1001, x1002, x228000, x228001, x228002 => if x50 < x49 then (if 0 ≤ x50 then (if x50 ≤ (wrap64 (x50 + 1)) then (if (wrap64 (x50 + 1)) ≤ 40 then (if x228000.size + ((⟨#[97, 101, 110, 111, 114, 116, 105, 46, 44, 104, 115, 100, 108, 117, 99, 109, 102, 119, 45, 103, 121, 112, 98, 118, 107, 113, 120, 106, 122, 33, 40, 41, 48, 49, 50, 51, 52, 53, 54, 55]⟩ : ByteArray).extract (x50 : Int).toNat ((wrap64 (x50 + 1)) : Int).toNat).size ≤ 9223372036854775807 then ((spec_l01Below.f x1000 x1001 x1002 20).bind fun bt257 => (if x228001.length < 17592186044416 then (spec_l2Font.l1 k x49 (wrap64 (x50 + 1)) x1000 bt257.2.1 bt257.2.2 (x228000 ++ ((⟨#[97, 101, 110, 111, 114, 116, 105, 46, 44, 104, 115, 100, 108, 117, 99, 109, 102, 119, 45, 103, 121, 112, 98, 118, 107, 113, 120, 106, 122, 33, 40, 41, 48, 49, 50, 51, 52, 53, 54, 55]⟩ : ByteArray).extract (x50 : Int).toNat ((wrap64 (x50 + 1)) : Int).toNat)) (x228001 ++ [wrap64 (1 + bt257.1)]) x228002) else (none))) else (none)) else (none)) else (none)) else (none)) else (some (x228000, x228001, x228002, x1001, x1002))
end
def spec_l2Font.f (k : Nat) (s0_0 : List Int) (s0_1 : Int) (s0_2 : Int) (a1 : Int) : Option (ByteArray × List Int × List Int × Int × Int) := (spec_l01Below.f s0_0 s0_1 s0_2 a1).bind fun bt231 => (spec_l2Font.l0 k (([] : List Int)) (wrap64 (1 + bt231.1)) s0_0 bt231.2.1 bt231.2.2 (⟨#[]⟩ : ByteArray))
theorem spec_l2Font.mono_l : ∀ k, (∀ y0 y1 y2 y3 y4 y5, LeO (spec_l2Font.l0 k y0 y1 y2 y3 y4 y5) (spec_l2Font.l0 (k + 1) y0 y1 y2 y3 y4 y5)) ∧ (∀ y0 y1 y2 y3 y4 y5 y6 y7, LeO (spec_l2Font.l1 k y0 y1 y2 y3 y4 y5 y6 y7) (spec_l2Font.l1 (k + 1) y0 y1 y2 y3 y4 y5 y6 y7))
  | 0 => ⟨fun _ _ _ _ _ _ r h => by simp [spec_l2Font.l0] at h, fun _ _ _ _ _ _ _ _ r h => by simp [spec_l2Font.l1] at h⟩
  | k + 1 => by
    obtain ⟨ih0, ih1⟩ := spec_l2Font.mono_l k
    refine ⟨?_, ?_⟩ <;> intros <;> (first | unfold spec_l2Font.l0 | unfold spec_l2Font.l1) <;> repeat' first | (with_reducible first | exact ih0 _ _ _ _ _ _ | exact ih1 _ _ _ _ _ _ _ _ | exact spec_OrderBar.mono _ _ | exact spec_l1Sets.mono _ _ | exact LeO.refl _ | exact LeO.none _ | refine LeO.ite ?_ ?_ | refine LeO.bind ?_ (fun _ => ?_)) | exact ih0 _ _ _ _ _ _ | exact ih1 _ _ _ _ _ _ _ _ | exact spec_OrderBar.mono _ _ | exact spec_l1Sets.mono _ _ | exact LeO.none _ | refine LeO.ite ?_ ?_ | refine LeO.bind ?_ (fun _ => ?_)
theorem spec_l2Font.mono : ∀ a0 a1 a2 a3 k, LeO (spec_l2Font.f k a0 a1 a2 a3) (spec_l2Font.f (k + 1) a0 a1 a2 a3) := by
 intro a0 a1 a2 a3 k
 obtain ⟨ih0, ih1⟩ := spec_l2Font.mono_l k
 unfold spec_l2Font.f
 repeat' first | (with_reducible first | exact ih0 _ _ _ _ _ _ | exact ih1 _ _ _ _ _ _ _ _ | exact spec_OrderBar.mono _ _ | exact spec_l1Sets.mono _ _ | exact LeO.refl _ | exact LeO.none _ | refine LeO.ite ?_ ?_ | refine LeO.bind ?_ (fun _ => ?_)) | exact ih0 _ _ _ _ _ _ | exact ih1 _ _ _ _ _ _ _ _ | exact spec_OrderBar.mono _ _ | exact spec_l1Sets.mono _ _ | exact LeO.none _ | refine LeO.ite ?_ ?_ | refine LeO.bind ?_ (fun _ => ?_)
def spec_l2Font.T6 : Bool × List (List Nat × List Nat) := (true, [([], []), ([0], [0]), ([1], [1]), ([], []), ([3, 1], [3]), ([4], [4]), ([2, 5], [2, 5]), ([], []), ([7, 4], [7]), ([8], [8]), ([6, 9], [6, 9]), ([10, 8, 0, 1, 2, 3, 4, 5, 6, 7, 8, 9, 10], [10])])
def spec_l2Font.B6 : List Nat := [0, 1, 3, 0, 11, 27, 63, 0, 155, 411, 1023, 2047]
theorem spec_l2Font.tab6 : rtab .any (opsOf Try.f113 6) = spec_l2Font.T6 := by kernel_rfl
theorem spec_l2Font.bits6 : waitsOk spec_l2Font.T6.2 spec_l2Font.B6 = true := by kernel_rfl
def spec_l2Font.T14 : Bool × List (List Nat × List Nat) := (true, [([], []), ([0], [0]), ([], []), ([], []), ([3], [3]), ([2, 4], [2, 4]), ([1, 5], [1, 5]), ([0, 1, 2, 3, 4, 5, 6], []), ([7, 6, 0, 1, 2, 3, 4, 5, 6], [6, 7])])
def spec_l2Font.B14 : List Nat := [0, 1, 0, 0, 8, 28, 63, 127, 255]
theorem spec_l2Font.tab14 : rtab .any (opsOf Try.f113 14) = spec_l2Font.T14 := by kernel_rfl
theorem spec_l2Font.bits14 : waitsOk spec_l2Font.T14.2 spec_l2Font.B14 = true := by kernel_rfl
def spec_l2Font.T15 : Bool × List (List Nat × List Nat) := (true, [([], []), ([0], [0]), ([], []), ([2], [2]), ([3], [3]), ([4], [4]), ([1, 5, 3], [1, 5]), ([0, 1, 2, 3, 4, 5, 6], []), ([7, 6, 6, 0, 1, 2, 3, 4, 5, 6], [6, 7])])
def spec_l2Font.B15 : List Nat := [0, 1, 0, 4, 12, 28, 63, 127, 255]
theorem spec_l2Font.tab15 : rtab .any (opsOf Try.f113 15) = spec_l2Font.T15 := by kernel_rfl
theorem spec_l2Font.bits15 : waitsOk spec_l2Font.T15.2 spec_l2Font.B15 = true := by kernel_rfl
set_option maxHeartbeats 8000000 in
set_option maxRecDepth 100000 in
theorem spec_l2Font.calls (k : Nat) (g : Nat) (s0_0 : List Int) (s0_1 : Int) (s0_2 : Int) (a1 : Int) (r1 : ByteArray) (r2 : List Int) (r3 : List Int) (r4 : Int) (r5 : Int) (w0 w : World) (hI : IsS99 w0 w g s0_0 s0_1 s0_2) (hB : Below w0.heap.size w0 w) (h : spec_l2Font.f k s0_0 s0_1 s0_2 a1 = some (r1, r2, r3, r4, r5)) :
    Calls Try.prog 113 #[.pointer (some ⟨g, 0, none⟩), .int .i64 a1] w fun e w' => ∃ v1_ v2_ : Value, e = .returned (.agg #[.string r1, v1_, v2_]) ∧ Kd.R (Kd.int .i64) 3 w' w.heap.size (fun k_ => some k_ ≠ (v2_ : Value).ownBlock) v1_ r2 ∧ Kd.R (Kd.int .i64) 3 w' w.heap.size (fun k_ => some k_ ≠ (v1_ : Value).ownBlock) v2_ r3 ∧ IsS99 w0 w' g s0_0 r4 r5 ∧ Below w0.heap.size w0 w' ∧ KeepBut w w' g none := by
 have hu25 := Try.underlying25
 have HI0 := M_ hI
 have HK := M_ (KeepBut.refl w g none)
 have HL := M_ hB.size
 clear hI
 have HW0 := M_ hB.size
 have HB := M_ hB
 clear hB
 have H : ((spec_l01Below.f s0_0 s0_1 s0_2 a1).bind fun bt231 => (spec_l2Font.l0 k (([] : List Int)) (wrap64 (1 + bt231.1)) s0_0 bt231.2.1 bt231.2.2 (⟨#[]⟩ : ByteArray))) = some (r1, r2, r3, r4, r5) := h
 clear h
 obtain ⟨y228, hy228⟩ : ∃ y_ : List Int, y_ = (([] : List Int)) := ⟨_, rfl⟩
 replace H : ((spec_l01Below.f s0_0 s0_1 s0_2 a1).bind fun bt231 => (spec_l2Font.l0 k y228 (wrap64 (1 + bt231.1)) s0_0 bt231.2.1 bt231.2.2 (⟨#[]⟩ : ByteArray))) = some (r1, r2, r3, r4, r5) := by first | (rw [hy228]; with_reducible exact H) | (have H2_ := (Option.bind_some _ _).symm.trans H; rw [hy228]; with_reducible exact H2_) | (have H2_ := (Option.bind_some _ _).symm.trans H; with_reducible exact H2_) | with_reducible exact H | (rw [hy228]; exact H) | exact H
 have Ny228 := M_ hy228
 clear hy228
 replace H := bs_ H
 obtain ⟨⟨t231, t232, t233⟩, A30, H⟩ := H
 dsimp only at H
 have A3 := M_ A30
 clear A30
 have H' := M_ H
 clear H
 go_enter Try.func113, Try.ntmps113
 go_wp2_with (first | ((with_reducible refine gate_dst (N := 4) rfl ?_); refine be_ 4 #[.string (⟨#[]⟩ : ByteArray), .slice none 0 0, .slice none 0 0] 25 ?_; intro gb226 hg w4 hbox hb; have z_ := t6_ (IsS99.below (iz0_ HI0.out) hb) (kT_ (ki0_ HK.out) (kO_ hb g none) (.inl rfl)) (bS_ (bw1_ HB.out (IsS99.ge HI0.out)) hb) hbox (gw_ g hg (ki0_ HK.out) : w.heap.size ≤ gb226) (by rw [hg]; exact Nat.ne_of_lt (IsS99.lt (show IsS99 w0 _ g s0_0 s0_1 s0_2 from iz0_ HI0.out)) : g ≠ gb226); clear HB HK HI0; obtain ⟨HI0, HK, HB, BK226, GW226, NB0_226⟩ := z_; have GE226 := M_ (Nat.le_trans HW0.out GW226.out); have NB226_0 := M_ NB0_226.out.symm; clear hb hbox hg) | ((with_reducible refine gate_dst (N := 5) rfl ?_); refine be_ 5 #[.string (⟨#[]⟩ : ByteArray), .slice none 0 0, .slice none 0 0] 25 ?_; intro gb227 hg w5 hbox hb; have z_ := t8_ (IsS99.below (iz1_ HI0.out NB0_226.out) hb) (bB_ (bk_ BK226.out) hb) (kT_ (ki1_ HK.out GW226.out) (kO_ hb g none) (.inl rfl)) (bS_ (bw2_ HB.out (IsS99.ge HI0.out) GE226.out) hb) hbox (gw_ g hg (ki1_ HK.out GW226.out) : w.heap.size ≤ gb227) (by rw [hg]; exact Nat.ne_of_lt (blk_lt (bk_ BK226.out)) : gb226 ≠ gb227) (by rw [hg]; exact Nat.ne_of_lt (IsS99.lt (show IsS99 w0 _ g s0_0 s0_1 s0_2 from iz1_ HI0.out NB0_226.out)) : g ≠ gb227); clear HB HK BK226 HI0; obtain ⟨HI0, BK226, HK, HB, BK227, GW227, NB226_227, NB0_227⟩ := z_; have GE227 := M_ (Nat.le_trans HW0.out GW227.out); have NB227_226 := M_ NB226_227.out.symm; have NB227_0 := M_ NB0_227.out.symm; clear hb hbox hg; have hnb6 := NB227_226.out; have hnc6 := NB226_227.out; have hnb7 := NB227_0.out; have hnc7 := NB0_227.out; have hcz8_0 := cz_ BK227.out 0 (.string (⟨#[]⟩ : ByteArray)); have hcz8_1 := cz_ BK227.out 1 (.slice none 0 0); have hcz8_2 := cz_ BK227.out 2 (.slice none 0 0); have hfz8_0 := fz_ BK227.out 0; have hfz8_1 := fz_ BK227.out 1; have hfz8_2 := fz_ BK227.out 2) | ((with_reducible refine gate_dst (N := 12) rfl ?_); refine Kd.R_lit (Kd.int .i64) _ 3 ?hg (N := 12) ?hd (xs := ([] : List Int)) (inner := []) (ok := fun _ => True) (okp := fun _ => True) ?hr ?hp (fun _ hk => hk) trivial (Below.refl _ _) (Nat.le_refl _) (by simp) ?_; (case hd => rfl); (case hg => rfl); (case hr => first | (go_simp; done) | (go_simp; rfl)); (case hp => exact (Reps.none _ _)); intro v229 w9 ho10 hb hg_ hnew_; clear hg_ hnew_; (first | rw [← Ny228.out] at ho10 | (simp only [Int.reduceToNat] at ho10; rw [← Ny228.out] at ho10)); have z_ := t6_ (Kd.R_lower ho10 (keep_size (w := w) (g := g) (row := none) (ki2_ HK.out GW226.out GW227.out))) (IsS99.below (show IsS99 w0 (((w5.setCell ⟨gb227, 0, none⟩ (.string (⟨#[]⟩ : ByteArray))).setCell ⟨gb227, 1, none⟩ (.slice none 0 0)).setCell ⟨gb227, 2, none⟩ (.slice none 0 0)) g s0_0 s0_1 s0_2 from iz2_ HI0.out NB0_226.out NB0_227.out) hb) (bB_ (g := gb226) (o := .cells #[.string (⟨#[]⟩ : ByteArray), .slice none 0 0, .slice none 0 0] 25 (0, 0)) (by refine bk_ ?_; refine blk_far ?_ NB226_227.out _; refine bk_ ?_; refine blk_far ?_ NB226_227.out _; refine bk_ ?_; refine blk_far ?_ NB226_227.out _; refine bk_ ?_; exact BK226.out) hb) (bB_ (g := gb227) (o := .cells #[.string (⟨#[]⟩ : ByteArray), .slice none 0 0, .slice none 0 0] 25 (0, 0)) (by refine bk_ ?_; refine blk_put (cs := #[.string (⟨#[]⟩ : ByteArray), .slice none 0 0, .slice none 0 0]) ?_ 2 _ rfl; refine bk_ ?_; refine blk_put (cs := #[.string (⟨#[]⟩ : ByteArray), .slice none 0 0, .slice none 0 0]) ?_ 1 _ rfl; refine bk_ ?_; refine blk_put (cs := #[.string (⟨#[]⟩ : ByteArray), .slice none 0 0, .slice none 0 0]) ?_ 0 _ rfl; refine bk_ ?_; exact BK227.out) hb) (kT_ (ki2_ HK.out GW226.out GW227.out) (kO_ hb g none) (.inl rfl)) (bS_ (bw3_ HB.out (IsS99.ge HI0.out) GE226.out GE227.out) hb); clear HB HK BK227 BK226 HI0; obtain ⟨HO230, HI0, BK226, BK227, HK, HB⟩ := z_; clear hb ho10) | ((with_reducible refine gate_callee (f := 73) rfl ?_); refine gl_ (some 15) Try.func73 #[.pointer (some ⟨g, 0, none⟩), .int .i64 a1] ?_; (with_reducible refine (spec_l01Below.calls g s0_0 s0_1 s0_2 a1 t231 t232 t233 w0 _ ?side1 ?side2 A3.out).mono ?_); (case side1 => exact iz2_ HI0.out NB0_226.out NB0_227.out); (case side2 => exact bw3_ HB.out (IsS99.ge HI0.out) GE226.out GE227.out); rintro e w11 ⟨rfl, hi, hb, hk⟩; refine ⟨_, rfl, ?_⟩; have z_ := t6_ (KeepBut.blk hk (bk_ BK226.out) NB226_0.out (by simp)) (KeepBut.blk hk (bk_ BK227.out) NB227_0.out (by simp)) (Kd.R_mono (Kd.R_keep (IsS99.apart (show IsS99 w0 _ g s0_0 s0_1 s0_2 from iz2_ HI0.out NB0_226.out NB0_227.out) (kR_ HO230.out) (by decide)) hk (fun _ h => h.2)) (fun _ h => h.1)) (kT_ (ki2_ HK.out GW226.out GW227.out) hk (.inl rfl)) hb hi; clear HI0 HB HK HO230 BK227 BK226; obtain ⟨BK226, BK227, HO230, HK, HB, HI0⟩ := z_; (try clear hi hk hb)))
 go_loopg [6, 7] k (fun kq v6 v7 w' => ∃ (x6_1 : List Int) (x7_1 : Int) (x1001_1 : Int) (x1002_1 : Int), v7 = .int .i64 x7_1 ∧ Aside0 (spec_l2Font.l0 kq x6_1 x7_1 s0_0 x1001_1 x1002_1 (⟨#[]⟩ : ByteArray) = some (r1, r2, r3, r4, r5)) ∧ Aside0 (kq ≤ k) ∧ Aside0 (Kd.R (Kd.int .i64) 3 w' w.heap.size (fun _ => True) v6 x6_1) ∧ Aside0 (w'.heap[gb226]? = some (.cells #[.string (⟨#[]⟩ : ByteArray), (.slice none 0 0), (.slice none 0 0)] 25 (0, 0))) ∧ Aside0 (w'.heap[gb227]? = some (.cells #[.string (⟨#[]⟩ : ByteArray), (.slice none 0 0), (.slice none 0 0)] 25 (0, 0))) ∧ Aside0 (IsS99 w0 w' g s0_0 x1001_1 x1002_1) ∧ Aside0 (KeepBut w w' g none) ∧ Aside0 (Below w0.heap.size w0 w'))
 case atStart => exact ⟨(y228), (wrap64 (1 + t231)), (t232), (t233), (by first | rfl | (simp; done) | (simp [*]; done)), H', ⟨Nat.le_refl _⟩, ⟨by refine kR_ ?_; exact HO230.out⟩, ⟨by refine bk_ ?_; exact BK226.out⟩, ⟨by refine bk_ ?_; exact BK227.out⟩, ⟨iz2_ HI0.out NB0_226.out NB0_227.out⟩, ⟨ki2_ HK.out GW226.out GW227.out⟩, ⟨bw3_ HB.out (IsS99.ge HI0.out) GE226.out GE227.out⟩⟩
 case round =>
  clear H'
  (try clear hfz8_2 hfz8_1 hfz8_0 hcz8_2 hcz8_1 hcz8_0 c11 c7 p6 c6 p2 c1)
  obtain ⟨x6_1, x7_1, x1001_1, x1002_1, rfl, HA, HK1, HO_6, BK226, BK227, HI0, HK, HB⟩ := hrel
  cases gk with
  | zero => exact absurd HA.out (by simp [spec_l2Font.l0])
  | succ k1 =>
   have H := HA.out
   clear HA
   simp only [spec_l2Font.l0] at H
   by_cases c12 : x7_1 > 0
   ·rw [if_pos c12] at H
    have c12b0 : decide (0 < x7_1) = true := dt_ c12
    clear c12
    replace H := bs_ H
    obtain ⟨⟨t234, t235, t236⟩, A130, H⟩ := H
    dsimp only at H
    have A13 := M_ A130
    clear A130
    by_cases c14 : 0 ≤ t234
    ·rw [if_pos c14] at H
     have c14b0 := eq_true c14
     have c14b1 := dt_ c14
     clear c14
     obtain ⟨ji15, hji15⟩ : ∃ j_ : Int, (shl .i64 1 t234) = j_ := ⟨_, rfl⟩
     replace H : ((spec_l01Below.f s0_0 t235 t236 5).bind fun bt237 => (if 0 ≤ bt237.1 then ((spec_l01Below.f s0_0 bt237.2.1 bt237.2.2 7).bind fun bt240 => (if 0 ≤ bt240.1 then ((some (([] : List Int) : List Int)).bind fun y243 => (if y243.length + x6_1.length < 17592186044416 then ((some (y243 ++ x6_1 : List Int)).bind fun y246 => (if y246.length < 17592186044416 then ((some (y246 ++ [Go.bits .or .i64 (Go.bits .or .i64 (ji15) (shl .i64 1 bt237.1)) (shl .i64 1 bt240.1)] : List Int)).bind fun y249 => ((spec_l1Sets.f k1 y249).bind fun t252 => (if t252 = true then (spec_l2Font.l0 k1 y249 (wrap64 (x7_1 - 1)) s0_0 bt240.2.1 bt240.2.2 (⟨#[]⟩ : ByteArray)) else (spec_l2Font.l0 k1 x6_1 (wrap64 (x7_1 - 1)) s0_0 bt240.2.1 bt240.2.2 (⟨#[]⟩ : ByteArray))))) else (none))) else (none))) else (none))) else (none))) = some (r1, r2, r3, r4, r5) := by first | (rw [hji15] at H; exact H) | (simp only [hji15] at H ⊢; exact H)
     (try rw [hji15] at A13)
     have hji15_ : (IntKind.i64.wrap (1 * 2 ^ min t234.toNat 64)) = ji15 := hji15
     have hji15z : t234 ≤ 64 → (IntKind.i64.wrap (1 * 2 ^ t234.toNat)) = ji15 := shl_small hji15
     have hji15u : (IntKind.i64.wrap (2 ^ min t234.toNat 64)) = ji15 := by have h_ := hji15_; rw [Int.one_mul] at h_; exact h_
     have hji15v : t234 ≤ 64 → (IntKind.i64.wrap (2 ^ t234.toNat)) = ji15 := fun hle_ => by have h_ := hji15z hle_; rw [Int.one_mul] at h_; exact h_
     have hji15y : (wrap64 (1 * 2 ^ min t234.toNat 64)) = ji15 := (i64_w _).symm.trans hji15_
     have hji15x : t234 ≤ 64 → (wrap64 (1 * 2 ^ t234.toNat)) = ji15 := fun h_ => (i64_w _).symm.trans (hji15z h_)
     replace H := bs_ H
     obtain ⟨⟨t237, t238, t239⟩, A160, H⟩ := H
     dsimp only at H
     have A16 := M_ A160
     clear A160
     by_cases c17 : 0 ≤ t237
     ·rw [if_pos c17] at H
      have c17b0 := eq_true c17
      have c17b1 := dt_ c17
      clear c17
      obtain ⟨ji18, hji18⟩ : ∃ j_ : Int, (shl .i64 1 t237) = j_ := ⟨_, rfl⟩
      replace H : ((spec_l01Below.f s0_0 t238 t239 7).bind fun bt240 => (if 0 ≤ bt240.1 then ((some (([] : List Int) : List Int)).bind fun y243 => (if y243.length + x6_1.length < 17592186044416 then ((some (y243 ++ x6_1 : List Int)).bind fun y246 => (if y246.length < 17592186044416 then ((some (y246 ++ [Go.bits .or .i64 (Go.bits .or .i64 (ji15) (ji18)) (shl .i64 1 bt240.1)] : List Int)).bind fun y249 => ((spec_l1Sets.f k1 y249).bind fun t252 => (if t252 = true then (spec_l2Font.l0 k1 y249 (wrap64 (x7_1 - 1)) s0_0 bt240.2.1 bt240.2.2 (⟨#[]⟩ : ByteArray)) else (spec_l2Font.l0 k1 x6_1 (wrap64 (x7_1 - 1)) s0_0 bt240.2.1 bt240.2.2 (⟨#[]⟩ : ByteArray))))) else (none))) else (none))) else (none))) = some (r1, r2, r3, r4, r5) := by first | (rw [hji18] at H; exact H) | (simp only [hji18] at H ⊢; exact H)
      (try rw [hji18] at A13)
      (try rw [hji18] at A16)
      have hji18_ : (IntKind.i64.wrap (1 * 2 ^ min t237.toNat 64)) = ji18 := hji18
      have hji18z : t237 ≤ 64 → (IntKind.i64.wrap (1 * 2 ^ t237.toNat)) = ji18 := shl_small hji18
      have hji18u : (IntKind.i64.wrap (2 ^ min t237.toNat 64)) = ji18 := by have h_ := hji18_; rw [Int.one_mul] at h_; exact h_
      have hji18v : t237 ≤ 64 → (IntKind.i64.wrap (2 ^ t237.toNat)) = ji18 := fun hle_ => by have h_ := hji18z hle_; rw [Int.one_mul] at h_; exact h_
      have hji18y : (wrap64 (1 * 2 ^ min t237.toNat 64)) = ji18 := (i64_w _).symm.trans hji18_
      have hji18x : t237 ≤ 64 → (wrap64 (1 * 2 ^ t237.toNat)) = ji18 := fun h_ => (i64_w _).symm.trans (hji18z h_)
      replace H := bs_ H
      obtain ⟨⟨t240, t241, t242⟩, A190, H⟩ := H
      dsimp only at H
      have A19 := M_ A190
      clear A190
      by_cases c20 : 0 ≤ t240
      ·rw [if_pos c20] at H
       have c20b0 := eq_true c20
       have c20b1 := dt_ c20
       clear c20
       obtain ⟨ji21, hji21⟩ : ∃ j_ : Int, (shl .i64 1 t240) = j_ := ⟨_, rfl⟩
       replace H : ((some (([] : List Int) : List Int)).bind fun y243 => (if y243.length + x6_1.length < 17592186044416 then ((some (y243 ++ x6_1 : List Int)).bind fun y246 => (if y246.length < 17592186044416 then ((some (y246 ++ [Go.bits .or .i64 (Go.bits .or .i64 (ji15) (ji18)) (ji21)] : List Int)).bind fun y249 => ((spec_l1Sets.f k1 y249).bind fun t252 => (if t252 = true then (spec_l2Font.l0 k1 y249 (wrap64 (x7_1 - 1)) s0_0 t241 t242 (⟨#[]⟩ : ByteArray)) else (spec_l2Font.l0 k1 x6_1 (wrap64 (x7_1 - 1)) s0_0 t241 t242 (⟨#[]⟩ : ByteArray))))) else (none))) else (none))) = some (r1, r2, r3, r4, r5) := by first | (rw [hji21] at H; exact H) | (simp only [hji21] at H ⊢; exact H)
       (try rw [hji21] at A13)
       (try rw [hji21] at A16)
       (try rw [hji21] at A19)
       have hji21_ : (IntKind.i64.wrap (1 * 2 ^ min t240.toNat 64)) = ji21 := hji21
       have hji21z : t240 ≤ 64 → (IntKind.i64.wrap (1 * 2 ^ t240.toNat)) = ji21 := shl_small hji21
       have hji21u : (IntKind.i64.wrap (2 ^ min t240.toNat 64)) = ji21 := by have h_ := hji21_; rw [Int.one_mul] at h_; exact h_
       have hji21v : t240 ≤ 64 → (IntKind.i64.wrap (2 ^ t240.toNat)) = ji21 := fun hle_ => by have h_ := hji21z hle_; rw [Int.one_mul] at h_; exact h_
       have hji21y : (wrap64 (1 * 2 ^ min t240.toNat 64)) = ji21 := (i64_w _).symm.trans hji21_
       have hji21x : t240 ≤ 64 → (wrap64 (1 * 2 ^ t240.toNat)) = ji21 := fun h_ => (i64_w _).symm.trans (hji21z h_)
       obtain ⟨y243, hy243⟩ : ∃ y_ : List Int, y_ = (([] : List Int)) := ⟨_, rfl⟩
       replace H : (if y243.length + x6_1.length < 17592186044416 then ((some (y243 ++ x6_1 : List Int)).bind fun y246 => (if y246.length < 17592186044416 then ((some (y246 ++ [Go.bits .or .i64 (Go.bits .or .i64 (ji15) (ji18)) (ji21)] : List Int)).bind fun y249 => ((spec_l1Sets.f k1 y249).bind fun t252 => (if t252 = true then (spec_l2Font.l0 k1 y249 (wrap64 (x7_1 - 1)) s0_0 t241 t242 (⟨#[]⟩ : ByteArray)) else (spec_l2Font.l0 k1 x6_1 (wrap64 (x7_1 - 1)) s0_0 t241 t242 (⟨#[]⟩ : ByteArray))))) else (none))) else (none)) = some (r1, r2, r3, r4, r5) := by first | (rw [hy243]; with_reducible exact H) | (have H2_ := (Option.bind_some _ _).symm.trans H; rw [hy243]; with_reducible exact H2_) | (have H2_ := (Option.bind_some _ _).symm.trans H; with_reducible exact H2_) | with_reducible exact H | (rw [hy243]; exact H) | exact H
       have Ny243 := M_ hy243
       clear hy243
       by_cases c22 : y243.length + x6_1.length < 17592186044416
       ·rw [if_pos c22] at H
        have LMc22 := M_ c22
        clear c22
        obtain ⟨y246, hy246⟩ : ∃ y_ : List Int, y_ = (y243 ++ x6_1) := ⟨_, rfl⟩
        replace H : (if y246.length < 17592186044416 then ((some (y246 ++ [Go.bits .or .i64 (Go.bits .or .i64 (ji15) (ji18)) (ji21)] : List Int)).bind fun y249 => ((spec_l1Sets.f k1 y249).bind fun t252 => (if t252 = true then (spec_l2Font.l0 k1 y249 (wrap64 (x7_1 - 1)) s0_0 t241 t242 (⟨#[]⟩ : ByteArray)) else (spec_l2Font.l0 k1 x6_1 (wrap64 (x7_1 - 1)) s0_0 t241 t242 (⟨#[]⟩ : ByteArray))))) else (none)) = some (r1, r2, r3, r4, r5) := by first | (rw [hy246]; with_reducible exact H) | (have H2_ := (Option.bind_some _ _).symm.trans H; rw [hy246]; with_reducible exact H2_) | (have H2_ := (Option.bind_some _ _).symm.trans H; with_reducible exact H2_) | with_reducible exact H | (rw [hy246]; exact H) | exact H
        have Ny246 := M_ hy246
        clear hy246
        by_cases c23 : y246.length < 17592186044416
        ·rw [if_pos c23] at H
         have LMc23 := M_ c23
         clear c23
         obtain ⟨y249, hy249⟩ : ∃ y_ : List Int, y_ = (y246 ++ [Go.bits .or .i64 (Go.bits .or .i64 (ji15) (ji18)) (ji21)]) := ⟨_, rfl⟩
         replace H : ((spec_l1Sets.f k1 y249).bind fun t252 => (if t252 = true then (spec_l2Font.l0 k1 y249 (wrap64 (x7_1 - 1)) s0_0 t241 t242 (⟨#[]⟩ : ByteArray)) else (spec_l2Font.l0 k1 x6_1 (wrap64 (x7_1 - 1)) s0_0 t241 t242 (⟨#[]⟩ : ByteArray)))) = some (r1, r2, r3, r4, r5) := by first | (rw [hy249]; with_reducible exact H) | (have H2_ := (Option.bind_some _ _).symm.trans H; rw [hy249]; with_reducible exact H2_) | (have H2_ := (Option.bind_some _ _).symm.trans H; with_reducible exact H2_) | with_reducible exact H | (rw [hy249]; exact H) | exact H
         have Ny249 := M_ hy249
         clear hy249
         replace H := bs_ H
         obtain ⟨t252, A240, H⟩ := H
         (try dsimp only at H)
         have A24 := M_ A240
         clear A240
         by_cases c25 : t252 = true
         ·subst c25
          rw [if_pos rfl] at H
          have H' := M_ H
          clear H
          try go_wp2
          have z_ := t6_ (Kd.R_drew HO_6.out) (blk_drew BK226.out) (blk_drew BK227.out) (IsS99.drew HI0.out) (keep_drew HK.out) (below_drew1 HB.out)
          (try clear HO_6)
          clear HB HK HI0 BK227 BK226
          obtain ⟨HO_6, BK226, BK227, HI0, HK, HB⟩ := z_
          refine start_ (n := 12) (S := fun w' => True) (ds := []) (mk_ 12 0) (by kernel_rfl) rfl rfl trivial (fun hHeld => ?_); refine with_tabW spec_l2Font.tab6 spec_l2Font.bits6 (fun HT_ HW_ => ?_)
          generalize wr.drew = w26 at HO_6 BK226 BK227 HI0 HK HB hHeld ⊢
          refine pu_ 0 (some 21) (mk_ 12 1) HT_.out ?_
          refine pu_ 3 (some 24) (mk_ 12 9) HT_.out ?_
          refine pu_ 7 (some 28) (mk_ 12 137) HT_.out ?_
          refine on_ 1 (some 22) (mk_ 12 139) HT_.out fun K hK => ?_
          refine goes_ Try.func73 (by kernel_rfl) rfl #[.pointer (some ⟨g, 0, none⟩), .int .i64 5] (by rfl) rfl rfl ar_ ?_
          with_reducible refine (spec_l01Below.calls g s0_0 x1001_1 x1002_1 5 t234 t235 t236 w0 _ ?side1 ?side2 A13.out).mono ?_
          (case side1 => exact iz2_ HI0.out NB0_226.out NB0_227.out)
          (case side2 => exact bw3_ HB.out (IsS99.ge HI0.out) GE226.out GE227.out)
          rintro e w27 ⟨rfl, hi, hb, hk⟩
          refine ⟨_, rfl, ?_⟩
          have z_ := t6_ (Kd.R_mono (Kd.R_keep (IsS99.apart (show IsS99 w0 _ g s0_0 x1001_1 x1002_1 from iz2_ HI0.out NB0_226.out NB0_227.out) (kR_ HO_6.out) (by decide)) hk (fun _ h => h.2)) (fun _ h => h.1)) (KeepBut.blk hk (bk_ BK226.out) NB226_0.out (by simp)) (KeepBut.blk hk (bk_ BK227.out) NB227_0.out (by simp)) (kT_ (ki2_ HK.out GW226.out GW227.out) hk (.inl rfl)) hb hi
          (try clear HO_6)
          clear HI0 HB HK BK227 BK226
          obtain ⟨HO_6, BK226, BK227, HK, HB, HI0⟩ := z_
          (try clear hi hk hb)
          refine hK.out _ _ trivial (fun hHeld => ?_)
          clear hK K
          refine norm_ (a' := ?_) ?_ ?_
          rotate_left
          ·show Act.put _ (some 22) _ = _
           simp only [Act.put, lA_, lB_, lC_, i64_w, i32_w]
           rfl
          refine pu_ 2 (some 23) (mk_ 12 143) HT_.out ?_
          refine on_ 4 (some 25) (mk_ 12 159) HT_.out fun K hK => ?_
          refine goes_ Try.func73 (by kernel_rfl) rfl #[.pointer (some ⟨g, 0, none⟩), .int .i64 5] (by rfl) rfl rfl ar_ ?_
          with_reducible refine (spec_l01Below.calls g s0_0 t235 t236 5 t237 t238 t239 w0 _ ?side1 ?side2 A16.out).mono ?_
          (case side1 => exact iz2_ HI0.out NB0_226.out NB0_227.out)
          (case side2 => exact bw3_ HB.out (IsS99.ge HI0.out) GE226.out GE227.out)
          rintro e w28 ⟨rfl, hi, hb, hk⟩
          refine ⟨_, rfl, ?_⟩
          have z_ := t6_ (Kd.R_mono (Kd.R_keep (IsS99.apart (show IsS99 w0 _ g s0_0 t235 t236 from iz2_ HI0.out NB0_226.out NB0_227.out) (kR_ HO_6.out) (by decide)) hk (fun _ h => h.2)) (fun _ h => h.1)) (KeepBut.blk hk (bk_ BK226.out) NB226_0.out (by simp)) (KeepBut.blk hk (bk_ BK227.out) NB227_0.out (by simp)) (kT_ (ki2_ HK.out GW226.out GW227.out) hk (.inl rfl)) hb hi
          (try clear HO_6)
          clear HI0 HB HK BK227 BK226
          obtain ⟨HO_6, BK226, BK227, HK, HB, HI0⟩ := z_
          (try clear hi hk hb)
          refine hK.out _ _ trivial (fun hHeld => ?_)
          clear hK K
          refine norm_ (a' := ?_) ?_ ?_
          rotate_left
          ·show Act.put _ (some 25) _ = _
           simp only [Act.put, lA_, lB_, lC_, i64_w, i32_w]
           rfl
          refine pu_ 5 (some 26) (mk_ 12 191) HT_.out ?_
          refine pu_ 6 (some 27) (mk_ 12 255) HT_.out ?_
          refine on_ 8 (some 29) (mk_ 12 511) HT_.out fun K hK => ?_
          refine goes_ Try.func73 (by kernel_rfl) rfl #[.pointer (some ⟨g, 0, none⟩), .int .i64 7] (by rfl) rfl rfl ar_ ?_
          with_reducible refine (spec_l01Below.calls g s0_0 t238 t239 7 t240 t241 t242 w0 _ ?side1 ?side2 A19.out).mono ?_
          (case side1 => exact iz2_ HI0.out NB0_226.out NB0_227.out)
          (case side2 => exact bw3_ HB.out (IsS99.ge HI0.out) GE226.out GE227.out)
          rintro e w29 ⟨rfl, hi, hb, hk⟩
          refine ⟨_, rfl, ?_⟩
          have z_ := t6_ (Kd.R_mono (Kd.R_keep (IsS99.apart (show IsS99 w0 _ g s0_0 t238 t239 from iz2_ HI0.out NB0_226.out NB0_227.out) (kR_ HO_6.out) (by decide)) hk (fun _ h => h.2)) (fun _ h => h.1)) (KeepBut.blk hk (bk_ BK226.out) NB226_0.out (by simp)) (KeepBut.blk hk (bk_ BK227.out) NB227_0.out (by simp)) (kT_ (ki2_ HK.out GW226.out GW227.out) hk (.inl rfl)) hb hi
          (try clear HO_6)
          clear HI0 HB HK BK227 BK226
          obtain ⟨HO_6, BK226, BK227, HK, HB, HI0⟩ := z_
          (try clear hi hk hb)
          refine hK.out _ _ trivial (fun hHeld => ?_)
          clear hK K
          refine norm_ (a' := ?_) ?_ ?_
          rotate_left
          ·show Act.put _ (some 29) _ = _
           simp only [Act.put, lA_, lB_, lC_, i64_w, i32_w]
           rfl
          refine pu_ 9 (some 30) (mk_ 12 1023) HT_.out ?_
          refine pu_ 10 (some 31) (mk_ 12 2047) HT_.out ?_
          refine pu_ 11 (some 8) (mk_ 12 4095) HT_.out ?_
          refine done_ (done_of HT_.out (by kernel_rfl)) ?_
          try go_wp2_with (first | ((with_reducible refine gate_dst (N := 32) rfl ?_); refine Kd.R_lit (Kd.int .i64) _ 3 ?hg (N := 32) ?hd (xs := ([] : List Int)) (inner := []) (ok := fun _ => True) (okp := fun _ => True) ?hr ?hp (fun _ hk => hk) trivial (Below.refl _ _) (Nat.le_refl _) (by simp) ?_; (case hd => rfl); (case hg => rfl); (case hr => first | (go_simp; done) | (go_simp; rfl)); (case hp => exact (Reps.none _ _)); intro v244 w30 ho31 hb hg_ hnew_; clear hg_ hnew_; (first | rw [← Ny243.out] at ho31 | (simp only [Int.reduceToNat] at ho31; rw [← Ny243.out] at ho31)); have z_ := t7_ (Kd.R_elder' (kR_ HO_6.out) (Kd.R_base ho31) hb) (Kd.R_lower (Kd.R_new' ho31 (Kd.R_lt (kR_ HO_6.out))) (keep_size (w := w) (g := g) (row := none) (ki2_ HK.out GW226.out GW227.out))) (bB_ (bk_ BK226.out) hb) (bB_ (bk_ BK227.out) hb) (IsS99.below (iz2_ HI0.out NB0_226.out NB0_227.out) hb) (kT_ (ki2_ HK.out GW226.out GW227.out) (kO_ hb g none) (.inl rfl)) (bS_ (bw3_ HB.out (IsS99.ge HI0.out) GE226.out GE227.out) hb); (try clear HO_6); clear HB HK HI0 BK227 BK226; obtain ⟨HO_6, HO245, BK226, BK227, HI0, HK, HB⟩ := z_; clear hb ho31; obtain ⟨Ao33, co33, eo33⟩ := Kd.R_slice HO_6.out; subst eo33) | ((with_reducible refine gate_builtin (b := .append) (xs := #[.tmp 32, .tmp 33]) rfl ?_); at_builtin; refine Kd.R_append_rows (Kd.int .i64) w.heap.size rfl (.tmp 32) (.tmp 33) 23 3 (.int .i64 0) 8 rfl Try.underlying23 info3 rfl (by decide) (by omega) v244 y243 x6_1 _ _ _ (fun k_ => some k_ ≠ (.slice Ao33 x6_1.length co33 : Value).ownBlock) (fun _ => False) rfl rfl ?aO ?aR (fun _ _ h => h) (fun _ h => h.elim) ?aF (Below.refl _ _) ?aS ?aL ?_; (case aR => exact kD_ (Kd.R_reads' HO_6.out).2.2); (case aF => exact (fun k_ hk => Kd.fresh' (Kd.R_lt (kR_ HO_6.out)) k_ hk)); (case aO => exact (by refine kR_ ?_; exact Kd.R_mono HO245.out (fun _ hk => hk.2))); (case aS => exact (keep_size (w := w) (g := g) (row := none) (ki2_ HK.out GW226.out GW227.out))); (case aL => have := LMc22.out; omega); intro v247 w32 ho hb hg hat; rw [← Ny246.out] at ho; have z_ := t7_ (Kd.R_after (ok := (fun _ => True)) (kR_ HO_6.out) hg hat) (blk_grown (g := gb226) (o := .cells #[.string (⟨#[]⟩ : ByteArray), .slice none 0 0, .slice none 0 0] 25 (0, 0)) (bk_ BK226.out) hg (Kd.R_ne HO245.out BK226.out (by decide))) (blk_grown (g := gb227) (o := .cells #[.string (⟨#[]⟩ : ByteArray), .slice none 0 0, .slice none 0 0] 25 (0, 0)) (bk_ BK227.out) hg (Kd.R_ne HO245.out BK227.out (by decide))) (IsS99.grown (iz2_ HI0.out NB0_226.out NB0_227.out) hg (IsS99.own_ne HI0.out HO245.out (by decide))) (below_weaken (bw3_ HB.out (IsS99.ge HI0.out) GE226.out GE227.out) HL.out hb) (kT_ (ki2_ HK.out GW226.out GW227.out) (KeepBut.of_grown hg g) (Kd.R_base2 HO245.out)) ho; (try clear HO_6); clear HO245 HK HB HI0 BK227 BK226; obtain ⟨HO_6, BK226, BK227, HI0, HB, HK, HO248⟩ := z_; clear ho hb hg hat) | ((with_reducible refine gate_builtin (b := .append) (xs := #[.tmp 34, .tmp 36]) rfl ?_); at_builtin; refine Kd.R_append (Kd.int .i64) w.heap.size rfl (.tmp 34) (.tmp 36) 23 3 (.int .i64 0) 8 rfl Try.underlying23 info3 rfl (by decide) (by omega) v247 y246 (Go.bits .or .i64 (Go.bits .or .i64 (ji15) (ji18)) (ji21)) [.int .i64 (Go.bits .or .i64 (Go.bits .or .i64 (ji15) (ji18)) (ji21))] (fun k_ => some k_ ≠ (.slice Ao33 x6_1.length co33 : Value).ownBlock) (fun _ => False) rfl rfl ?aP (fun _ hk => hk.elim) ?aF ?aO (Below.refl _ _) ?aS ?aL ?_; (case aP => exact rfl); (case aF => exact (fun k_ hk => Kd.fresh' (Kd.R_lt (kR_ HO_6.out)) k_ hk)); (case aO => exact (kR_ HO248.out)); (case aS => exact (keep_size (w := w) (g := g) (row := none) (ki2_ HK.out GW226.out GW227.out))); (case aL => have := LMc23.out; omega); intro v250 w34 ho hb hg hat; rw [← Ny249.out] at ho; have z_ := t7_ (Kd.R_after (ok := (fun _ => True)) (kR_ HO_6.out) hg hat) (blk_grown (g := gb226) (o := .cells #[.string (⟨#[]⟩ : ByteArray), .slice none 0 0, .slice none 0 0] 25 (0, 0)) (bk_ BK226.out) hg (Kd.R_ne HO248.out BK226.out (by decide))) (blk_grown (g := gb227) (o := .cells #[.string (⟨#[]⟩ : ByteArray), .slice none 0 0, .slice none 0 0] 25 (0, 0)) (bk_ BK227.out) hg (Kd.R_ne HO248.out BK227.out (by decide))) (IsS99.grown (iz2_ HI0.out NB0_226.out NB0_227.out) hg (IsS99.own_ne HI0.out HO248.out (by decide))) (below_weaken (bw3_ HB.out (IsS99.ge HI0.out) GE226.out GE227.out) HL.out hb) (kT_ (ki2_ HK.out GW226.out GW227.out) (KeepBut.of_grown hg g) (Kd.R_base2 HO248.out)) ho; (try clear HO_6); clear HO248 HK HB HI0 BK227 BK226; obtain ⟨HO_6, BK226, BK227, HI0, HB, HK, HO251⟩ := z_; clear ho hb hg hat; obtain ⟨Ao35, co35, eo35⟩ := Kd.R_slice HO251.out; subst eo35) | ((with_reducible refine gate_callee (f := 119) rfl ?_); refine gl_ (some 39) Try.func119 #[.slice Ao35 y249.length co35] ?_; (with_reducible refine (spec_l1Sets.calls k1 _ _ y249 true _ ?side1 ?side2 A24.out).mono ?_); (case side1 => exact kD_ (Kd.R_reads' HO251.out).2.2); (case side2 => exact (Kd.R_reads' HO251.out).2.1); rintro e w' ⟨rfl, ⟨nd, rfl⟩⟩; refine ⟨_, rfl, ?_⟩))
          go_roundg k1
          case measure => have := HK1.out; omega
          case rel => exact ⟨(y249), (wrap64 (x7_1 - 1)), (t241), (t242), (by first | rfl | (simp; done) | (simp [*]; done)), H', ⟨by have := HK1.out; omega⟩, ⟨by refine kR_ ?_; exact Kd.R_mono HO251.out (fun _ hk => trivial)⟩, ⟨by refine bk_ ?_; exact BK226.out⟩, ⟨by refine bk_ ?_; exact BK227.out⟩, ⟨iz2_ HI0.out NB0_226.out NB0_227.out⟩, ⟨ki2_ HK.out GW226.out GW227.out⟩, ⟨bw3_ HB.out (IsS99.ge HI0.out) GE226.out GE227.out⟩⟩
         ·replace c25 := Bool.eq_false_iff.mpr c25
          subst c25
          rw [if_neg (show ¬ (false = true) by decide)] at H
          have H' := M_ H
          clear H
          try go_wp2
          have z_ := t6_ (Kd.R_drew HO_6.out) (blk_drew BK226.out) (blk_drew BK227.out) (IsS99.drew HI0.out) (keep_drew HK.out) (below_drew1 HB.out)
          (try clear HO_6)
          clear HB HK HI0 BK227 BK226
          obtain ⟨HO_6, BK226, BK227, HI0, HK, HB⟩ := z_
          refine start_ (n := 12) (S := fun w' => True) (ds := []) (mk_ 12 0) (by kernel_rfl) rfl rfl trivial (fun hHeld => ?_); refine with_tabW spec_l2Font.tab6 spec_l2Font.bits6 (fun HT_ HW_ => ?_)
          generalize wr.drew = w36 at HO_6 BK226 BK227 HI0 HK HB hHeld ⊢
          refine pu_ 0 (some 21) (mk_ 12 1) HT_.out ?_
          refine pu_ 3 (some 24) (mk_ 12 9) HT_.out ?_
          refine pu_ 7 (some 28) (mk_ 12 137) HT_.out ?_
          refine on_ 1 (some 22) (mk_ 12 139) HT_.out fun K hK => ?_
          refine goes_ Try.func73 (by kernel_rfl) rfl #[.pointer (some ⟨g, 0, none⟩), .int .i64 5] (by rfl) rfl rfl ar_ ?_
          with_reducible refine (spec_l01Below.calls g s0_0 x1001_1 x1002_1 5 t234 t235 t236 w0 _ ?side1 ?side2 A13.out).mono ?_
          (case side1 => exact iz2_ HI0.out NB0_226.out NB0_227.out)
          (case side2 => exact bw3_ HB.out (IsS99.ge HI0.out) GE226.out GE227.out)
          rintro e w37 ⟨rfl, hi, hb, hk⟩
          refine ⟨_, rfl, ?_⟩
          have z_ := t6_ (Kd.R_mono (Kd.R_keep (IsS99.apart (show IsS99 w0 _ g s0_0 x1001_1 x1002_1 from iz2_ HI0.out NB0_226.out NB0_227.out) (kR_ HO_6.out) (by decide)) hk (fun _ h => h.2)) (fun _ h => h.1)) (KeepBut.blk hk (bk_ BK226.out) NB226_0.out (by simp)) (KeepBut.blk hk (bk_ BK227.out) NB227_0.out (by simp)) (kT_ (ki2_ HK.out GW226.out GW227.out) hk (.inl rfl)) hb hi
          (try clear HO_6)
          clear HI0 HB HK BK227 BK226
          obtain ⟨HO_6, BK226, BK227, HK, HB, HI0⟩ := z_
          (try clear hi hk hb)
          refine hK.out _ _ trivial (fun hHeld => ?_)
          clear hK K
          refine norm_ (a' := ?_) ?_ ?_
          rotate_left
          ·show Act.put _ (some 22) _ = _
           simp only [Act.put, lA_, lB_, lC_, i64_w, i32_w]
           rfl
          refine pu_ 2 (some 23) (mk_ 12 143) HT_.out ?_
          refine on_ 4 (some 25) (mk_ 12 159) HT_.out fun K hK => ?_
          refine goes_ Try.func73 (by kernel_rfl) rfl #[.pointer (some ⟨g, 0, none⟩), .int .i64 5] (by rfl) rfl rfl ar_ ?_
          with_reducible refine (spec_l01Below.calls g s0_0 t235 t236 5 t237 t238 t239 w0 _ ?side1 ?side2 A16.out).mono ?_
          (case side1 => exact iz2_ HI0.out NB0_226.out NB0_227.out)
          (case side2 => exact bw3_ HB.out (IsS99.ge HI0.out) GE226.out GE227.out)
          rintro e w38 ⟨rfl, hi, hb, hk⟩
          refine ⟨_, rfl, ?_⟩
          have z_ := t6_ (Kd.R_mono (Kd.R_keep (IsS99.apart (show IsS99 w0 _ g s0_0 t235 t236 from iz2_ HI0.out NB0_226.out NB0_227.out) (kR_ HO_6.out) (by decide)) hk (fun _ h => h.2)) (fun _ h => h.1)) (KeepBut.blk hk (bk_ BK226.out) NB226_0.out (by simp)) (KeepBut.blk hk (bk_ BK227.out) NB227_0.out (by simp)) (kT_ (ki2_ HK.out GW226.out GW227.out) hk (.inl rfl)) hb hi
          (try clear HO_6)
          clear HI0 HB HK BK227 BK226
          obtain ⟨HO_6, BK226, BK227, HK, HB, HI0⟩ := z_
          (try clear hi hk hb)
          refine hK.out _ _ trivial (fun hHeld => ?_)
          clear hK K
          refine norm_ (a' := ?_) ?_ ?_
          rotate_left
          ·show Act.put _ (some 25) _ = _
           simp only [Act.put, lA_, lB_, lC_, i64_w, i32_w]
           rfl
          refine pu_ 5 (some 26) (mk_ 12 191) HT_.out ?_
          refine pu_ 6 (some 27) (mk_ 12 255) HT_.out ?_
          refine on_ 8 (some 29) (mk_ 12 511) HT_.out fun K hK => ?_
          refine goes_ Try.func73 (by kernel_rfl) rfl #[.pointer (some ⟨g, 0, none⟩), .int .i64 7] (by rfl) rfl rfl ar_ ?_
          with_reducible refine (spec_l01Below.calls g s0_0 t238 t239 7 t240 t241 t242 w0 _ ?side1 ?side2 A19.out).mono ?_
          (case side1 => exact iz2_ HI0.out NB0_226.out NB0_227.out)
          (case side2 => exact bw3_ HB.out (IsS99.ge HI0.out) GE226.out GE227.out)
          rintro e w39 ⟨rfl, hi, hb, hk⟩
          refine ⟨_, rfl, ?_⟩
          have z_ := t6_ (Kd.R_mono (Kd.R_keep (IsS99.apart (show IsS99 w0 _ g s0_0 t238 t239 from iz2_ HI0.out NB0_226.out NB0_227.out) (kR_ HO_6.out) (by decide)) hk (fun _ h => h.2)) (fun _ h => h.1)) (KeepBut.blk hk (bk_ BK226.out) NB226_0.out (by simp)) (KeepBut.blk hk (bk_ BK227.out) NB227_0.out (by simp)) (kT_ (ki2_ HK.out GW226.out GW227.out) hk (.inl rfl)) hb hi
          (try clear HO_6)
          clear HI0 HB HK BK227 BK226
          obtain ⟨HO_6, BK226, BK227, HK, HB, HI0⟩ := z_
          (try clear hi hk hb)
          refine hK.out _ _ trivial (fun hHeld => ?_)
          clear hK K
          refine norm_ (a' := ?_) ?_ ?_
          rotate_left
          ·show Act.put _ (some 29) _ = _
           simp only [Act.put, lA_, lB_, lC_, i64_w, i32_w]
           rfl
          refine pu_ 9 (some 30) (mk_ 12 1023) HT_.out ?_
          refine pu_ 10 (some 31) (mk_ 12 2047) HT_.out ?_
          refine pu_ 11 (some 8) (mk_ 12 4095) HT_.out ?_
          refine done_ (done_of HT_.out (by kernel_rfl)) ?_
          try go_wp2_with (first | ((with_reducible refine gate_dst (N := 32) rfl ?_); refine Kd.R_lit (Kd.int .i64) _ 3 ?hg (N := 32) ?hd (xs := ([] : List Int)) (inner := []) (ok := fun _ => True) (okp := fun _ => True) ?hr ?hp (fun _ hk => hk) trivial (Below.refl _ _) (Nat.le_refl _) (by simp) ?_; (case hd => rfl); (case hg => rfl); (case hr => first | (go_simp; done) | (go_simp; rfl)); (case hp => exact (Reps.none _ _)); intro v244 w40 ho41 hb hg_ hnew_; clear hg_ hnew_; (first | rw [← Ny243.out] at ho41 | (simp only [Int.reduceToNat] at ho41; rw [← Ny243.out] at ho41)); have z_ := t7_ (Kd.R_elder' (kR_ HO_6.out) (Kd.R_base ho41) hb) (Kd.R_lower (Kd.R_new' ho41 (Kd.R_lt (kR_ HO_6.out))) (keep_size (w := w) (g := g) (row := none) (ki2_ HK.out GW226.out GW227.out))) (bB_ (bk_ BK226.out) hb) (bB_ (bk_ BK227.out) hb) (IsS99.below (iz2_ HI0.out NB0_226.out NB0_227.out) hb) (kT_ (ki2_ HK.out GW226.out GW227.out) (kO_ hb g none) (.inl rfl)) (bS_ (bw3_ HB.out (IsS99.ge HI0.out) GE226.out GE227.out) hb); (try clear HO_6); clear HB HK HI0 BK227 BK226; obtain ⟨HO_6, HO245, BK226, BK227, HI0, HK, HB⟩ := z_; clear hb ho41; obtain ⟨Ao43, co43, eo43⟩ := Kd.R_slice HO_6.out; subst eo43) | ((with_reducible refine gate_builtin (b := .append) (xs := #[.tmp 32, .tmp 33]) rfl ?_); at_builtin; refine Kd.R_append_rows (Kd.int .i64) w.heap.size rfl (.tmp 32) (.tmp 33) 23 3 (.int .i64 0) 8 rfl Try.underlying23 info3 rfl (by decide) (by omega) v244 y243 x6_1 _ _ _ (fun k_ => some k_ ≠ (.slice Ao43 x6_1.length co43 : Value).ownBlock) (fun _ => False) rfl rfl ?aO ?aR (fun _ _ h => h) (fun _ h => h.elim) ?aF (Below.refl _ _) ?aS ?aL ?_; (case aR => exact kD_ (Kd.R_reads' HO_6.out).2.2); (case aF => exact (fun k_ hk => Kd.fresh' (Kd.R_lt (kR_ HO_6.out)) k_ hk)); (case aO => exact (by refine kR_ ?_; exact Kd.R_mono HO245.out (fun _ hk => hk.2))); (case aS => exact (keep_size (w := w) (g := g) (row := none) (ki2_ HK.out GW226.out GW227.out))); (case aL => have := LMc22.out; omega); intro v247 w42 ho hb hg hat; rw [← Ny246.out] at ho; have z_ := t7_ (Kd.R_after (ok := (fun _ => True)) (kR_ HO_6.out) hg hat) (blk_grown (g := gb226) (o := .cells #[.string (⟨#[]⟩ : ByteArray), .slice none 0 0, .slice none 0 0] 25 (0, 0)) (bk_ BK226.out) hg (Kd.R_ne HO245.out BK226.out (by decide))) (blk_grown (g := gb227) (o := .cells #[.string (⟨#[]⟩ : ByteArray), .slice none 0 0, .slice none 0 0] 25 (0, 0)) (bk_ BK227.out) hg (Kd.R_ne HO245.out BK227.out (by decide))) (IsS99.grown (iz2_ HI0.out NB0_226.out NB0_227.out) hg (IsS99.own_ne HI0.out HO245.out (by decide))) (below_weaken (bw3_ HB.out (IsS99.ge HI0.out) GE226.out GE227.out) HL.out hb) (kT_ (ki2_ HK.out GW226.out GW227.out) (KeepBut.of_grown hg g) (Kd.R_base2 HO245.out)) ho; (try clear HO_6); clear HO245 HK HB HI0 BK227 BK226; obtain ⟨HO_6, BK226, BK227, HI0, HB, HK, HO248⟩ := z_; clear ho hb hg hat) | ((with_reducible refine gate_builtin (b := .append) (xs := #[.tmp 34, .tmp 36]) rfl ?_); at_builtin; refine Kd.R_append (Kd.int .i64) w.heap.size rfl (.tmp 34) (.tmp 36) 23 3 (.int .i64 0) 8 rfl Try.underlying23 info3 rfl (by decide) (by omega) v247 y246 (Go.bits .or .i64 (Go.bits .or .i64 (ji15) (ji18)) (ji21)) [.int .i64 (Go.bits .or .i64 (Go.bits .or .i64 (ji15) (ji18)) (ji21))] (fun k_ => some k_ ≠ (.slice Ao43 x6_1.length co43 : Value).ownBlock) (fun _ => False) rfl rfl ?aP (fun _ hk => hk.elim) ?aF ?aO (Below.refl _ _) ?aS ?aL ?_; (case aP => exact rfl); (case aF => exact (fun k_ hk => Kd.fresh' (Kd.R_lt (kR_ HO_6.out)) k_ hk)); (case aO => exact (kR_ HO248.out)); (case aS => exact (keep_size (w := w) (g := g) (row := none) (ki2_ HK.out GW226.out GW227.out))); (case aL => have := LMc23.out; omega); intro v250 w44 ho hb hg hat; rw [← Ny249.out] at ho; have z_ := t7_ (Kd.R_after (ok := (fun _ => True)) (kR_ HO_6.out) hg hat) (blk_grown (g := gb226) (o := .cells #[.string (⟨#[]⟩ : ByteArray), .slice none 0 0, .slice none 0 0] 25 (0, 0)) (bk_ BK226.out) hg (Kd.R_ne HO248.out BK226.out (by decide))) (blk_grown (g := gb227) (o := .cells #[.string (⟨#[]⟩ : ByteArray), .slice none 0 0, .slice none 0 0] 25 (0, 0)) (bk_ BK227.out) hg (Kd.R_ne HO248.out BK227.out (by decide))) (IsS99.grown (iz2_ HI0.out NB0_226.out NB0_227.out) hg (IsS99.own_ne HI0.out HO248.out (by decide))) (below_weaken (bw3_ HB.out (IsS99.ge HI0.out) GE226.out GE227.out) HL.out hb) (kT_ (ki2_ HK.out GW226.out GW227.out) (KeepBut.of_grown hg g) (Kd.R_base2 HO248.out)) ho; (try clear HO_6); clear HO248 HK HB HI0 BK227 BK226; obtain ⟨HO_6, BK226, BK227, HI0, HB, HK, HO251⟩ := z_; clear ho hb hg hat; obtain ⟨Ao45, co45, eo45⟩ := Kd.R_slice HO251.out; subst eo45) | ((with_reducible refine gate_callee (f := 119) rfl ?_); refine gl_ (some 39) Try.func119 #[.slice Ao45 y249.length co45] ?_; (with_reducible refine (spec_l1Sets.calls k1 _ _ y249 false _ ?side1 ?side2 A24.out).mono ?_); (case side1 => exact kD_ (Kd.R_reads' HO251.out).2.2); (case side2 => exact (Kd.R_reads' HO251.out).2.1); rintro e w' ⟨rfl, ⟨nd, rfl⟩⟩; refine ⟨_, rfl, ?_⟩))
          go_roundg k1
          case measure => have := HK1.out; omega
          case rel => exact ⟨(x6_1), (wrap64 (x7_1 - 1)), (t241), (t242), (by first | rfl | (simp; done) | (simp [*]; done)), H', ⟨by have := HK1.out; omega⟩, ⟨by refine kR_ ?_; exact Kd.R_mono HO_6.out (fun _ hk => trivial)⟩, ⟨by refine bk_ ?_; exact BK226.out⟩, ⟨by refine bk_ ?_; exact BK227.out⟩, ⟨iz2_ HI0.out NB0_226.out NB0_227.out⟩, ⟨ki2_ HK.out GW226.out GW227.out⟩, ⟨bw3_ HB.out (IsS99.ge HI0.out) GE226.out GE227.out⟩⟩
        ·rw [if_neg c23] at H
         exact absurd H (by simp)
       ·rw [if_neg c22] at H
        exact absurd H (by simp)
      ·rw [if_neg c20] at H
       exact absurd H (by simp)
     ·rw [if_neg c17] at H
      exact absurd H (by simp)
    ·rw [if_neg c14] at H
     exact absurd H (by simp)
   ·rw [if_neg c12] at H
    have c12b0 : decide (0 < x7_1) = false := decide_eq_false c12
    clear c12
    replace H := bs_ H
    obtain ⟨⟨t253, t254⟩, A460, H⟩ := H
    dsimp only at H
    have A46 := M_ A460
    clear A460
    have H' := M_ H
    clear H
    obtain ⟨Ao47, co47, eo47⟩ := Kd.R_slice HO_6.out
    subst eo47
    go_wp2_with (first | ((with_reducible refine gate_callee (f := 120) rfl ?_); refine gl_ (some 43) Try.func120 #[.slice Ao47 x6_1.length co47] ?_; (with_reducible refine (spec_OrderBar.calls k1 _ _ x6_1 t253 t254 _ ?side1 ?side2 A46.out).mono ?_); (case side1 => exact kD_ (Kd.R_reads' HO_6.out).2.2); (case side2 => exact (Kd.R_reads' HO_6.out).2.1); rintro e w48 ⟨v255, rfl, ho0, hb⟩; refine ⟨_, rfl, ?_⟩; have n1_ := M_ (Kd.R_lower (Kd.R_new' ho0 (Kd.R_lt (kR_ HO_6.out))) (keep_size (w := w) (g := g) (row := none) (ki2_ HK.out GW226.out GW227.out))); have n2_ := M_ (bB_ (bk_ BK226.out) hb); have n3_ := M_ (bB_ (bk_ BK227.out) hb); have n4_ := M_ (IsS99.below (iz2_ HI0.out NB0_226.out NB0_227.out) hb); have n5_ := M_ (kT_ (ki2_ HK.out GW226.out GW227.out) (kO_ hb g none) (.inl rfl)); have n6_ := M_ (bS_ (bw3_ HB.out (IsS99.ge HI0.out) GE226.out GE227.out) hb); (try clear HO_6); clear HB HK HI0 BK227 BK226; have HO256 := n1_; have BK226 := n2_; have BK227 := n3_; have HI0 := n4_; have HK := n5_; have HB := n6_; clear n1_ n2_ n3_ n4_ n5_ n6_; (try clear ho0 hb); obtain ⟨Ao49, co49, eo49⟩ := Kd.R_slice HO256.out; subst eo49; have hnb50 := NB227_226.out; have hnc50 := NB226_227.out; have hnb51 := NB227_0.out; have hnc51 := NB0_227.out; have hcz52_0 := cz_ BK227.out 0 (.string (⟨#[]⟩ : ByteArray)); have hcz52_1 := cz_ BK227.out 1 (.slice none 0 0); have hcz52_2 := cz_ BK227.out 2 (.slice none 0 0); have hfz52_0 := fz_ BK227.out 0; have hfz52_1 := fz_ BK227.out 1; have hfz52_2 := fz_ BK227.out 2))
    go_loopg [50] k1 (fun kq v50 w' => ∃ (x50_2 : Int) (x1001_2 : Int) (x1002_2 : Int) (x228000_2 : ByteArray) (x228001_2 : List Int) (u228001 : Value), v50 = .int .i64 x50_2 ∧ Aside0 (spec_l2Font.l1 kq (t253.length : Int) x50_2 s0_0 x1001_2 x1002_2 x228000_2 x228001_2 t253 = some (r1, r2, r3, r4, r5)) ∧ Aside0 (kq ≤ k1) ∧ Aside0 (Kd.R (Kd.int .i64) 3 w' w.heap.size (fun k_ => some k_ ≠ ((.slice Ao49 t253.length co49) : Value).ownBlock) u228001 x228001_2) ∧ Aside0 (Kd.R (Kd.int .i64) 3 w' w.heap.size (fun k_ => some k_ ≠ (u228001 : Value).ownBlock) (.slice Ao49 t253.length co49) t253) ∧ Aside0 (w'.heap[gb226]? = some (.cells #[.string (⟨#[]⟩ : ByteArray), (.slice none 0 0), (.slice none 0 0)] 25 (0, 0))) ∧ Aside0 (w'.heap[gb227]? = some (.cells #[.string x228000_2, u228001, (.slice Ao49 t253.length co49)] 25 (0, 0))) ∧ Aside0 (IsS99 w0 w' g s0_0 x1001_2 x1002_2) ∧ Aside0 (KeepBut w w' g none) ∧ Aside0 (Below w0.heap.size w0 w'))
    case atStart => exact ⟨(0), (x1001_1), (x1002_1), ((⟨#[]⟩ : ByteArray)), (([] : List Int)), (.slice none 0 0), (by first | rfl | (simp; done) | (simp [*]; done)), H', ⟨Nat.le_refl _⟩, ⟨by first | exact Kd.R_nil _ _ _ _ _ | exact Kd.N_nil _ _ _ _ _ | exact Kd.V_nil _ _ _ _ _ | exact Kd.Q_nil _ _ _ _ _ | exact Kd.S_nil _ _ _ _ _⟩, ⟨by refine kR_ ?_; exact Kd.R_mono (Kd.R_far (p := ⟨gb227, 2, none⟩) (Kd.R_types HO256.out BK227.out (by decide)) (fun _ hk => hk.2) (.slice Ao49 t253.length co49)) (fun _ hk => (by simp [Value.ownBlock]))⟩, ⟨by refine bk_ ?_; refine blk_far ?_ NB226_227.out _; refine bk_ ?_; exact BK226.out⟩, ⟨by refine bk_ ?_; refine blk_put (cs := #[.string (⟨#[]⟩ : ByteArray), .slice none 0 0, .slice none 0 0]) ?_ 2 _ rfl; refine bk_ ?_; exact BK227.out⟩, ⟨iz2_ HI0.out NB0_226.out NB0_227.out⟩, ⟨ki2_ HK.out GW226.out GW227.out⟩, ⟨bw3_ HB.out (IsS99.ge HI0.out) GE226.out GE227.out⟩⟩
    case round =>
     clear H'
     (try clear p6 p2 hfz8_2 hfz8_1 hfz8_0 hfz52_2 hfz52_1 hfz52_0 hcz8_2 hcz8_1 hcz8_0 hcz52_2 hcz52_1 hcz52_0 c51 c50 c25 c23 c22 c20b1 c20b0 c20 c17b1 c17b0 c17 c14b1 c14b0 c14 c12b0 c12 c11 c7 p6 c6 c5 p2 c2 c1)
     obtain ⟨x50_2, x1001_2, x1002_2, x228000_2, x228001_2, u228001, rfl, HA, HK2, HO_228001, HO_228002, BK226, BK227, HI0, HK, HB⟩ := hrel
     cases gk with
     | zero => exact absurd HA.out (by simp [spec_l2Font.l1])
     | succ k2 =>
      have H := HA.out
      clear HA
      simp only [spec_l2Font.l1] at H
      by_cases c53 : x50_2 < (t253.length : Int)
      ·rw [if_pos c53] at H
       have c53b0 := dt_ c53
       clear c53
       by_cases c54 : 0 ≤ x50_2
       ·rw [if_pos c54] at H
        have c54b0 := eq_true c54
        have c54b1 := dt_ c54
        clear c54
        by_cases c55 : x50_2 ≤ (wrap64 (x50_2 + 1))
        ·rw [if_pos c55] at H
         have c55b0 := eq_true c55
         have c55b1 := dt_ c55
         by_cases c56 : (wrap64 (x50_2 + 1)) ≤ 40
         ·rw [if_pos c56] at H
          have c56b0 := eq_true c56
          have c56b1 := dt_ c56
          by_cases c57 : x228000_2.size + ((⟨#[97, 101, 110, 111, 114, 116, 105, 46, 44, 104, 115, 100, 108, 117, 99, 109, 102, 119, 45, 103, 121, 112, 98, 118, 107, 113, 120, 106, 122, 33, 40, 41, 48, 49, 50, 51, 52, 53, 54, 55]⟩ : ByteArray).extract (x50_2 : Int).toNat ((wrap64 (x50_2 + 1)) : Int).toNat).size ≤ 9223372036854775807
          ·rw [if_pos c57] at H
           have c57b0 := eq_true c57
           have c57b1 := dt_ c57
           try have c57b2 : (9223372036854775807 < x228000_2.size + ((⟨#[97, 101, 110, 111, 114, 116, 105, 46, 44, 104, 115, 100, 108, 117, 99, 109, 102, 119, 45, 103, 121, 112, 98, 118, 107, 113, 120, 106, 122, 33, 40, 41, 48, 49, 50, 51, 52, 53, 54, 55]⟩ : ByteArray).extract (x50_2 : Int).toNat ((wrap64 (x50_2 + 1)) : Int).toNat).size) = False := eq_false (Nat.not_lt.2 c57)
           try have c57b3 : (9223372036854775807 < x228000_2.size + ((wrap64 (x50_2 + 1)).toNat - x50_2.toNat)) = False := eq_false (Nat.not_lt.2 (by have h_ := c57; have h2_ := of_eq_true c56b0; rw [ByteArray.size_extract] at h_; replace h_ : x228000_2.size + (min (wrap64 (x50_2 + 1)).toNat 40 - x50_2.toNat) ≤ 9223372036854775807 := h_; omega))
           replace H := bs_ H
           obtain ⟨⟨t257, t258, t259⟩, A580, H⟩ := H
           dsimp only at H
           have A58 := M_ A580
           clear A580
           by_cases c59 : x228001_2.length < 17592186044416
           ·rw [if_pos c59] at H
            have LMc59 := M_ c59
            clear c59
            obtain ⟨y260, hy260⟩ : ∃ y_ : List Int, y_ = (x228001_2 ++ [wrap64 (1 + t257)]) := ⟨_, rfl⟩
            replace H : (spec_l2Font.l1 k2 (t253.length : Int) (wrap64 (x50_2 + 1)) s0_0 t258 t259 (x228000_2 ++ ((⟨#[97, 101, 110, 111, 114, 116, 105, 46, 44, 104, 115, 100, 108, 117, 99, 109, 102, 119, 45, 103, 121, 112, 98, 118, 107, 113, 120, 106, 122, 33, 40, 41, 48, 49, 50, 51, 52, 53, 54, 55]⟩ : ByteArray).extract (x50_2 : Int).toNat ((wrap64 (x50_2 + 1)) : Int).toNat)) y260 t253) = some (r1, r2, r3, r4, r5) := by first | (rw [hy260]; with_reducible exact H) | (have H2_ := (Option.bind_some _ _).symm.trans H; rw [hy260]; with_reducible exact H2_) | (have H2_ := (Option.bind_some _ _).symm.trans H; with_reducible exact H2_) | with_reducible exact H | (rw [hy260]; exact H) | exact H
            have Ny260 := M_ hy260
            clear hy260
            have H' := M_ H
            clear H
            try go_wp2
            have z_ := t7_ (Kd.R_drew HO_228001.out) (Kd.R_drew HO_228002.out) (blk_drew BK226.out) (blk_drew BK227.out) (IsS99.drew HI0.out) (keep_drew HK.out) (below_drew1 HB.out)
            clear HB HK HI0 BK227 BK226 HO_228002 HO_228001
            obtain ⟨HO_228001, HO_228002, BK226, BK227, HI0, HK, HB⟩ := z_
            refine start_ (n := 9) (S := fun w' => w'.cell? ⟨gb227, 0, none⟩ = some (.string x228000_2) ∧ w'.cell? ⟨gb227, 1, none⟩ = some (u228001) ∧ w'.cell? ⟨gb227, 2, none⟩ = some (.slice Ao49 t253.length co49)) (ds := [8]) (mk_ 9 0) (by kernel_rfl) rfl rfl ⟨(blk_cell BK227.out 0).trans rfl, (blk_cell BK227.out 1).trans rfl, (blk_cell BK227.out 2).trans rfl⟩ (fun hHeld => ?_); refine with_tabW spec_l2Font.tab14 spec_l2Font.bits14 (fun HT_ HW_ => ?_)
            generalize wr.drew = w60 at HO_228001 HO_228002 BK226 BK227 HI0 HK HB hHeld ⊢
            refine pu_ 0 (some 53) (mk_ 9 1) HT_.out ?_
            refine pu_ 2 (some 55) (mk_ 9 5) HT_.out ?_
            refine pu_ 3 (some 56) (mk_ 9 13) HT_.out ?_
            refine pu_ 4 (some 57) (mk_ 9 29) HT_.out ?_
            refine pu_ 5 (some 58) (mk_ 9 61) HT_.out ?_
            refine ta_ 1 (some 54) (mk_ 9 63) HT_.out HW_.out hHeld (hy := by rintro w' ⟨s0, s1, s2⟩; go_simp; with_reducible rfl) (h := ?_)
            refine pu_ 6 (some 59) (mk_ 9 127) HT_.out ?_
            refine pu_ 7 (some 60) (mk_ 9 255) HT_.out ?_
            refine la_ 8 none (mk_ 9 511) HT_.out fun K hK => ?_
            have hs61 := cz_ BK227.out 0 (.string x228000_2)
            have hfs61 := fz_ BK227.out 0
            have hns61_0 := NB226_227.out
            have hms61_0 := NB227_226.out
            refine skip_ (w1 := ?_) (by rfl) rfl ?_ ?_
            rotate_left
            ·go_simp
             rfl
            refine hK.out _ _ ?_
            clear hK K
            refine done_ (done_of HT_.out (by kernel_rfl)) ?_
            try go_wp2
            have n0_ : Aside0 (Kd.R (Kd.int .i64) 3 (w60.setCell ⟨gb227, 0, none⟩ (.string (x228000_2 ++ ((⟨#[97, 101, 110, 111, 114, 116, 105, 46, 44, 104, 115, 100, 108, 117, 99, 109, 102, 119, 45, 103, 121, 112, 98, 118, 107, 113, 120, 106, 122, 33, 40, 41, 48, 49, 50, 51, 52, 53, 54, 55]⟩ : ByteArray).extract (x50_2 : Int).toNat ((wrap64 (x50_2 + 1)) : Int).toNat)))) w.heap.size (fun k_ => some k_ ≠ (.slice Ao49 t253.length co49 : Value).ownBlock) u228001 x228001_2) := ⟨by refine kR_ ?_; exact Kd.R_mono (Kd.R_far (p := ⟨gb227, 0, none⟩) (Kd.R_types HO_228001.out BK227.out (by decide)) (fun _ hk => hk.2) (.string (x228000_2 ++ ((⟨#[97, 101, 110, 111, 114, 116, 105, 46, 44, 104, 115, 100, 108, 117, 99, 109, 102, 119, 45, 103, 121, 112, 98, 118, 107, 113, 120, 106, 122, 33, 40, 41, 48, 49, 50, 51, 52, 53, 54, 55]⟩ : ByteArray).extract (x50_2 : Int).toNat ((wrap64 (x50_2 + 1)) : Int).toNat)))) (fun _ hk => hk.1)⟩
            have n1_ : Aside0 (Kd.R (Kd.int .i64) 3 (w60.setCell ⟨gb227, 0, none⟩ (.string (x228000_2 ++ ((⟨#[97, 101, 110, 111, 114, 116, 105, 46, 44, 104, 115, 100, 108, 117, 99, 109, 102, 119, 45, 103, 121, 112, 98, 118, 107, 113, 120, 106, 122, 33, 40, 41, 48, 49, 50, 51, 52, 53, 54, 55]⟩ : ByteArray).extract (x50_2 : Int).toNat ((wrap64 (x50_2 + 1)) : Int).toNat)))) w.heap.size (fun k_ => some k_ ≠ (u228001 : Value).ownBlock) (.slice Ao49 t253.length co49) t253) := ⟨by refine kR_ ?_; exact Kd.R_mono (Kd.R_far (p := ⟨gb227, 0, none⟩) (Kd.R_types HO_228002.out BK227.out (by decide)) (fun _ hk => hk.2) (.string (x228000_2 ++ ((⟨#[97, 101, 110, 111, 114, 116, 105, 46, 44, 104, 115, 100, 108, 117, 99, 109, 102, 119, 45, 103, 121, 112, 98, 118, 107, 113, 120, 106, 122, 33, 40, 41, 48, 49, 50, 51, 52, 53, 54, 55]⟩ : ByteArray).extract (x50_2 : Int).toNat ((wrap64 (x50_2 + 1)) : Int).toNat)))) (fun _ hk => hk.1)⟩
            have n2_ : Aside0 ((w60.setCell ⟨gb227, 0, none⟩ (.string (x228000_2 ++ ((⟨#[97, 101, 110, 111, 114, 116, 105, 46, 44, 104, 115, 100, 108, 117, 99, 109, 102, 119, 45, 103, 121, 112, 98, 118, 107, 113, 120, 106, 122, 33, 40, 41, 48, 49, 50, 51, 52, 53, 54, 55]⟩ : ByteArray).extract (x50_2 : Int).toNat ((wrap64 (x50_2 + 1)) : Int).toNat)))).heap[gb226]? = some (.cells #[.string (⟨#[]⟩ : ByteArray), .slice none 0 0, .slice none 0 0] 25 (0, 0))) := ⟨by refine bk_ ?_; refine blk_far ?_ NB226_227.out _; refine bk_ ?_; exact BK226.out⟩
            have n3_ : Aside0 ((w60.setCell ⟨gb227, 0, none⟩ (.string (x228000_2 ++ ((⟨#[97, 101, 110, 111, 114, 116, 105, 46, 44, 104, 115, 100, 108, 117, 99, 109, 102, 119, 45, 103, 121, 112, 98, 118, 107, 113, 120, 106, 122, 33, 40, 41, 48, 49, 50, 51, 52, 53, 54, 55]⟩ : ByteArray).extract (x50_2 : Int).toNat ((wrap64 (x50_2 + 1)) : Int).toNat)))).heap[gb227]? = some (.cells #[.string (x228000_2 ++ ((⟨#[97, 101, 110, 111, 114, 116, 105, 46, 44, 104, 115, 100, 108, 117, 99, 109, 102, 119, 45, 103, 121, 112, 98, 118, 107, 113, 120, 106, 122, 33, 40, 41, 48, 49, 50, 51, 52, 53, 54, 55]⟩ : ByteArray).extract (x50_2 : Int).toNat ((wrap64 (x50_2 + 1)) : Int).toNat)), u228001, .slice Ao49 t253.length co49] 25 (0, 0))) := ⟨by refine bk_ ?_; refine blk_put (cs := #[.string x228000_2, u228001, .slice Ao49 t253.length co49]) ?_ 0 _ rfl; refine bk_ ?_; exact BK227.out⟩
            have n4_ : Aside0 (IsS99 w0 (w60.setCell ⟨gb227, 0, none⟩ (.string (x228000_2 ++ ((⟨#[97, 101, 110, 111, 114, 116, 105, 46, 44, 104, 115, 100, 108, 117, 99, 109, 102, 119, 45, 103, 121, 112, 98, 118, 107, 113, 120, 106, 122, 33, 40, 41, 48, 49, 50, 51, 52, 53, 54, 55]⟩ : ByteArray).extract (x50_2 : Int).toNat ((wrap64 (x50_2 + 1)) : Int).toNat)))) g s0_0 x1001_2 x1002_2) := ⟨iz2_ HI0.out NB0_226.out NB0_227.out⟩
            have n5_ : Aside0 (KeepBut w (w60.setCell ⟨gb227, 0, none⟩ (.string (x228000_2 ++ ((⟨#[97, 101, 110, 111, 114, 116, 105, 46, 44, 104, 115, 100, 108, 117, 99, 109, 102, 119, 45, 103, 121, 112, 98, 118, 107, 113, 120, 106, 122, 33, 40, 41, 48, 49, 50, 51, 52, 53, 54, 55]⟩ : ByteArray).extract (x50_2 : Int).toNat ((wrap64 (x50_2 + 1)) : Int).toNat)))) g none) := ⟨ki2_ HK.out GW226.out GW227.out⟩
            have n6_ : Aside0 (Below w0.heap.size w0 (w60.setCell ⟨gb227, 0, none⟩ (.string (x228000_2 ++ ((⟨#[97, 101, 110, 111, 114, 116, 105, 46, 44, 104, 115, 100, 108, 117, 99, 109, 102, 119, 45, 103, 121, 112, 98, 118, 107, 113, 120, 106, 122, 33, 40, 41, 48, 49, 50, 51, 52, 53, 54, 55]⟩ : ByteArray).extract (x50_2 : Int).toNat ((wrap64 (x50_2 + 1)) : Int).toNat))))) := ⟨bw3_ HB.out (IsS99.ge HI0.out) GE226.out GE227.out⟩
            (try clear HB HK HI0 BK227 BK226 HO_228002 HO_228001)
            generalize (w60.setCell ⟨gb227, 0, none⟩ (.string (x228000_2 ++ ((⟨#[97, 101, 110, 111, 114, 116, 105, 46, 44, 104, 115, 100, 108, 117, 99, 109, 102, 119, 45, 103, 121, 112, 98, 118, 107, 113, 120, 106, 122, 33, 40, 41, 48, 49, 50, 51, 52, 53, 54, 55]⟩ : ByteArray).extract (x50_2 : Int).toNat ((wrap64 (x50_2 + 1)) : Int).toNat)))) = w62 at n0_ n1_ n2_ n3_ n4_ n5_ n6_ ⊢
            have HO_228001 := n0_
            have HO_228002 := n1_
            have BK226 := n2_
            have BK227 := n3_
            have HI0 := n4_
            have HK := n5_
            have HB := n6_
            clear n0_ n1_ n2_ n3_ n4_ n5_ n6_
            have z_ := t7_ (Kd.R_drew HO_228001.out) (Kd.R_drew HO_228002.out) (blk_drew BK226.out) (blk_drew BK227.out) (IsS99.drew HI0.out) (keep_drew HK.out) (below_drew1 HB.out)
            clear HB HK HI0 BK227 BK226 HO_228002 HO_228001
            obtain ⟨HO_228001, HO_228002, BK226, BK227, HI0, HK, HB⟩ := z_
            refine start_ (n := 9) (S := fun w' => w'.cell? ⟨gb227, 0, none⟩ = some (.string (x228000_2 ++ ((⟨#[97, 101, 110, 111, 114, 116, 105, 46, 44, 104, 115, 100, 108, 117, 99, 109, 102, 119, 45, 103, 121, 112, 98, 118, 107, 113, 120, 106, 122, 33, 40, 41, 48, 49, 50, 51, 52, 53, 54, 55]⟩ : ByteArray).extract (x50_2 : Int).toNat ((wrap64 (x50_2 + 1)) : Int).toNat))) ∧ w'.cell? ⟨gb227, 1, none⟩ = some (u228001) ∧ w'.cell? ⟨gb227, 2, none⟩ = some (.slice Ao49 t253.length co49)) (ds := [8]) (mk_ 9 0) (by kernel_rfl) rfl rfl ⟨(blk_cell BK227.out 0).trans rfl, (blk_cell BK227.out 1).trans rfl, (blk_cell BK227.out 2).trans rfl⟩ (fun hHeld => ?_); refine with_tabW spec_l2Font.tab15 spec_l2Font.bits15 (fun HT_ HW_ => ?_)
            generalize w62.drew = w63 at HO_228001 HO_228002 BK226 BK227 HI0 HK HB hHeld ⊢
            refine pu_ 0 (some 61) (mk_ 9 1) HT_.out ?_
            refine pu_ 2 (some 63) (mk_ 9 5) HT_.out ?_
            refine ta_ 1 (some 62) (mk_ 9 7) HT_.out HW_.out hHeld (hy := by rintro w' ⟨s0, s1, s2⟩; go_simp; with_reducible rfl) (h := ?_)
            refine on_ 3 (some 64) (mk_ 9 15) HT_.out fun K hK => ?_
            refine goes_ Try.func73 (by kernel_rfl) rfl #[.pointer (some ⟨g, 0, none⟩), .int .i64 20] (by rfl) rfl rfl ar_ ?_
            with_reducible refine (spec_l01Below.calls g s0_0 x1001_2 x1002_2 20 t257 t258 t259 w0 _ ?side1 ?side2 A58.out).mono ?_
            (case side1 => exact iz2_ HI0.out NB0_226.out NB0_227.out)
            (case side2 => exact bw3_ HB.out (IsS99.ge HI0.out) GE226.out GE227.out)
            rintro e w64 ⟨rfl, hi, hb, hk⟩
            refine ⟨_, rfl, ?_⟩
            have z_ := t7_ (Kd.R_mono (Kd.R_keep (IsS99.apart (show IsS99 w0 _ g s0_0 x1001_2 x1002_2 from iz2_ HI0.out NB0_226.out NB0_227.out) (kR_ HO_228001.out) (by decide)) hk (fun _ h => h.2)) (fun _ h => h.1)) (Kd.R_mono (Kd.R_keep (IsS99.apart (show IsS99 w0 _ g s0_0 x1001_2 x1002_2 from iz2_ HI0.out NB0_226.out NB0_227.out) (kR_ HO_228002.out) (by decide)) hk (fun _ h => h.2)) (fun _ h => h.1)) (KeepBut.blk hk (bk_ BK226.out) NB226_0.out (by simp)) (KeepBut.blk hk (bk_ BK227.out) NB227_0.out (by simp)) (kT_ (ki2_ HK.out GW226.out GW227.out) hk (.inl rfl)) hb hi
            clear HI0 HB HK BK227 BK226 HO_228002 HO_228001
            obtain ⟨HO_228001, HO_228002, BK226, BK227, HK, HB, HI0⟩ := z_
            (try clear hi hk hb)
            refine hK.out _ _ ⟨(blk_cell BK227.out 0).trans rfl, (blk_cell BK227.out 1).trans rfl, (blk_cell BK227.out 2).trans rfl⟩ (fun hHeld => ?_)
            clear hK K
            refine norm_ (a' := ?_) ?_ ?_
            rotate_left
            ·show Act.put _ (some 64) _ = _
             simp only [Act.put, lA_, lB_, lC_, i64_w, i32_w]
             rfl
            refine pu_ 4 (some 65) (mk_ 9 31) HT_.out ?_
            refine on_ 5 (some 66) (mk_ 9 63) HT_.out fun K hK => ?_
            refine value_ (w1 := ?_) (v := ?_) (by rfl) rfl ?_ ?_
            rotate_left 2
            ·go_simp
             constructor
             ·rfl
             ·rfl
            refine hK.out _ _ ⟨(blk_cell (blk_alloc BK227.out _) 0).trans rfl, (blk_cell (blk_alloc BK227.out _) 1).trans rfl, (blk_cell (blk_alloc BK227.out _) 2).trans rfl⟩ (fun hHeld => ?_)
            clear hK K
            refine norm_ (a' := ?_) ?_ ?_
            rotate_left
            ·show Act.put _ (some 66) _ = _
             simp only [Act.put, lA_, lB_, lC_, i64_w, i32_w]
             rfl
            refine on_ 6 (some 67) (mk_ 9 127) HT_.out fun K hK => ?_
            refine Kd.R_append_step (Kd.int .i64) w.heap.size (by rfl) (.tmp 62) (.tmp 66) 23 3 (.int .i64 0) 8 rfl Try.underlying23 info3 rfl (by decide) (by omega) u228001 x228001_2 (wrap64 (1 + t257)) [.int .i64 (wrap64 (1 + t257))] (fun k_ => some k_ ≠ (.slice Ao49 t253.length co49 : Value).ownBlock) (fun _ => False) rfl rfl ?aP (fun _ hk => hk.elim) ?aF ?aO (Below.refl _ _) ?aS ?aL ?_
            (case aP => exact rfl)
            (case aF => exact (fun k_ hk => Kd.fresh' (Kd.R_lt (kR_ HO_228002.out)) k_ hk))
            (case aO => exact (kR_ HO_228001.out))
            (case aS => exact (keep_size (w := w) (g := g) (row := none) (ki2_ HK.out GW226.out GW227.out)))
            (case aL => have := LMc59.out; omega)
            intro v261 w65 ho hb hg hat
            rw [← Ny260.out] at ho
            have z_ := t7_ (Kd.R_after (ok := (fun _ => True)) (by refine kR_ ?_; exact Kd.R_mono HO_228002.out (fun _ hk => ⟨trivial, hk⟩)) hg hat) (blk_grown (g := gb226) (o := .cells #[.string (⟨#[]⟩ : ByteArray), .slice none 0 0, .slice none 0 0] 25 (0, 0)) (bk_ BK226.out) hg (Kd.R_ne HO_228001.out BK226.out (by decide))) (blk_grown (g := gb227) (o := .cells #[.string (x228000_2 ++ ((⟨#[97, 101, 110, 111, 114, 116, 105, 46, 44, 104, 115, 100, 108, 117, 99, 109, 102, 119, 45, 103, 121, 112, 98, 118, 107, 113, 120, 106, 122, 33, 40, 41, 48, 49, 50, 51, 52, 53, 54, 55]⟩ : ByteArray).extract (x50_2 : Int).toNat ((wrap64 (x50_2 + 1)) : Int).toNat)), u228001, .slice Ao49 t253.length co49] 25 (0, 0)) (bk_ BK227.out) hg (Kd.R_ne HO_228001.out BK227.out (by decide))) (IsS99.grown (iz2_ HI0.out NB0_226.out NB0_227.out) hg (IsS99.own_ne HI0.out HO_228001.out (by decide))) (below_weaken (bw3_ HB.out (IsS99.ge HI0.out) GE226.out GE227.out) HL.out hb) (kT_ (ki2_ HK.out GW226.out GW227.out) (KeepBut.of_grown hg g) (Kd.R_base2 HO_228001.out)) ho
            clear HO_228001 HK HB HI0 BK227 BK226 HO_228002
            obtain ⟨HO_228002, BK226, BK227, HI0, HB, HK, HO262⟩ := z_
            clear ho hb hg hat
            obtain ⟨Ao66, co66, eo66⟩ := Kd.R_slice HO262.out
            (first | subst eo66 | (injection eo66 with f1_ f2_ f3_; have f4_ := f1_.symm; have f5_ := f3_.symm; clear f1_ f2_ f3_; subst f4_; subst f5_))
            refine hK.out _ _ ⟨(blk_cell BK227.out 0).trans rfl, (blk_cell BK227.out 1).trans rfl, (blk_cell BK227.out 2).trans rfl⟩ (fun hHeld => ?_)
            clear hK K
            refine norm_ (a' := ?_) ?_ ?_
            rotate_left
            ·show Act.put _ (some 67) _ = _
             simp only [Act.put, lA_, lB_, lC_, i64_w, i32_w]
             rfl
            refine pu_ 7 (some 68) (mk_ 9 255) HT_.out ?_
            refine la_ 8 none (mk_ 9 511) HT_.out fun K hK => ?_
            have hs67 := cz_ BK227.out 1 (u228001)
            have hfs67 := fz_ BK227.out 1
            have hns67_0 := NB226_227.out
            have hms67_0 := NB227_226.out
            refine skip_ (w1 := ?_) (by rfl) rfl ?_ ?_
            rotate_left
            ·go_simp
             rfl
            refine hK.out _ _ ?_
            clear hK K
            refine done_ (done_of HT_.out (by kernel_rfl)) ?_
            try go_wp2
            go_roundg k2
            case measure => have := HK1.out; have := HK2.out; omega
            case rel => exact ⟨(wrap64 (x50_2 + 1)), (t258), (t259), (x228000_2 ++ ((⟨#[97, 101, 110, 111, 114, 116, 105, 46, 44, 104, 115, 100, 108, 117, 99, 109, 102, 119, 45, 103, 121, 112, 98, 118, 107, 113, 120, 106, 122, 33, 40, 41, 48, 49, 50, 51, 52, 53, 54, 55]⟩ : ByteArray).extract (x50_2 : Int).toNat ((wrap64 (x50_2 + 1)) : Int).toNat)), (y260), (.slice Ao66 y260.length co66), (by first | rfl | (simp; done) | (simp [*]; done)), H', ⟨by have := HK1.out; have := HK2.out; omega⟩, ⟨by refine kR_ ?_; exact Kd.R_mono (Kd.R_far (p := ⟨gb227, 1, none⟩) (Kd.R_types HO262.out BK227.out (by decide)) (fun _ hk => hk.2) (.slice Ao66 y260.length co66)) (fun _ hk => hk.1)⟩, ⟨by refine kR_ ?_; exact Kd.R_mono (Kd.R_far (p := ⟨gb227, 1, none⟩) (Kd.R_types HO_228002.out BK227.out (by decide)) (fun _ hk => hk.2) (.slice Ao66 y260.length co66)) (fun _ hk => hk.1.2)⟩, ⟨by refine bk_ ?_; refine blk_far ?_ NB226_227.out _; refine bk_ ?_; exact BK226.out⟩, ⟨by refine bk_ ?_; refine blk_put (cs := #[.string (x228000_2 ++ ((⟨#[97, 101, 110, 111, 114, 116, 105, 46, 44, 104, 115, 100, 108, 117, 99, 109, 102, 119, 45, 103, 121, 112, 98, 118, 107, 113, 120, 106, 122, 33, 40, 41, 48, 49, 50, 51, 52, 53, 54, 55]⟩ : ByteArray).extract (x50_2 : Int).toNat ((wrap64 (x50_2 + 1)) : Int).toNat)), u228001, .slice Ao49 t253.length co49]) ?_ 1 _ rfl; refine bk_ ?_; exact BK227.out⟩, ⟨iz2_ HI0.out NB0_226.out NB0_227.out⟩, ⟨ki2_ HK.out GW226.out GW227.out⟩, ⟨bw3_ HB.out (IsS99.ge HI0.out) GE226.out GE227.out⟩⟩
           ·rw [if_neg c59] at H
            exact absurd H (by simp)
          ·rw [if_neg c57] at H
           exact absurd H (by simp)
         ·rw [if_neg c56] at H
          exact absurd H (by simp)
        ·rw [if_neg c55] at H
         exact absurd H (by simp)
       ·rw [if_neg c54] at H
        exact absurd H (by simp)
      ·rw [if_neg c53] at H
       have c53b0 := decide_eq_false c53
       clear c53
       simp only [Option.some.injEq, Prod.mk.injEq] at H
       obtain ⟨rfl, rfl, rfl, rfl, rfl⟩ := H
       have hnb68 := NB227_226.out
       have hnc68 := NB226_227.out
       have hnb69 := NB227_0.out
       have hnc69 := NB0_227.out
       have hcz70_0 : wr.cell? ⟨gb227, 0, none⟩ = some (.string x228000_2) := (blk_cell BK227.out 0).trans rfl
       have hcz70_1 : wr.cell? ⟨gb227, 1, none⟩ = some (u228001) := (blk_cell BK227.out 1).trans rfl
       have hcz70_2 : wr.cell? ⟨gb227, 2, none⟩ = some (.slice Ao49 t253.length co49) := (blk_cell BK227.out 2).trans rfl
       have hfz70_0 := fz_ BK227.out 0
       have hfz70_1 := fz_ BK227.out 1
       have hfz70_2 := fz_ BK227.out 2
       have hnb71 := NB226_0.out
       have hnc71 := NB0_226.out
       have hcz72_0 : wr.cell? ⟨gb226, 0, none⟩ = some (.string (⟨#[]⟩ : ByteArray)) := (blk_cell BK226.out 0).trans rfl
       have hcz72_1 : wr.cell? ⟨gb226, 1, none⟩ = some (.slice none 0 0) := (blk_cell BK226.out 1).trans rfl
       have hcz72_2 : wr.cell? ⟨gb226, 2, none⟩ = some (.slice none 0 0) := (blk_cell BK226.out 2).trans rfl
       have hfz72_0 := fz_ BK226.out 0
       have hfz72_1 := fz_ BK226.out 1
       have hfz72_2 := fz_ BK226.out 2
       obtain ⟨Ao73, co73, eo73⟩ := Kd.R_slice HO_228001.out
       subst eo73
       go_wp2
       refine bodyPost_ret (results_cell_row rfl _ _ gb226 25 #[.string x228000_2, .slice Ao73 x228001_2.length co73, .slice Ao49 t253.length co49] (0, 0) _ rfl (by refine bk_ ?_; refine blk_put (cs := #[.string x228000_2, .slice Ao73 x228001_2.length co73, .slice none 0 0]) ?_ 2 _ rfl; refine bk_ ?_; refine blk_put (cs := #[.string x228000_2, .slice none 0 0, .slice none 0 0]) ?_ 1 _ rfl; refine bk_ ?_; refine blk_put (cs := #[.string (⟨#[]⟩ : ByteArray), .slice none 0 0, .slice none 0 0]) ?_ 0 _ rfl; refine bk_ ?_; exact BK226.out) Try.underlying25 rfl (by kernel_rfl)) rfl ?_
       exact ⟨_, _, rb_, by refine kR_ ?_; exact Kd.R_mono (Kd.R_far (p := ⟨gb226, 2, none⟩) (Kd.R_far (p := ⟨gb226, 1, none⟩) (Kd.R_far (p := ⟨gb226, 0, none⟩) (Kd.R_types HO_228001.out BK226.out (by decide)) (fun _ hk => hk.2) (.string x228000_2)) (fun _ hk => hk.2) (.slice Ao73 x228001_2.length co73)) (fun _ hk => hk.2) (.slice Ao49 t253.length co49)) (fun _ hk => hk.1), by refine kR_ ?_; exact Kd.R_mono (Kd.R_far (p := ⟨gb226, 2, none⟩) (Kd.R_far (p := ⟨gb226, 1, none⟩) (Kd.R_far (p := ⟨gb226, 0, none⟩) (Kd.R_types HO_228002.out BK226.out (by decide)) (fun _ hk => hk.2) (.string x228000_2)) (fun _ hk => hk.2) (.slice Ao73 x228001_2.length co73)) (fun _ hk => hk.2) (.slice Ao49 t253.length co49)) (fun _ hk => hk.1), iz2_ HI0.out NB0_226.out NB0_227.out, bw3_ HB.out (IsS99.ge HI0.out) GE226.out GE227.out, ki2_ HK.out GW226.out GW227.out⟩

end Go.Proofs.Ytilbngklgjjblaa.Q
