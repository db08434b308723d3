/- Contracts of Go functions over this translation. Conditions: those that each theorem names. -/
import Derived.Test.YtilbngklgjjblaaQ0
import Derived.Test.YtilbngklgjjblaaQ10
import Derived.Test.YtilbngklgjjblaaQ15
import Derived.Test.YtilbngklgjjblaaQ16
import Derived.Test.YtilbngklgjjblaaQ17
namespace Go.Proofs.Ytilbngklgjjblaa.Q
open Go.RowKit Go.Proofs.YtilbngklgjjblaaW.PrintWords Go.Proofs.YtilbngklgjjblaaW.PrintLast Go.Proofs.YtilbngklgjjblaaW.PrintMore
attribute [local go_sem] max2_int min2_int max_two min_two max_three min_three max_four min_four
set_option linter.unusedVariables false
set_option linter.unusedSimpArgs false

mutual
def spec_l2Both.j0 : Nat → List (List (S30)) → Bool → List Int → Int → Int → ByteArray → List Int → List Int → Option (ByteArray × List Int × List Int × (List (List (S30))) × Int × Int)
  | 0, _, _, _, _, _, _, _, _ => none
  | k + 1, x5, x18, x1000, x1001, x1002, x381000, x381001, x381002 => if x18 = true then ((spec_l01Below.f x1000 x1001 x1002 (x5.length : Int)).bind fun bt389 => ((spec_l01Below.f x1000 bt389.2.1 bt389.2.2 3).bind fun bt392 => (if bt392.1 = 0 then (if 0 ≤ bt389.1 then (if bt389.1 < (x5.length : Int) then ((spec_l01Below.f x1000 bt392.2.1 bt392.2.2 12).bind fun bt396 => (if (rd_L2 x5 bt389.1).length < 8796093022208 then (some (x381000, x381001, x381002, (x5.set (bt389.1 : Int).toNat ((rd_L2 x5 bt389.1) ++ [(⟨wrap64 (bt396.1 - 1), 127⟩ : S30)])), bt396.2.1, bt396.2.2)) else (none))) else (none)) else (none)) else (if bt392.1 = 1 then (if 0 ≤ (wrap64 ((x5.length : Int) - 1)) then (if (wrap64 ((x5.length : Int) - 1)) ≤ (x5.length : Int) then (some (x381000, x381001, x381002, (x5.take ((wrap64 ((x5.length : Int) - 1)) : Int).toNat), bt392.2.1, bt392.2.2)) else (none)) else (none)) else (spec_l2Both.l0 k x5 bt389.1 x1000 bt392.2.1 bt392.2.2 x381000 x381001 x381002))))) else (some (x381000, x381001, x381002, x5, x1001, x1002))
def spec_l2Both.l0 : Nat → List (List (S30)) → Int → List Int → Int → Int → ByteArray → List Int → List Int → Option (ByteArray × List Int × List Int × (List (List (S30))) × Int × Int)
  | 0, _, _, _, _, _, _, _, _ => none
  | k + 1, x5, x6, x1000, x1001, x1002, x381000, x381001, x381002 => if 0 ≤ x6 then (if x6 < (x5.length : Int) then (if ((rd_L2 x5 x6).length : Int) < 21 then (if (rd_L2 x5 x6).length < 8796093022208 then (spec_l2Both.l0 k (x5.set (x6 : Int).toNat ((rd_L2 x5 x6) ++ [(⟨0, 0⟩ : S30)])) x6 x1000 x1001 x1002 x381000 x381001 x381002) else (none)) else (some (x381000, x381001, x381002, x5, x1001, x1002))) else (none)) else (none)
end
def spec_l2Both.f (k : Nat) (s0_0 : List Int) (s0_1 : Int) (s0_2 : Int) : Option (ByteArray × List Int × List Int × (List (List (S30))) × Int × Int) := (spec_l2Any.f k s0_0 s0_1 s0_2).bind fun bt371 => ((spec_l2Stock.f k s0_0 bt371.2.2.2.1 bt371.2.2.2.2 bt371.1 bt371.2.1 bt371.2.2.1).bind fun bt381 => (if (bt381.1.length : Int) > 0 then ((spec_l01Once.f s0_0 bt381.2.1 bt381.2.2 20).bind fun bt386 => (spec_l2Both.j0 k bt381.1 bt386.1 s0_0 bt386.2.1 bt386.2.2 bt371.1 bt371.2.1 bt371.2.2.1)) else (spec_l2Both.j0 k bt381.1 false s0_0 bt381.2.1 bt381.2.2 bt371.1 bt371.2.1 bt371.2.2.1)))
theorem spec_l2Both.mono_l : ∀ k, (∀ y0 y1 y2 y3 y4 y5 y6 y7, LeO (spec_l2Both.j0 k y0 y1 y2 y3 y4 y5 y6 y7) (spec_l2Both.j0 (k + 1) y0 y1 y2 y3 y4 y5 y6 y7)) ∧ (∀ y0 y1 y2 y3 y4 y5 y6 y7, LeO (spec_l2Both.l0 k y0 y1 y2 y3 y4 y5 y6 y7) (spec_l2Both.l0 (k + 1) y0 y1 y2 y3 y4 y5 y6 y7))
  | 0 => ⟨fun _ _ _ _ _ _ _ _ r h => by simp [spec_l2Both.j0] at h, fun _ _ _ _ _ _ _ _ r h => by simp [spec_l2Both.l0] at h⟩
  | k + 1 => by
    obtain ⟨ih0, ih1⟩ := spec_l2Both.mono_l k
    refine ⟨?_, ?_⟩ <;> intros <;> (first | unfold spec_l2Both.j0 | unfold spec_l2Both.l0) <;> repeat' first | (with_reducible first | exact ih0 _ _ _ _ _ _ _ _ | exact ih1 _ _ _ _ _ _ _ _ | exact spec_l2Any.mono _ _ _ _ | exact spec_l2Stock.mono _ _ _ _ _ _ _ | exact LeO.refl _ | exact LeO.none _ | refine LeO.ite ?_ ?_ | refine LeO.bind ?_ (fun _ => ?_)) | exact ih0 _ _ _ _ _ _ _ _ | exact ih1 _ _ _ _ _ _ _ _ | exact spec_l2Any.mono _ _ _ _ | exact spec_l2Stock.mono _ _ _ _ _ _ _ | exact LeO.none _ | refine LeO.ite ?_ ?_ | refine LeO.bind ?_ (fun _ => ?_)
theorem spec_l2Both.mono : ∀ a0 a1 a2 k, LeO (spec_l2Both.f k a0 a1 a2) (spec_l2Both.f (k + 1) a0 a1 a2) := by
 intro a0 a1 a2 k
 obtain ⟨ih0, ih1⟩ := spec_l2Both.mono_l k
 unfold spec_l2Both.f
 repeat' first | (with_reducible first | exact ih0 _ _ _ _ _ _ _ _ | exact ih1 _ _ _ _ _ _ _ _ | exact spec_l2Any.mono _ _ _ _ | exact spec_l2Stock.mono _ _ _ _ _ _ _ | exact LeO.refl _ | exact LeO.none _ | refine LeO.ite ?_ ?_ | refine LeO.bind ?_ (fun _ => ?_)) | exact ih0 _ _ _ _ _ _ _ _ | exact ih1 _ _ _ _ _ _ _ _ | exact spec_l2Any.mono _ _ _ _ | exact spec_l2Stock.mono _ _ _ _ _ _ _ | exact LeO.none _ | refine LeO.ite ?_ ?_ | refine LeO.bind ?_ (fun _ => ?_)
def spec_l2Both.T9 : Bool × List (List Nat × List Nat) := (true, [([], []), ([], []), ([], []), ([], []), ([2, 3], [2, 3]), ([4], [4]), ([], []), ([6], [6]), ([7], [7]), ([8], [8]), ([9], [9]), ([5, 10, 7], [5, 10]), ([0, 1, 0, 1, 2, 3, 4, 5, 6, 7, 8, 9, 10, 11], [0, 1]), ([12, 11, 11, 0, 1, 2, 3, 4, 5, 6, 7, 8, 9, 10, 11], [11, 12])])
def spec_l2Both.B9 : List Nat := [0, 0, 0, 0, 12, 28, 0, 64, 192, 448, 960, 2044, 4095, 8191]
theorem spec_l2Both.tab9 : rtab .any (opsOf Try.f72 9) = spec_l2Both.T9 := by kernel_rfl
theorem spec_l2Both.bits9 : waitsOk spec_l2Both.T9.2 spec_l2Both.B9 = true := by kernel_rfl
set_option maxHeartbeats 8000000 in
set_option maxRecDepth 100000 in
theorem spec_l2Both.calls (k : Nat) (g : Nat) (s0_0 : List Int) (s0_1 : Int) (s0_2 : Int) (r1 : ByteArray) (r2 : List Int) (r3 : List Int) (r4 : List (List (S30))) (r5 : Int) (r6 : Int) (w0 w : World) (hI : IsS99 w0 w g s0_0 s0_1 s0_2) (hB : Below w0.heap.size w0 w) (h : spec_l2Both.f k s0_0 s0_1 s0_2 = some (r1, r2, r3, r4, r5, r6)) :
    Calls Try.prog 72 #[.pointer (some ⟨g, 0, none⟩)] w fun e w' => ∃ v1_ v2_ v3_ : Value, e = .returned (.tuple #[.agg #[.string r1, v1_, v2_], v3_]) ∧ Kd.R (Kd.int .i64) 3 w' w.heap.size (fun k_ => some k_ ≠ (v2_ : Value).ownBlock) v1_ r2 ∧ Kd.R (Kd.int .i64) 3 w' w.heap.size (fun k_ => some k_ ≠ (v1_ : Value).ownBlock) v2_ r3 ∧ Kd.S (Kd.slice 30 k30) 34 w' w.heap.size (fun _ => True) v3_ r4 ∧ IsS99 w0 w' g s0_0 r5 r6 ∧ Below w0.heap.size w0 w' ∧ KeepBut w w' g none := by
 have hu25 := Try.underlying25
 have hu30 := Try.underlying30
 have HI0 := M_ hI
 have HK := M_ (KeepBut.refl w g none)
 have HL := M_ hB.size
 clear hI
 have HW0 := M_ hB.size
 have HB := M_ hB
 clear hB
 have H : ((spec_l2Any.f k s0_0 s0_1 s0_2).bind fun bt371 => ((spec_l2Stock.f k s0_0 bt371.2.2.2.1 bt371.2.2.2.2 bt371.1 bt371.2.1 bt371.2.2.1).bind fun bt381 => (if (bt381.1.length : Int) > 0 then ((spec_l01Once.f s0_0 bt381.2.1 bt381.2.2 20).bind fun bt386 => (spec_l2Both.j0 k bt381.1 bt386.1 s0_0 bt386.2.1 bt386.2.2 bt371.1 bt371.2.1 bt371.2.2.1)) else (spec_l2Both.j0 k bt381.1 false s0_0 bt381.2.1 bt381.2.2 bt371.1 bt371.2.1 bt371.2.2.1)))) = some (r1, r2, r3, r4, r5, r6) := h
 clear h
 replace H := bs_ H
 obtain ⟨⟨t371, t372, t375, t378, t379⟩, A20, H⟩ := H
 dsimp only at H
 have A2 := M_ A20
 clear A20
 replace H := bs_ H
 obtain ⟨⟨t381, t384, t385⟩, A30, H⟩ := H
 dsimp only at H
 have A3 := M_ A30
 clear A30
 have HC4 := M_ H
 clear H
 go_enter Try.func72, Try.ntmps72
 go_upto_region 3 with (first | ((with_reducible refine gate_dst (N := 2) rfl ?_); refine be_ 2 #[.string (⟨#[]⟩ : ByteArray), .slice none 0 0, .slice none 0 0] 25 ?_; intro gb370 hg w5 hbox hb; have z_ := t6_ (IsS99.below (iz0_ HI0.out) hb) (kT_ (ki0_ HK.out) (kO_ hb g none) (.inl rfl)) (bS_ (bw1_ HB.out (IsS99.ge HI0.out)) hb) hbox (gw_ g hg (ki0_ HK.out) : w.heap.size ≤ gb370) (by rw [hg]; exact Nat.ne_of_lt (IsS99.lt (show IsS99 w0 _ g s0_0 s0_1 s0_2 from iz0_ HI0.out)) : g ≠ gb370); clear HB HK HI0; obtain ⟨HI0, HK, HB, BK370, GW370, NB0_370⟩ := z_; have GE370 := M_ (Nat.le_trans HW0.out GW370.out); have NB370_0 := M_ NB0_370.out.symm; clear hb hbox hg) | ((with_reducible refine gate_callee (f := 94) rfl ?_); refine gl_ (some 8) Try.func94 #[.pointer (some ⟨g, 0, none⟩)] ?_; (with_reducible refine (spec_l2Any.calls k g s0_0 s0_1 s0_2 t371 t372 t375 t378 t379 w0 _ ?side1 ?side2 A2.out).mono ?_); (case side1 => exact iz1_ HI0.out NB0_370.out); (case side2 => exact bw2_ HB.out (IsS99.ge HI0.out) GE370.out); rintro e w6 ⟨v373, v376, rfl, ho0, ho1, hi, hb, hk⟩; refine ⟨_, rfl, ?_⟩; have z_ := t6_ (KeepBut.blk hk (bk_ BK370.out) NB370_0.out (by simp)) (Kd.R_lower ho0 (keep_size (w := w) (g := g) (row := none) (ki1_ HK.out GW370.out))) (Kd.R_lower ho1 (keep_size (w := w) (g := g) (row := none) (ki1_ HK.out GW370.out))) (kT_ (ki1_ HK.out GW370.out) hk (.inl rfl)) hb hi; clear HI0 HB HK BK370; obtain ⟨BK370, HO374, HO377, HK, HB, HI0⟩ := z_; (try clear ho1 ho0 hi hk hb)) | ((with_reducible refine gate_dst (N := 4) rfl ?_); refine be_ 4 #[.string (⟨#[]⟩ : ByteArray), .slice none 0 0, .slice none 0 0] 25 ?_; intro gb380 hg w7 hbox hb; have z_ := t10_ (rB_ (kR_ HO374.out) hb) (rB_ (kR_ HO377.out) hb) (IsS99.below (iz1_ HI0.out NB0_370.out) hb) (bB_ (bk_ BK370.out) hb) (kT_ (ki1_ HK.out GW370.out) (kO_ hb g none) (.inl rfl)) (bS_ (bw2_ HB.out (IsS99.ge HI0.out) GE370.out) hb) hbox (gw_ g hg (ki1_ HK.out GW370.out) : w.heap.size ≤ gb380) (by rw [hg]; exact Nat.ne_of_lt (blk_lt (bk_ BK370.out)) : gb370 ≠ gb380) (by rw [hg]; exact Nat.ne_of_lt (IsS99.lt (show IsS99 w0 _ g s0_0 t378 t379 from iz1_ HI0.out NB0_370.out)) : g ≠ gb380); clear HB HK BK370 HI0 HO377 HO374; obtain ⟨HO374, HO377, HI0, BK370, HK, HB, BK380, GW380, NB370_380, NB0_380⟩ := z_; have GE380 := M_ (Nat.le_trans HW0.out GW380.out); have NB380_370 := M_ NB370_380.out.symm; have NB380_0 := M_ NB0_380.out.symm; clear hb hbox hg; have hnb8 := NB380_370.out; have hnc8 := NB370_380.out; have hnb9 := NB380_0.out; have hnc9 := NB0_380.out; have hcz10_0 := cz_ BK380.out 0 (.string (⟨#[]⟩ : ByteArray)); have hcz10_1 := cz_ BK380.out 1 (.slice none 0 0); have hcz10_2 := cz_ BK380.out 2 (.slice none 0 0); have hfz10_0 := fz_ BK380.out 0; have hfz10_1 := fz_ BK380.out 1; have hfz10_2 := fz_ BK380.out 2; obtain ⟨Ao11, co11, eo11⟩ := Kd.R_slice HO374.out; subst eo11; obtain ⟨Ao12, co12, eo12⟩ := Kd.R_slice HO377.out; subst eo12) | ((with_reducible refine gate_callee (f := 99) rfl ?_); refine gl_ (some 11) Try.func99 #[.pointer (some ⟨g, 0, none⟩), .agg #[.string t371, .slice Ao11 t372.length co11, .slice Ao12 t375.length co12]] ?_; (with_reducible refine (spec_l2Stock.calls k g s0_0 t378 t379 t371 _ _ t372 _ _ t375 t381 t384 t385 w0 _ ?side1 ?side2 ?side3 ?side4 ?side5 ?side6 ?side7 ?side8 A3.out).mono ?_); (case side1 => exact iz2_ HI0.out NB0_370.out NB0_380.out); (case side2 => exact bw3_ HB.out (IsS99.ge HI0.out) GE370.out GE380.out); (case side3 => refine (Kd.R_reads' (e := 3) (base := w.heap.size) (ok := fun k_ => some k_ ≠ (.slice Ao12 t375.length co12 : Value).ownBlock) (n := t372.length) (c := co11) ?_).2.2; exact (by refine kR_ ?_; exact (fR3_ HO374.out BK380.out))); (case side4 => exact (Kd.R_reads' HO374.out).2.1); (case side5 => exact far_slice (IsS99.own_ne HI0.out HO374.out (by decide))); (case side6 => refine (Kd.R_reads' (e := 3) (base := w.heap.size) (ok := fun k_ => some k_ ≠ (.slice Ao11 t372.length co11 : Value).ownBlock) (n := t375.length) (c := co12) ?_).2.2; exact (by refine kR_ ?_; exact (fR3_ HO377.out BK380.out))); (case side7 => exact (Kd.R_reads' HO377.out).2.1); (case side8 => exact far_slice (IsS99.own_ne HI0.out HO377.out (by decide))); rintro e w13 ⟨v382, rfl, ho0, hi, hb, hk⟩; refine ⟨_, rfl, ?_⟩; have z_ := t8_ (KeepBut.blk hk (g' := gb370) (o := .cells #[.string (⟨#[]⟩ : ByteArray), .slice none 0 0, .slice none 0 0] 25 (0, 0)) (by refine bk_ ?_; refine blk_far ?_ NB370_380.out _; refine bk_ ?_; refine blk_far ?_ NB370_380.out _; refine bk_ ?_; refine blk_far ?_ NB370_380.out _; refine bk_ ?_; exact BK370.out) NB370_0.out (by simp)) (Kd.R_mono (Kd.R_keep (IsS99.apart (show IsS99 w0 _ g s0_0 t378 t379 from iz2_ HI0.out NB0_370.out NB0_380.out) (by refine kR_ ?_; exact (fR3_ HO374.out BK380.out)) (by decide)) hk (fun _ h => h.2)) (fun _ h => h.1)) (Kd.R_mono (Kd.R_keep (IsS99.apart (show IsS99 w0 _ g s0_0 t378 t379 from iz2_ HI0.out NB0_370.out NB0_380.out) (by refine kR_ ?_; exact (fR3_ HO377.out BK380.out)) (by decide)) hk (fun _ h => h.2)) (fun _ h => h.1)) (KeepBut.blk hk (g' := gb380) (o := .cells #[.string t371, .slice Ao11 t372.length co11, .slice Ao12 t375.length co12] 25 (0, 0)) (by refine bk_ ?_; refine blk_put (cs := #[.string t371, .slice Ao11 t372.length co11, .slice none 0 0]) ?_ 2 _ rfl; refine bk_ ?_; refine blk_put (cs := #[.string t371, .slice none 0 0, .slice none 0 0]) ?_ 1 _ rfl; refine bk_ ?_; refine blk_put (cs := #[.string (⟨#[]⟩ : ByteArray), .slice none 0 0, .slice none 0 0]) ?_ 0 _ rfl; refine bk_ ?_; exact BK380.out) NB380_0.out (by simp)) (Kd.S_lower ho0 (keep_size (w := w) (g := g) (row := none) (ki2_ HK.out GW370.out GW380.out))) (kT_ (ki2_ HK.out GW370.out GW380.out) hk (.inl rfl)) hb hi; clear HI0 HB HK BK380 HO377 HO374 BK370; obtain ⟨BK370, HO374, HO377, BK380, HO383, HK, HB, HI0⟩ := z_; (try clear ho0 hi hk hb)))
 (try simp only [Act.put, lA_, lB_, lC_])
 go_cut [18] (fun v18 wc => ∃ (kq : Nat) (x18_3 : Bool) (x1001_3 : Int) (x1002_3 : Int), v18 = .bool x18_3 ∧ Aside0 (spec_l2Both.j0 kq t381 x18_3 s0_0 x1001_3 x1002_3 t371 t372 t375 = some (r1, r2, r3, r4, r5, r6)) ∧ Aside0 (kq ≤ k) ∧ Aside0 (Kd.S (Kd.slice 30 k30) 34 wc w.heap.size (fun _ => True) v382 t381) ∧ Aside0 (Kd.R (Kd.int .i64) 3 wc w.heap.size (fun k_ => some k_ ≠ ((.slice Ao12 t375.length co12) : Value).ownBlock) (.slice Ao11 t372.length co11) t372) ∧ Aside0 (Kd.R (Kd.int .i64) 3 wc w.heap.size (fun k_ => some k_ ≠ ((.slice Ao11 t372.length co11) : Value).ownBlock) (.slice Ao12 t375.length co12) t375) ∧ Aside0 (wc.heap[gb370]? = some (.cells #[.string (⟨#[]⟩ : ByteArray), (.slice none 0 0), (.slice none 0 0)] 25 (0, 0))) ∧ Aside0 (wc.heap[gb380]? = some (.cells #[.string t371, (.slice Ao11 t372.length co11), (.slice Ao12 t375.length co12)] 25 (0, 0))) ∧ Aside0 (IsS99 w0 wc g s0_0 x1001_3 x1002_3) ∧ Aside0 (KeepBut w wc g none) ∧ Aside0 (Below w0.heap.size w0 wc))
 case first =>
  have H := HC4.out
  clear HC4
  by_cases c14 : (t381.length : Int) > 0
  ·rw [if_pos c14] at H
   have c14b0 : decide (0 < (t381.length : Int)) = true := dt_ c14
   have c14b1 : decide (0 < t381.length) = true := dt_ (by omega)
   clear c14
   (first | rw [c14b0] | (simp only [i64_w, i32_w]; rw [c14b0]) | skip)
   replace H := bs_ H
   obtain ⟨⟨t386, t387, t388⟩, A150, H⟩ := H
   dsimp only at H
   have A15 := M_ A150
   clear A150
   have H' := M_ H
   clear H
   obtain ⟨Ao16, co16, eo16⟩ := Kd.S_slice HO383.out
   subst eo16
   go_wp2_with (first | (go_at_call 100; (with_reducible refine (spec_l01Once.calls g s0_0 t384 t385 20 t386 t387 t388 w0 _ ?side1 ?side2 A15.out).mono ?_); (case side1 => exact iz2_ HI0.out NB0_370.out NB0_380.out); (case side2 => exact bw3_ HB.out (IsS99.ge HI0.out) GE370.out GE380.out); rintro e w17 ⟨rfl, hi, hb, hk⟩; have z_ := t8_ (KeepBut.blk hk (bk_ BK370.out) NB370_0.out (by simp)) (Kd.R_mono (Kd.R_keep (IsS99.apart (show IsS99 w0 _ g s0_0 t384 t385 from iz2_ HI0.out NB0_370.out NB0_380.out) (kR_ HO374.out) (by decide)) hk (fun _ h => h.2)) (fun _ h => h.1)) (Kd.R_mono (Kd.R_keep (IsS99.apart (show IsS99 w0 _ g s0_0 t384 t385 from iz2_ HI0.out NB0_370.out NB0_380.out) (kR_ HO377.out) (by decide)) hk (fun _ h => h.2)) (fun _ h => h.1)) (KeepBut.blk hk (bk_ BK380.out) NB380_0.out (by simp)) (Kd.S_mono (Kd.S_keep (IsS99.apartS (show IsS99 w0 _ g s0_0 t384 t385 from iz2_ HI0.out NB0_370.out NB0_380.out) (kS_ HO383.out) (by decide)) hk (fun _ h => h.2)) (fun _ h => h.1)) (kT_ (ki2_ HK.out GW370.out GW380.out) hk (.inl rfl)) hb hi; clear HI0 HB HK HO383 BK380 HO377 HO374 BK370; obtain ⟨BK370, HO374, HO377, BK380, HO383, HK, HB, HI0⟩ := z_; (try clear hi hk hb)))
   go_meet
   case rel => exact ⟨_, (t386), (t387), (t388), (by first | rfl | (simp; done) | (simp [*]; done)), H', ⟨by first | omega | exact Nat.le_refl _⟩, ⟨by refine kS_ ?_; exact HO383.out⟩, ⟨by refine kR_ ?_; exact HO374.out⟩, ⟨by refine kR_ ?_; exact HO377.out⟩, ⟨by refine bk_ ?_; exact BK370.out⟩, ⟨by refine bk_ ?_; exact BK380.out⟩, ⟨iz2_ HI0.out NB0_370.out NB0_380.out⟩, ⟨ki2_ HK.out GW370.out GW380.out⟩, ⟨bw3_ HB.out (IsS99.ge HI0.out) GE370.out GE380.out⟩⟩
  ·rw [if_neg c14] at H
   have c14b0 : decide (0 < (t381.length : Int)) = false := decide_eq_false c14
   have c14b1 : decide (0 < t381.length) = false := decide_eq_false (by omega)
   clear c14
   (first | rw [c14b0] | (simp only [i64_w, i32_w]; rw [c14b0]) | skip)
   have H' := M_ H
   clear H
   obtain ⟨Ao18, co18, eo18⟩ := Kd.S_slice HO383.out
   subst eo18
   go_wp2
   go_meet
   case rel => exact ⟨_, (false), (t384), (t385), (by first | rfl | (simp; done) | (simp [*]; done)), H', ⟨by first | omega | exact Nat.le_refl _⟩, ⟨by refine kS_ ?_; exact HO383.out⟩, ⟨by refine kR_ ?_; exact HO374.out⟩, ⟨by refine kR_ ?_; exact HO377.out⟩, ⟨by refine bk_ ?_; exact BK370.out⟩, ⟨by refine bk_ ?_; exact BK380.out⟩, ⟨iz2_ HI0.out NB0_370.out NB0_380.out⟩, ⟨ki2_ HK.out GW370.out GW380.out⟩, ⟨bw3_ HB.out (IsS99.ge HI0.out) GE370.out GE380.out⟩⟩
 case rest =>
  clear HC4
  (try clear hfz10_2 hfz10_1 hfz10_0 hcz10_2 hcz10_1 hcz10_0 c14b1 c14b0 c14 c9 c8 c7 p2 c1)
  obtain ⟨kq, x18_3, x1001_3, x1002_3, rfl, HA, HJ3, HO_5, HO_381001, HO_381002, BK370, BK380, HI0, HK, HB⟩ := hcut
  cases kq with
  | zero => exact absurd HA.out (by simp [spec_l2Both.j0])
  | succ kj3 =>
   have H := HA.out
   clear HA
   simp only [spec_l2Both.j0] at H
   by_cases c19 : x18_3 = true
   ·subst c19
    rw [if_pos rfl] at H
    replace H := bs_ H
    obtain ⟨⟨t389, t390, t391⟩, A200, H⟩ := H
    dsimp only at H
    have A20 := M_ A200
    clear A200
    replace H := bs_ H
    obtain ⟨⟨t392, t393, t394⟩, A210, H⟩ := H
    dsimp only at H
    have A21 := M_ A210
    clear A210
    by_cases c22 : t392 = 0
    ·rw [if_pos c22] at H
     have c22b0 := beq_iff_eq.mpr c22
     have c22b1 := bne_eq_false_iff_eq.mpr c22
     clear c22
     by_cases c23 : 0 ≤ t389
     ·rw [if_pos c23] at H
      have c23b0 := dt_ c23
      clear c23
      by_cases c24 : t389 < (t381.length : Int)
      ·rw [if_pos c24] at H
       have c24b0 := dt_ c24
       clear c24
       replace H := bs_ H
       obtain ⟨⟨t396, t397, t398⟩, A250, H⟩ := H
       dsimp only at H
       have A25 := M_ A250
       clear A250
       by_cases c26 : (rd_L2 t381 t389).length < 8796093022208
       ·rw [if_pos c26] at H
        have LMc26 := M_ c26
        clear c26
        obtain ⟨y399, hy399⟩ : ∃ y_ : List (S30), y_ = ((rd_L2 t381 t389) ++ [(⟨wrap64 (t396 - 1), 127⟩ : S30)]) := ⟨_, rfl⟩
        replace H : (some (t371, t372, t375, (t381.set (t389 : Int).toNat y399), t397, t398)) = some (r1, r2, r3, r4, r5, r6) := by first | (rw [hy399]; with_reducible exact H) | (have H2_ := (Option.bind_some _ _).symm.trans H; rw [hy399]; with_reducible exact H2_) | (have H2_ := (Option.bind_some _ _).symm.trans H; with_reducible exact H2_) | with_reducible exact H | (rw [hy399]; exact H) | exact H
        have Ny399 := M_ hy399
        clear hy399
        obtain ⟨y402, hy402⟩ : ∃ y_ : List (List (S30)), y_ = (t381.set (t389 : Int).toNat y399) := ⟨_, rfl⟩
        replace H : (some (t371, t372, t375, y402, t397, t398)) = some (r1, r2, r3, r4, r5, r6) := by first | (rw [hy402]; with_reducible exact H) | (have H2_ := (Option.bind_some _ _).symm.trans H; rw [hy402]; with_reducible exact H2_) | (have H2_ := (Option.bind_some _ _).symm.trans H; with_reducible exact H2_) | with_reducible exact H | (rw [hy402]; exact H) | exact H
        have Ny402 := M_ hy402
        clear hy402
        simp only [Option.some.injEq, Prod.mk.injEq] at H
        obtain ⟨rfl, rfl, rfl, rfl, rfl, rfl⟩ := H
        obtain ⟨Ao28, co28, eo28⟩ := Kd.S_slice HO_5.out
        subst eo28
        try go_wp2_with (first | ((with_reducible refine gate_callee (f := 73) rfl ?_); refine gl_ (some 22) Try.func73 #[.pointer (some ⟨g, 0, none⟩), .int .i64 (t381.length : Int)] ?_; (with_reducible refine (spec_l01Below.calls g s0_0 x1001_3 x1002_3 (t381.length : Int) t389 t390 t391 w0 _ ?side1 ?side2 A20.out).mono ?_); (case side1 => exact iz2_ HI0.out NB0_370.out NB0_380.out); (case side2 => exact bw3_ HB.out (IsS99.ge HI0.out) GE370.out GE380.out); rintro e w29 ⟨rfl, hi, hb, hk⟩; refine ⟨_, rfl, ?_⟩; have z_ := t8_ (Kd.S_mono (Kd.S_keep (IsS99.apartS (show IsS99 w0 _ g s0_0 x1001_3 x1002_3 from iz2_ HI0.out NB0_370.out NB0_380.out) (kS_ HO_5.out) (by decide)) hk (fun _ h => h.2)) (fun _ h => h.1)) (Kd.R_mono (Kd.R_keep (IsS99.apart (show IsS99 w0 _ g s0_0 x1001_3 x1002_3 from iz2_ HI0.out NB0_370.out NB0_380.out) (kR_ HO_381001.out) (by decide)) hk (fun _ h => h.2)) (fun _ h => h.1)) (Kd.R_mono (Kd.R_keep (IsS99.apart (show IsS99 w0 _ g s0_0 x1001_3 x1002_3 from iz2_ HI0.out NB0_370.out NB0_380.out) (kR_ HO_381002.out) (by decide)) hk (fun _ h => h.2)) (fun _ h => h.1)) (KeepBut.blk hk (bk_ BK370.out) NB370_0.out (by simp)) (KeepBut.blk hk (bk_ BK380.out) NB380_0.out (by simp)) (kT_ (ki2_ HK.out GW370.out GW380.out) hk (.inl rfl)) hb hi; clear HI0 HB HK BK380 BK370 HO_381002 HO_381001 HO_5; obtain ⟨HO_5, HO_381001, HO_381002, BK370, BK380, HK, HB, HI0⟩ := z_; (try clear hi hk hb)) | ((with_reducible refine gate_callee (f := 73) rfl ?_); refine gl_ (some 24) Try.func73 #[.pointer (some ⟨g, 0, none⟩), .int .i64 3] ?_; (with_reducible refine (spec_l01Below.calls g s0_0 t390 t391 3 t392 t393 t394 w0 _ ?side1 ?side2 A21.out).mono ?_); (case side1 => exact iz2_ HI0.out NB0_370.out NB0_380.out); (case side2 => exact bw3_ HB.out (IsS99.ge HI0.out) GE370.out GE380.out); rintro e w30 ⟨rfl, hi, hb, hk⟩; refine ⟨_, rfl, ?_⟩; have z_ := t8_ (Kd.S_mono (Kd.S_keep (IsS99.apartS (show IsS99 w0 _ g s0_0 t390 t391 from iz2_ HI0.out NB0_370.out NB0_380.out) (kS_ HO_5.out) (by decide)) hk (fun _ h => h.2)) (fun _ h => h.1)) (Kd.R_mono (Kd.R_keep (IsS99.apart (show IsS99 w0 _ g s0_0 t390 t391 from iz2_ HI0.out NB0_370.out NB0_380.out) (kR_ HO_381001.out) (by decide)) hk (fun _ h => h.2)) (fun _ h => h.1)) (Kd.R_mono (Kd.R_keep (IsS99.apart (show IsS99 w0 _ g s0_0 t390 t391 from iz2_ HI0.out NB0_370.out NB0_380.out) (kR_ HO_381002.out) (by decide)) hk (fun _ h => h.2)) (fun _ h => h.1)) (KeepBut.blk hk (bk_ BK370.out) NB370_0.out (by simp)) (KeepBut.blk hk (bk_ BK380.out) NB380_0.out (by simp)) (kT_ (ki2_ HK.out GW370.out GW380.out) hk (.inl rfl)) hb hi; clear HI0 HB HK BK380 BK370 HO_381002 HO_381001 HO_5; obtain ⟨HO_5, HO_381001, HO_381002, BK370, BK380, HK, HB, HI0⟩ := z_; (try clear hi hk hb)))
        have z_ := t8_ (Kd.S_drew HO_5.out) (Kd.R_drew HO_381001.out) (Kd.R_drew HO_381002.out) (blk_drew BK370.out) (blk_drew BK380.out) (IsS99.drew HI0.out) (keep_drew HK.out) (below_drew1 HB.out)
        clear HB HK HI0 BK380 BK370 HO_381002 HO_381001 HO_5
        obtain ⟨HO_5, HO_381001, HO_381002, BK370, BK380, HI0, HK, HB⟩ := z_
        have p395 : 0 ≤ (t389 : Int) := od_ as_
        have q395 : t389 < (t381.length : Int) := od_ as_
        obtain ⟨ad395, A395_0, c395_0, e395, hx395_0, hl395_0, hi395_0⟩ := at_L2 (Kd.S_reads' HO_5.out).2.2 t389 p395 q395
        cases e395
        obtain ⟨ce395, hce395, hMe395, hcc395⟩ := Kd.S_get HO_5.out [] t389 p395 (by first | exact q395 | exact od_ as_ | (have e_ := (Kd.S_reads' HO_5.out).1; omega))
        obtain ⟨ve395_0, rfl, ge395_0⟩ := hMe395
        have hv395_0 := hcc395 0 _ rfl
        rw [Nat.add_zero, show ((Kd.slice 30 k30)).sz = 1 from rfl, Nat.mul_one] at hv395_0
        replace hv395_0 := Option.some.inj (hv395_0.symm.trans hx395_0)
        rw [hv395_0] at ge395_0
        have HL395_0 := M_ (show Kd.R k30 30 _ _ _ _ (rd_L2 t381 t389) from ge395_0)
        clear hv395_0 ge395_0
        have HX395_0 := M_ hx395_0
        clear hcc395 hce395
        have HR395_0 := M_ hi395_0
        have HC395_0 := M_ hl395_0
        clear hi395_0 hl395_0
        replace p395 := eq_true p395
        replace q395 := eq_true q395
        refine start_ (n := 14) (S := fun w' => w'.cell? (ad395.add (t389).toNat) = some (.slice A395_0 (rd_L2 t381 t389).length c395_0)) (ds := [13]) (mk_ 14 0) (by kernel_rfl) rfl rfl (hx395_0) (fun hHeld => ?_); refine with_tabW spec_l2Both.tab9 spec_l2Both.bits9 (fun HT_ HW_ => ?_)
        generalize w30.drew = w31 at HO_5 HO_381001 HO_381002 BK370 BK380 HI0 HK HB HL395_0 HR395_0 HX395_0 hx395_0 hHeld ⊢
        refine pu_ 0 (some 43) (mk_ 14 1) HT_.out ?_
        refine pu_ 1 (some 44) (mk_ 14 3) HT_.out ?_
        refine pu_ 2 (some 45) (mk_ 14 7) HT_.out ?_
        refine pu_ 3 (some 46) (mk_ 14 15) HT_.out ?_
        refine pu_ 4 (some 47) (mk_ 14 31) HT_.out ?_
        refine pu_ 6 (some 49) (mk_ 14 95) HT_.out ?_
        refine take_ (i := 5) (N := some 48) (v := ?_) (a' := ?_) (mk_ 14 127) rfl rfl (take_ofW HT_.out HW_.out (by kernel_rfl)) (fun _ _ _ h => h) (Or.inl ⟨by rfl, ?_⟩) hHeld ?_ ?_
        rotate_left
        ·intro w' s0
         go_simp
         with_reducible rfl
        rotate_left
        ·simp only [Act.put, lA_, lB_, lC_, i64_w, i32_w]
         rfl
        refine on_ 7 (some 50) (mk_ 14 255) HT_.out fun K hK => ?_
        refine goes_ Try.func73 (by kernel_rfl) rfl #[.pointer (some ⟨g, 0, none⟩), .int .i64 12] (by rfl) rfl rfl ar_ ?_
        with_reducible refine (spec_l01Below.calls g s0_0 t393 t394 12 t396 t397 t398 w0 _ ?side1 ?side2 A25.out).mono ?_
        (case side1 => exact iz2_ HI0.out NB0_370.out NB0_380.out)
        (case side2 => exact bw3_ HB.out (IsS99.ge HI0.out) GE370.out GE380.out)
        rintro e w32 ⟨rfl, hi, hb, hk⟩
        have HS0_ := keep_cell hk (hHeld) (by first | (rw [add_block]; exact Kd.own_blk (IsS99.own_neS HI0.out HO_5.out (by decide))) | (show (Addr.add _ _).block ≠ _; rw [add_block]; exact Kd.own_blk (IsS99.own_neS HI0.out HO_5.out (by decide))) | exact Kd.own_blk (IsS99.own_neS HI0.out HO_5.out (by decide)))
        refine ⟨_, rfl, ?_⟩
        have z_ := t10_ (Kd.S_mono (Kd.S_keep (IsS99.apartS (show IsS99 w0 _ g s0_0 t393 t394 from iz2_ HI0.out NB0_370.out NB0_380.out) (kS_ HO_5.out) (by decide)) hk (fun _ h => h.2)) (fun _ h => h.1)) (Kd.R_mono (Kd.R_keep (IsS99.apart (show IsS99 w0 _ g s0_0 t393 t394 from iz2_ HI0.out NB0_370.out NB0_380.out) (kR_ HO_381001.out) (by decide)) hk (fun _ h => h.2)) (fun _ h => h.1)) (Kd.R_mono (Kd.R_keep (IsS99.apart (show IsS99 w0 _ g s0_0 t393 t394 from iz2_ HI0.out NB0_370.out NB0_380.out) (kR_ HO_381002.out) (by decide)) hk (fun _ h => h.2)) (fun _ h => h.1)) (KeepBut.blk hk (bk_ BK370.out) NB370_0.out (by simp)) (KeepBut.blk hk (bk_ BK380.out) NB380_0.out (by simp)) (Kd.R_mono (Kd.R_keep (IsS99.apart (show IsS99 w0 _ g s0_0 t393 t394 from iz2_ HI0.out NB0_370.out NB0_380.out) (kR_ HL395_0.out) (by decide)) hk (fun _ h => h.2)) (fun _ h => h.1)) (keep_cell hk HX395_0.out (by first | (rw [add_block]; exact Kd.own_blk (IsS99.own_neS HI0.out HO_5.out (by decide))) | (show (Addr.add _ _).block ≠ _; rw [add_block]; exact Kd.own_blk (IsS99.own_neS HI0.out HO_5.out (by decide))) | exact Kd.own_blk (IsS99.own_neS HI0.out HO_5.out (by decide)) | (dsimp only; exact Kd.own_blk (IsS99.own_neS HI0.out HO_5.out (by decide))))) (kT_ (ki2_ HK.out GW370.out GW380.out) hk (.inl rfl)) hb hi
        clear HI0 HB HK HX395_0 HL395_0 BK380 BK370 HO_381002 HO_381001 HO_5
        obtain ⟨HO_5, HO_381001, HO_381002, BK370, BK380, HL395_0, HX395_0, HK, HB, HI0⟩ := z_
        (try clear hi hk hb)
        obtain ⟨go33, co33, eo33, gb33, gl33, cl33, HG33⟩ := Kd.S_form HO_5.out (by have h_ : (t389 : Int) < ((t381.length : Int) : Int) := od_ as_; have h2_ : 0 ≤ (t389 : Int) := (od_ as_); omega)
        (first | cases eo33 | (injection eo33 with ea_ en_ ec_; (first | subst ea_ | (injection ea_ with ea_; subst ea_)); subst ec_; clear en_))
        have GB33 := M_ gb33
        have GG33 := M_ HG33
        clear gb33 gl33 HG33
        (first | simp only [add_plain] at hx395_0 | skip)
        obtain ⟨oki33, ce33, hcl33, hM33, hcc33, _, _, hH33⟩ := Kd.S_elem HO_5.out [] (t389 : Int) (od_ as_) (by have h_ : (t389 : Int) < ((t381.length : Int) : Int) := od_ as_; first | exact h_ | (have e_ := (Kd.S_reads' HO_5.out).1; omega) | simpa using h_)
        obtain ⟨ve33_0, rfl, ge33_0⟩ := hM33
        have hv33 := hcc33 0 _ rfl
        have hX33 := HX395_0.out
        (try simp only [add_plain] at hX33)
        (try simp only [Nat.add_zero] at hv33)
        (try rw [show ((Kd.slice 30 k30)).sz = 1 from rfl, Nat.mul_one] at hv33)
        replace hv33 := Option.some.inj (hv33.symm.trans hX33)
        subst hv33
        clear hX33 hcc33 hcl33
        have UU33 := M_ (show Kd.R k30 30 _ w.heap.size oki33 (.slice A395_0 (rd_L2 t381 t389).length c395_0) (rd_L2 t381 t389) from ge33_0)
        have HH33 := M_ hH33
        have HN33 := M_ (Kd.S_reads' HO_5.out).1
        clear hH33 ge33_0
        refine hK.out _ _ (HS0_) (fun hHeld => ?_)
        clear hK K
        refine norm_ (a' := ?_) ?_ ?_
        rotate_left
        ·show Act.put _ (some 50) _ = _
         simp only [Act.put, lA_, lB_, lC_, i64_w, i32_w]
         rfl
        refine pu_ 8 (some 51) (mk_ 14 511) HT_.out ?_
        refine pu_ 9 (some 52) (mk_ 14 1023) HT_.out ?_
        refine on_ 10 (some 53) (mk_ 14 2047) HT_.out fun K hK => ?_
        refine value_ (w1 := ?_) (v := ?_) (by rfl) rfl ?_ ?_
        rotate_left 2
        ·go_simp
         constructor
         ·rfl
         ·rfl
        refine hK.out _ _ ((World.cell?_alloc_lt _ _ _ (World.block_lt_of_cell? _ _ (hHeld))).trans (hHeld)) (fun hHeld => ?_)
        clear hK K
        refine norm_ (a' := ?_) ?_ ?_
        rotate_left
        ·show Act.put _ (some 53) _ = _
         simp only [Act.put, lA_, lB_, lC_, i64_w, i32_w]
         rfl
        refine on_ 11 (some 54) (mk_ 14 4095) HT_.out fun K hK => ?_
        refine Kd.R_append_step k30 w.heap.size (by rfl) (.tmp 48) (.tmp 53) 34 30 (.agg #[(.int .i64 0), (.int .i64 0)]) 16 rfl Try.underlying34 info30 rfl (by decide) (by omega) (.slice A395_0 (rd_L2 t381 t389).length c395_0) (rd_L2 t381 t389) (⟨wrap64 (t396 - 1), 127⟩ : S30) [.int .i64 (wrap64 (t396 - 1)), .int .i64 127] (fun k_ => oki33 k_ ∨ ((fun _ => True)) k_ ∧ w32.heap.size ≤ k_) (fun _ => False) rfl rfl ?aP (fun _ hk => hk.elim) ?aF ?aO (Below.refl _ _) ?aS ?aL ?_
        (case aP => exact k30_mkM _ _ _ (⟨wrap64 (t396 - 1), 127⟩ : S30))
        (case aF => exact (fun k_ hk => .inr ⟨trivial, hk⟩))
        (case aO => exact (by refine kR_ ?_; exact Kd.R_mono UU33.out (fun _ hk => .inl hk)))
        (case aS => exact (keep_size (w := w) (g := g) (row := none) (ki2_ HK.out GW370.out GW380.out)))
        (case aL => have := LMc26.out; omega)
        intro v400 w34 ho hb hg hat
        (first | have HS0_ := cell_grown hg (hHeld) (by first | (rw [add_block]; exact (fun e_ => ((HL395_0.out.1 _ e_.symm).2) rfl)) | (show some (Addr.add _ _).block ≠ _; rw [add_block]; exact (fun e_ => ((HL395_0.out.1 _ e_.symm).2) rfl)) | exact (fun e_ => ((HL395_0.out.1 _ e_.symm).2) rfl)) | have HS0_ := cell_grown hg (cell_unalloc (hHeld) (by first | (rw [add_block]; exact Kd.S_lt HO_5.out _ rfl) | (show (Addr.add _ _).block < _; rw [add_block]; exact Kd.S_lt HO_5.out _ rfl) | exact Kd.S_lt HO_5.out _ rfl)) (by first | (rw [add_block]; exact (fun e_ => ((HL395_0.out.1 _ e_.symm).2) rfl)) | (show some (Addr.add _ _).block ≠ _; rw [add_block]; exact (fun e_ => ((HL395_0.out.1 _ e_.symm).2) rfl)) | exact (fun e_ => ((HL395_0.out.1 _ e_.symm).2) rfl)))
        rw [← Ny399.out] at ho
        have z_ := t9_ (Kd.R_over' (v := (.slice A395_0 (rd_L2 t381 t389).length c395_0)) (kR_ HO_381001.out) (Kd.R_typed HL395_0.out) (by decide) hg) (Kd.R_over' (v := (.slice A395_0 (rd_L2 t381 t389).length c395_0)) (kR_ HO_381002.out) (Kd.R_typed HL395_0.out) (by decide) hg) (blk_grown (g := gb370) (o := .cells #[.string (⟨#[]⟩ : ByteArray), .slice none 0 0, .slice none 0 0] 25 (0, 0)) (bk_ BK370.out) hg (Kd.R_ne HL395_0.out BK370.out (by decide))) (blk_grown (g := gb380) (o := .cells #[.string t371, .slice Ao11 t372.length co11, .slice Ao12 t375.length co12] 25 (0, 0)) (bk_ BK380.out) hg (Kd.R_ne HL395_0.out BK380.out (by decide))) (IsS99.grown (iz2_ HI0.out NB0_370.out NB0_380.out) hg (IsS99.own_ne HI0.out HL395_0.out (by decide))) (below_weaken (bw3_ HB.out (IsS99.ge HI0.out) GE370.out GE380.out) HL.out hb) (kT_ (ki2_ HK.out GW370.out GW380.out) (KeepBut.of_grown hg g) (Kd.R_base2 HL395_0.out)) (Kd.H_grown (Kd.H_widen (by repeat (first | exact HH33.out | refine Kd.H_alloc ?_ _ | refine Kd.H_drewN ?_ _ | refine Kd.H_drew ?_))) hg (fun k_ e_ => .inl (UU33.out.1 k_ e_))) ho
        clear HL395_0 UU33 HO_5 HH33 HK HB HI0 BK380 BK370 HO_381002 HO_381001
        obtain ⟨HO_381001, HO_381002, BK370, BK380, HI0, HB, HK, HH33, HO401⟩ := z_
        clear ho hb hg hat
        have p27 : 0 ≤ (t389 : Int) := od_ as_
        have q27 : (t389 : Int) < ((t381.length : Int) : Int) := od_ as_
        replace p27 := eq_true p27
        replace q27 := eq_true q27
        obtain ⟨Ao37, co37, eo37⟩ := Kd.R_slice HO401.out
        (first | subst eo37 | (injection eo37 with f1_ f2_ f3_; have f4_ := f1_.symm; have f5_ := f3_.symm; clear f1_ f2_ f3_; subst f4_; subst f5_))
        obtain ⟨_, _, hraw35, _, _, hcc35, _⟩ := Kd.H_raw HH33.out (od_ as_) (by have h_ : (t389 : Int) < ((t381.length : Int) : Int) := od_ as_; first | exact h_ | (have e_ := (HN33.out); omega) | simpa using h_)
        obtain ⟨_, hfr35⟩ := Kd.H_at HH33.out (od_ as_) (by have h_ : (t389 : Int) < ((t381.length : Int) : Int) := od_ as_; first | exact h_ | (have e_ := (HN33.out); omega) | simpa using h_)
        have hx35_0 := hcc35 0 _ rfl
        have hf35_0 := hfr35 0
        (try simp only [Nat.add_zero] at hx35_0 hf35_0)
        (try rw [show ((Kd.slice 30 k30)).sz = 1 from rfl, Nat.mul_one] at hx35_0)
        (try rw [show ((Kd.slice 30 k30)).sz = 1 from rfl, Nat.mul_one] at hf35_0)
        have HP35 := Kd.S_seg0 HH33.out (od_ as_) (by have h_ : (t389 : Int) < ((t381.length : Int) : Int) := od_ as_; first | exact h_ | (have e_ := (HN33.out); omega) | simpa using h_) (seg := [.slice Ao37 y399.length co37]) (j := 0) (show 1 ≤ 1 from by decide) (x' := y399) (Kd.M_row HO401.out) (fun _ hk => hk)
        (try simp only [show ((Kd.slice 30 k30)).sz = 1 from rfl, Nat.mul_one, Nat.add_zero] at HP35)
        clear hcc35 hfr35
        have HN0_go33 := M_ (show g ≠ go33 from by have h_ := IsS99.own_ne HI0.out hraw35 (by decide); intro e_; exact h_ (by rw [e_]; rfl))
        have HNB370_go33 := M_ (show gb370 ≠ go33 from by have h_ := Kd.R_ne hraw35 BK370.out (by decide); intro e_; exact h_ (by rw [e_]; rfl))
        have HNB380_go33 := M_ (show gb380 ≠ go33 from by have h_ := Kd.R_ne hraw35 BK380.out (by decide); intro e_; exact h_ (by rw [e_]; rfl))
        have HS35 := HP35.1
        rw [← Ny402.out] at HS35
        have HQ35 := M_ HS35
        obtain ⟨_, hgg35⟩ := Kd.R_typed hraw35 go33 rfl
        have GG35_ := M_ hgg35
        clear HP35 HS35 hgg35
        refine hK.out _ _ (HS0_) (fun hHeld => ?_)
        clear hK K
        refine norm_ (a' := ?_) ?_ ?_
        rotate_left
        ·show Act.put _ (some 54) _ = _
         simp only [Act.put, lA_, lB_, lC_, i64_w, i32_w]
         rfl
        refine pu_ 12 (some 55) (mk_ 14 8191) HT_.out ?_
        refine la_ 13 none (mk_ 14 16383) HT_.out fun K hK => ?_
        refine skip_ (w1 := ?_) (by rfl) rfl ?_ ?_
        rotate_left
        ·go_simp
         rfl
        refine hK.out _ _ ?_
        clear hK K
        refine done_ (done_of HT_.out (by kernel_rfl)) ?_
        have n0_ : Aside0 (Kd.R (Kd.int .i64) 3 (w34.setCell ⟨go33, (t389 : Int).toNat, none⟩ (.slice Ao37 y399.length co37)) w.heap.size (fun k_ => some k_ ≠ (.slice Ao12 t375.length co12 : Value).ownBlock) (.slice Ao11 t372.length co11) t372) := ⟨by refine kR_ ?_; exact Kd.R_mono (Kd.R_far (p := ⟨go33, (t389 : Int).toNat, none⟩) (Kd.R_types HO_381001.out GG35_.out (by decide)) (fun _ hk => hk.2) (.slice Ao37 y399.length co37)) (fun _ hk => hk.1)⟩
        have n1_ : Aside0 (Kd.R (Kd.int .i64) 3 (w34.setCell ⟨go33, (t389 : Int).toNat, none⟩ (.slice Ao37 y399.length co37)) w.heap.size (fun k_ => some k_ ≠ (.slice Ao11 t372.length co11 : Value).ownBlock) (.slice Ao12 t375.length co12) t375) := ⟨by refine kR_ ?_; exact Kd.R_mono (Kd.R_far (p := ⟨go33, (t389 : Int).toNat, none⟩) (Kd.R_types HO_381002.out GG35_.out (by decide)) (fun _ hk => hk.2) (.slice Ao37 y399.length co37)) (fun _ hk => hk.1)⟩
        have n2_ : Aside0 (Kd.S (Kd.slice 30 k30) 34 (w34.setCell ⟨go33, (t389 : Int).toNat, none⟩ (.slice Ao37 y399.length co37)) w.heap.size (fun _ => True) (.slice (some ⟨go33, 0, none⟩) t381.length co28) y402) := ⟨by refine kS_ ?_; exact HQ35.out⟩
        have n3_ : Aside0 ((w34.setCell ⟨go33, (t389 : Int).toNat, none⟩ (.slice Ao37 y399.length co37)).heap[gb370]? = some (.cells #[.string (⟨#[]⟩ : ByteArray), .slice none 0 0, .slice none 0 0] 25 (0, 0))) := ⟨by refine bk_ ?_; refine blk_far ?_ HNB370_go33.out _; refine bk_ ?_; exact BK370.out⟩
        have n4_ : Aside0 ((w34.setCell ⟨go33, (t389 : Int).toNat, none⟩ (.slice Ao37 y399.length co37)).heap[gb380]? = some (.cells #[.string t371, .slice Ao11 t372.length co11, .slice Ao12 t375.length co12] 25 (0, 0))) := ⟨by refine bk_ ?_; refine blk_far ?_ HNB380_go33.out _; refine bk_ ?_; exact BK380.out⟩
        have n5_ : Aside0 (IsS99 w0 (w34.setCell ⟨go33, (t389 : Int).toNat, none⟩ (.slice Ao37 y399.length co37)) g s0_0 t397 t398) := ⟨iz3_ HI0.out HN0_go33.out NB0_370.out NB0_380.out⟩
        have n6_ : Aside0 (KeepBut w (w34.setCell ⟨go33, (t389 : Int).toNat, none⟩ (.slice Ao37 y399.length co37)) g none) := ⟨ki3_ HK.out GB33.out GW370.out GW380.out⟩
        have n7_ : Aside0 (Below w0.heap.size w0 (w34.setCell ⟨go33, (t389 : Int).toNat, none⟩ (.slice Ao37 y399.length co37))) := ⟨bw4_ HB.out (Nat.le_trans HL.out GB33.out) (IsS99.ge HI0.out) GE370.out GE380.out⟩
        (try clear HB HK HI0 BK380 BK370 HO_5 HO_381002 HO_381001)
        generalize (w34.setCell ⟨go33, (t389 : Int).toNat, none⟩ (.slice Ao37 y399.length co37)) = w38 at n0_ n1_ n2_ n3_ n4_ n5_ n6_ n7_ ⊢
        have HO_381001 := n0_
        have HO_381002 := n1_
        have HO_5 := n2_
        have BK370 := n3_
        have BK380 := n4_
        have HI0 := n5_
        have HK := n6_
        have HB := n7_
        clear n0_ n1_ n2_ n3_ n4_ n5_ n6_ n7_
        have hnb39 := NB380_370.out
        have hnc39 := NB370_380.out
        have hnb40 := NB380_0.out
        have hnc40 := NB0_380.out
        have hcz41_0 := cz_ BK380.out 0 (.string t371)
        have hcz41_1 := cz_ BK380.out 1 (.slice Ao11 t372.length co11)
        have hcz41_2 := cz_ BK380.out 2 (.slice Ao12 t375.length co12)
        have hfz41_0 := fz_ BK380.out 0
        have hfz41_1 := fz_ BK380.out 1
        have hfz41_2 := fz_ BK380.out 2
        have hnb42 := NB370_0.out
        have hnc42 := NB0_370.out
        have hcz43_0 := cz_ BK370.out 0 (.string (⟨#[]⟩ : ByteArray))
        have hcz43_1 := cz_ BK370.out 1 (.slice none 0 0)
        have hcz43_2 := cz_ BK370.out 2 (.slice none 0 0)
        have hfz43_0 := fz_ BK370.out 0
        have hfz43_1 := fz_ BK370.out 1
        have hfz43_2 := fz_ BK370.out 2
        try go_wp2
        refine bodyPost_ret (results_ct rfl _ _ gb370 25 #[.string t371, .slice Ao11 t372.length co11, .slice Ao12 t375.length co12] (0, 0) _ rfl (by refine bk_ ?_; refine blk_put (cs := #[.string t371, .slice Ao11 t372.length co11, .slice none 0 0]) ?_ 2 _ rfl; refine bk_ ?_; refine blk_put (cs := #[.string t371, .slice none 0 0, .slice none 0 0]) ?_ 1 _ rfl; refine bk_ ?_; refine blk_put (cs := #[.string (⟨#[]⟩ : ByteArray), .slice none 0 0, .slice none 0 0]) ?_ 0 _ rfl; refine bk_ ?_; exact BK370.out) Try.underlying25 rfl (by kernel_rfl)) rfl ?_
        exact ⟨_, _, _, rb_, by refine kR_ ?_; exact Kd.R_mono (Kd.R_far (p := ⟨gb370, 2, none⟩) (Kd.R_far (p := ⟨gb370, 1, none⟩) (Kd.R_far (p := ⟨gb370, 0, none⟩) (Kd.R_types HO_381001.out BK370.out (by decide)) (fun _ hk => hk.2) (.string t371)) (fun _ hk => hk.2) (.slice Ao11 t372.length co11)) (fun _ hk => hk.2) (.slice Ao12 t375.length co12)) (fun _ hk => hk.1), by refine kR_ ?_; exact Kd.R_mono (Kd.R_far (p := ⟨gb370, 2, none⟩) (Kd.R_far (p := ⟨gb370, 1, none⟩) (Kd.R_far (p := ⟨gb370, 0, none⟩) (Kd.R_types HO_381002.out BK370.out (by decide)) (fun _ hk => hk.2) (.string t371)) (fun _ hk => hk.2) (.slice Ao11 t372.length co11)) (fun _ hk => hk.2) (.slice Ao12 t375.length co12)) (fun _ hk => hk.1), by refine kS_ ?_; exact Kd.S_mono (Kd.S_far (p := ⟨gb370, 2, none⟩) (Kd.S_far (p := ⟨gb370, 1, none⟩) (Kd.S_far (p := ⟨gb370, 0, none⟩) (Kd.S_types HO_5.out BK370.out (by decide)) (fun _ hk => hk.2) (.string t371)) (fun _ hk => hk.2) (.slice Ao11 t372.length co11)) (fun _ hk => hk.2) (.slice Ao12 t375.length co12)) (fun _ hk => trivial), iz2_ HI0.out NB0_370.out NB0_380.out, bw3_ HB.out (IsS99.ge HI0.out) GE370.out GE380.out, ki2_ HK.out GW370.out GW380.out⟩
       ·rw [if_neg c26] at H
        exact absurd H (by simp)
      ·rw [if_neg c24] at H
       exact absurd H (by simp)
     ·rw [if_neg c23] at H
      exact absurd H (by simp)
    ·rw [if_neg c22] at H
     have c22b0 : (t392 == 0) = false := beq_eq_false_iff_ne.mpr c22
     have c22b1 : (t392 != 0) = true := bne_iff_ne.mpr c22
     by_cases c44 : t392 = 1
     ·rw [if_pos c44] at H
      have c44b0 := beq_iff_eq.mpr c44
      have c44b1 := bne_eq_false_iff_eq.mpr c44
      clear c44
      obtain ⟨ji45, hji45⟩ : ∃ j_ : Int, (wrap64 ((t381.length : Int) - 1)) = j_ := ⟨_, rfl⟩
      replace H : (if 0 ≤ (ji45) then (if (ji45) ≤ (t381.length : Int) then (some (t371, t372, t375, (t381.take ((ji45) : Int).toNat), t393, t394)) else (none)) else (none)) = some (r1, r2, r3, r4, r5, r6) := by first | (rw [hji45] at H; exact H) | (simp only [hji45] at H ⊢; exact H)
      (try rw [hji45] at A20)
      (try rw [hji45] at A21)
      have hji45w : (IntKind.i64.wrap ((t381.length : Int) - 1)) = ji45 := (i64_w _).trans hji45
      by_cases c46 : 0 ≤ (ji45)
      ·rw [if_pos c46] at H
       have c46b0 := eq_true c46
       have c46b1 := dt_ c46
       clear c46
       by_cases c47 : (ji45) ≤ (t381.length : Int)
       ·rw [if_pos c47] at H
        have c47b0 := eq_true c47
        have c47b1 := dt_ c47
        clear c47
        obtain ⟨y403, hy403⟩ : ∃ y_ : List (List (S30)), y_ = (t381.take ((ji45) : Int).toNat) := ⟨_, rfl⟩
        replace H : (some (t371, t372, t375, y403, t393, t394)) = some (r1, r2, r3, r4, r5, r6) := by first | (rw [hy403]; with_reducible exact H) | (have H2_ := (Option.bind_some _ _).symm.trans H; rw [hy403]; with_reducible exact H2_) | (have H2_ := (Option.bind_some _ _).symm.trans H; with_reducible exact H2_) | with_reducible exact H | (rw [hy403]; exact H) | exact H
        have Ny403 := M_ hy403
        clear hy403
        simp only [Option.some.injEq, Prod.mk.injEq] at H
        obtain ⟨rfl, rfl, rfl, rfl, rfl, rfl⟩ := H
        obtain ⟨Ao48, co48, eo48⟩ := Kd.S_slice HO_5.out
        subst eo48
        go_wp2_with (first | ((with_reducible refine gate_callee (f := 73) rfl ?_); refine gl_ (some 22) Try.func73 #[.pointer (some ⟨g, 0, none⟩), .int .i64 (t381.length : Int)] ?_; (with_reducible refine (spec_l01Below.calls g s0_0 x1001_3 x1002_3 (t381.length : Int) t389 t390 t391 w0 _ ?side1 ?side2 A20.out).mono ?_); (case side1 => exact iz2_ HI0.out NB0_370.out NB0_380.out); (case side2 => exact bw3_ HB.out (IsS99.ge HI0.out) GE370.out GE380.out); rintro e w49 ⟨rfl, hi, hb, hk⟩; refine ⟨_, rfl, ?_⟩; have z_ := t8_ (Kd.S_mono (Kd.S_keep (IsS99.apartS (show IsS99 w0 _ g s0_0 x1001_3 x1002_3 from iz2_ HI0.out NB0_370.out NB0_380.out) (kS_ HO_5.out) (by decide)) hk (fun _ h => h.2)) (fun _ h => h.1)) (Kd.R_mono (Kd.R_keep (IsS99.apart (show IsS99 w0 _ g s0_0 x1001_3 x1002_3 from iz2_ HI0.out NB0_370.out NB0_380.out) (kR_ HO_381001.out) (by decide)) hk (fun _ h => h.2)) (fun _ h => h.1)) (Kd.R_mono (Kd.R_keep (IsS99.apart (show IsS99 w0 _ g s0_0 x1001_3 x1002_3 from iz2_ HI0.out NB0_370.out NB0_380.out) (kR_ HO_381002.out) (by decide)) hk (fun _ h => h.2)) (fun _ h => h.1)) (KeepBut.blk hk (bk_ BK370.out) NB370_0.out (by simp)) (KeepBut.blk hk (bk_ BK380.out) NB380_0.out (by simp)) (kT_ (ki2_ HK.out GW370.out GW380.out) hk (.inl rfl)) hb hi; clear HI0 HB HK BK380 BK370 HO_381002 HO_381001 HO_5; obtain ⟨HO_5, HO_381001, HO_381002, BK370, BK380, HK, HB, HI0⟩ := z_; (try clear hi hk hb)) | ((with_reducible refine gate_callee (f := 73) rfl ?_); refine gl_ (some 24) Try.func73 #[.pointer (some ⟨g, 0, none⟩), .int .i64 3] ?_; (with_reducible refine (spec_l01Below.calls g s0_0 t390 t391 3 t392 t393 t394 w0 _ ?side1 ?side2 A21.out).mono ?_); (case side1 => exact iz2_ HI0.out NB0_370.out NB0_380.out); (case side2 => exact bw3_ HB.out (IsS99.ge HI0.out) GE370.out GE380.out); rintro e w50 ⟨rfl, hi, hb, hk⟩; refine ⟨_, rfl, ?_⟩; have z_ := t8_ (Kd.S_mono (Kd.S_keep (IsS99.apartS (show IsS99 w0 _ g s0_0 t390 t391 from iz2_ HI0.out NB0_370.out NB0_380.out) (kS_ HO_5.out) (by decide)) hk (fun _ h => h.2)) (fun _ h => h.1)) (Kd.R_mono (Kd.R_keep (IsS99.apart (show IsS99 w0 _ g s0_0 t390 t391 from iz2_ HI0.out NB0_370.out NB0_380.out) (kR_ HO_381001.out) (by decide)) hk (fun _ h => h.2)) (fun _ h => h.1)) (Kd.R_mono (Kd.R_keep (IsS99.apart (show IsS99 w0 _ g s0_0 t390 t391 from iz2_ HI0.out NB0_370.out NB0_380.out) (kR_ HO_381002.out) (by decide)) hk (fun _ h => h.2)) (fun _ h => h.1)) (KeepBut.blk hk (bk_ BK370.out) NB370_0.out (by simp)) (KeepBut.blk hk (bk_ BK380.out) NB380_0.out (by simp)) (kT_ (ki2_ HK.out GW370.out GW380.out) hk (.inl rfl)) hb hi; clear HI0 HB HK BK380 BK370 HO_381002 HO_381001 HO_5; obtain ⟨HO_5, HO_381001, HO_381002, BK370, BK380, HK, HB, HI0⟩ := z_; (try clear hi hk hb); have q51 : ((ji45) : Int) ≤ ((t381.length : Int) : Int) := od_ as_; obtain ⟨i051, hi051, _, hsz51, _⟩ := info_parts info34; have hcut51 := cut_to (P := Try.prog) 26 34 .i64 Try.underlying26 hi051 Ao48 t381.length co48 (ji45) (od_ as_) q51 (Kd.S_reads' HO_5.out).2.1; have hr51 := Kd.S_take (m := ((ji45) : Int).toNat) HO_5.out (by omega); have hy51 : y403.length = ((ji45) : Int).toNat := (by rw [Ny403.out, List.length_take]; omega); rw [← Ny403.out] at hr51; rw [← hy51] at hr51 hcut51; clear hy51 hi051 hsz51 HO_5; have HO405 := M_ hr51; clear hr51; replace q51 := eq_true q51; have hnb52 := NB380_370.out; have hnc52 := NB370_380.out; have hnb53 := NB380_0.out; have hnc53 := NB0_380.out; have hcz54_0 := cz_ BK380.out 0 (.string t371); have hcz54_1 := cz_ BK380.out 1 (.slice Ao11 t372.length co11); have hcz54_2 := cz_ BK380.out 2 (.slice Ao12 t375.length co12); have hfz54_0 := fz_ BK380.out 0; have hfz54_1 := fz_ BK380.out 1; have hfz54_2 := fz_ BK380.out 2; have hnb55 := NB370_0.out; have hnc55 := NB0_370.out; have hcz56_0 := cz_ BK370.out 0 (.string (⟨#[]⟩ : ByteArray)); have hcz56_1 := cz_ BK370.out 1 (.slice none 0 0); have hcz56_2 := cz_ BK370.out 2 (.slice none 0 0); have hfz56_0 := fz_ BK370.out 0; have hfz56_1 := fz_ BK370.out 1; have hfz56_2 := fz_ BK370.out 2))
        refine bodyPost_ret (results_ct rfl _ _ gb370 25 #[.string t371, .slice Ao11 t372.length co11, .slice Ao12 t375.length co12] (0, 0) _ rfl (by refine bk_ ?_; refine blk_put (cs := #[.string t371, .slice Ao11 t372.length co11, .slice none 0 0]) ?_ 2 _ rfl; refine bk_ ?_; refine blk_put (cs := #[.string t371, .slice none 0 0, .slice none 0 0]) ?_ 1 _ rfl; refine bk_ ?_; refine blk_put (cs := #[.string (⟨#[]⟩ : ByteArray), .slice none 0 0, .slice none 0 0]) ?_ 0 _ rfl; refine bk_ ?_; exact BK370.out) Try.underlying25 rfl (by kernel_rfl)) rfl ?_
        exact ⟨_, _, _, by first | rfl | (simp only [i64_w, i32_w]; rfl) | (simp only [i64_w, i32_w, wrap64_zero, Int.sub_zero, Int.add_zero, Int.mul_zero, Int.zero_mul]; rfl) | (simp [errW_none, errW_some] <;> rfl) | (simp only [← hji45]; first | rfl | (simp [errW_none, errW_some] <;> rfl)) | (simp [*, errW_none, errW_some] <;> rfl), by refine kR_ ?_; exact Kd.R_mono (Kd.R_far (p := ⟨gb370, 2, none⟩) (Kd.R_far (p := ⟨gb370, 1, none⟩) (Kd.R_far (p := ⟨gb370, 0, none⟩) (Kd.R_types HO_381001.out BK370.out (by decide)) (fun _ hk => hk.2) (.string t371)) (fun _ hk => hk.2) (.slice Ao11 t372.length co11)) (fun _ hk => hk.2) (.slice Ao12 t375.length co12)) (fun _ hk => hk.1), by refine kR_ ?_; exact Kd.R_mono (Kd.R_far (p := ⟨gb370, 2, none⟩) (Kd.R_far (p := ⟨gb370, 1, none⟩) (Kd.R_far (p := ⟨gb370, 0, none⟩) (Kd.R_types HO_381002.out BK370.out (by decide)) (fun _ hk => hk.2) (.string t371)) (fun _ hk => hk.2) (.slice Ao11 t372.length co11)) (fun _ hk => hk.2) (.slice Ao12 t375.length co12)) (fun _ hk => hk.1), by refine kS_ ?_; exact Kd.S_mono (Kd.S_far (p := ⟨gb370, 2, none⟩) (Kd.S_far (p := ⟨gb370, 1, none⟩) (Kd.S_far (p := ⟨gb370, 0, none⟩) (Kd.S_types HO405.out BK370.out (by decide)) (fun _ hk => hk.2) (.string t371)) (fun _ hk => hk.2) (.slice Ao11 t372.length co11)) (fun _ hk => hk.2) (.slice Ao12 t375.length co12)) (fun _ hk => trivial), iz2_ HI0.out NB0_370.out NB0_380.out, bw3_ HB.out (IsS99.ge HI0.out) GE370.out GE380.out, ki2_ HK.out GW370.out GW380.out⟩
       ·rw [if_neg c47] at H
        exact absurd H (by simp)
      ·rw [if_neg c46] at H
       exact absurd H (by simp)
     ·rw [if_neg c44] at H
      have c44b0 : (t392 == 1) = false := beq_eq_false_iff_ne.mpr c44
      have c44b1 : (t392 != 1) = true := bne_iff_ne.mpr c44
      have H' := M_ H
      clear H
      obtain ⟨Ao57, co57, eo57⟩ := Kd.S_slice HO_5.out
      subst eo57
      go_wp2_with (first | ((with_reducible refine gate_callee (f := 73) rfl ?_); refine gl_ (some 22) Try.func73 #[.pointer (some ⟨g, 0, none⟩), .int .i64 (t381.length : Int)] ?_; (with_reducible refine (spec_l01Below.calls g s0_0 x1001_3 x1002_3 (t381.length : Int) t389 t390 t391 w0 _ ?side1 ?side2 A20.out).mono ?_); (case side1 => exact iz2_ HI0.out NB0_370.out NB0_380.out); (case side2 => exact bw3_ HB.out (IsS99.ge HI0.out) GE370.out GE380.out); rintro e w58 ⟨rfl, hi, hb, hk⟩; refine ⟨_, rfl, ?_⟩; have z_ := t8_ (Kd.S_mono (Kd.S_keep (IsS99.apartS (show IsS99 w0 _ g s0_0 x1001_3 x1002_3 from iz2_ HI0.out NB0_370.out NB0_380.out) (kS_ HO_5.out) (by decide)) hk (fun _ h => h.2)) (fun _ h => h.1)) (Kd.R_mono (Kd.R_keep (IsS99.apart (show IsS99 w0 _ g s0_0 x1001_3 x1002_3 from iz2_ HI0.out NB0_370.out NB0_380.out) (kR_ HO_381001.out) (by decide)) hk (fun _ h => h.2)) (fun _ h => h.1)) (Kd.R_mono (Kd.R_keep (IsS99.apart (show IsS99 w0 _ g s0_0 x1001_3 x1002_3 from iz2_ HI0.out NB0_370.out NB0_380.out) (kR_ HO_381002.out) (by decide)) hk (fun _ h => h.2)) (fun _ h => h.1)) (KeepBut.blk hk (bk_ BK370.out) NB370_0.out (by simp)) (KeepBut.blk hk (bk_ BK380.out) NB380_0.out (by simp)) (kT_ (ki2_ HK.out GW370.out GW380.out) hk (.inl rfl)) hb hi; clear HI0 HB HK BK380 BK370 HO_381002 HO_381001 HO_5; obtain ⟨HO_5, HO_381001, HO_381002, BK370, BK380, HK, HB, HI0⟩ := z_; (try clear hi hk hb)) | ((with_reducible refine gate_callee (f := 73) rfl ?_); refine gl_ (some 24) Try.func73 #[.pointer (some ⟨g, 0, none⟩), .int .i64 3] ?_; (with_reducible refine (spec_l01Below.calls g s0_0 t390 t391 3 t392 t393 t394 w0 _ ?side1 ?side2 A21.out).mono ?_); (case side1 => exact iz2_ HI0.out NB0_370.out NB0_380.out); (case side2 => exact bw3_ HB.out (IsS99.ge HI0.out) GE370.out GE380.out); rintro e w59 ⟨rfl, hi, hb, hk⟩; refine ⟨_, rfl, ?_⟩; have z_ := t8_ (Kd.S_mono (Kd.S_keep (IsS99.apartS (show IsS99 w0 _ g s0_0 t390 t391 from iz2_ HI0.out NB0_370.out NB0_380.out) (kS_ HO_5.out) (by decide)) hk (fun _ h => h.2)) (fun _ h => h.1)) (Kd.R_mono (Kd.R_keep (IsS99.apart (show IsS99 w0 _ g s0_0 t390 t391 from iz2_ HI0.out NB0_370.out NB0_380.out) (kR_ HO_381001.out) (by decide)) hk (fun _ h => h.2)) (fun _ h => h.1)) (Kd.R_mono (Kd.R_keep (IsS99.apart (show IsS99 w0 _ g s0_0 t390 t391 from iz2_ HI0.out NB0_370.out NB0_380.out) (kR_ HO_381002.out) (by decide)) hk (fun _ h => h.2)) (fun _ h => h.1)) (KeepBut.blk hk (bk_ BK370.out) NB370_0.out (by simp)) (KeepBut.blk hk (bk_ BK380.out) NB380_0.out (by simp)) (kT_ (ki2_ HK.out GW370.out GW380.out) hk (.inl rfl)) hb hi; clear HI0 HB HK BK380 BK370 HO_381002 HO_381001 HO_5; obtain ⟨HO_5, HO_381001, HO_381002, BK370, BK380, HK, HB, HI0⟩ := z_; (try clear hi hk hb)))
      go_loopg [] kj3 (fun kq w' => ∃ (x5_2 : List (List (S30))), Aside0 (spec_l2Both.l0 kq x5_2 t389 s0_0 t393 t394 t371 t372 t375 = some (r1, r2, r3, r4, r5, r6)) ∧ Aside0 (kq ≤ kj3) ∧ Aside0 (Kd.S (Kd.slice 30 k30) 34 w' w.heap.size (fun _ => True) (.slice Ao57 t381.length co57) x5_2) ∧ Aside0 (Kd.R (Kd.int .i64) 3 w' w.heap.size (fun k_ => some k_ ≠ ((.slice Ao12 t375.length co12) : Value).ownBlock) (.slice Ao11 t372.length co11) t372) ∧ Aside0 (Kd.R (Kd.int .i64) 3 w' w.heap.size (fun k_ => some k_ ≠ ((.slice Ao11 t372.length co11) : Value).ownBlock) (.slice Ao12 t375.length co12) t375) ∧ Aside0 (w'.heap[gb370]? = some (.cells #[.string (⟨#[]⟩ : ByteArray), (.slice none 0 0), (.slice none 0 0)] 25 (0, 0))) ∧ Aside0 (w'.heap[gb380]? = some (.cells #[.string t371, (.slice Ao11 t372.length co11), (.slice Ao12 t375.length co12)] 25 (0, 0))) ∧ Aside0 (IsS99 w0 w' g s0_0 t393 t394) ∧ Aside0 (KeepBut w w' g none) ∧ Aside0 (Below w0.heap.size w0 w'))
      case atStart => exact ⟨(t381), H', ⟨Nat.le_refl _⟩, ⟨by refine kS_ ?_; exact HO_5.out⟩, ⟨by refine kR_ ?_; exact HO_381001.out⟩, ⟨by refine kR_ ?_; exact HO_381002.out⟩, ⟨by refine bk_ ?_; exact BK370.out⟩, ⟨by refine bk_ ?_; exact BK380.out⟩, ⟨iz2_ HI0.out NB0_370.out NB0_380.out⟩, ⟨ki2_ HK.out GW370.out GW380.out⟩, ⟨bw3_ HB.out (IsS99.ge HI0.out) GE370.out GE380.out⟩⟩
      case round =>
       clear H'
       (try clear q51 q395 q27 p395 p27 p2 hx395_0 hx35_0 hfz56_2 hfz56_1 hfz56_0 hfz54_2 hfz54_1 hfz54_0 hfz43_2 hfz43_1 hfz43_0 hfz41_2 hfz41_1 hfz41_0 hfz10_2 hfz10_1 hfz10_0 hcz56_2 hcz56_1 hcz56_0 hcz54_2 hcz54_1 hcz54_0 hcz43_2 hcz43_1 hcz43_0 hcz41_2 hcz41_1 hcz41_0 hcz10_2 hcz10_1 hcz10_0 c55 c53 c52 q51 c47b1 c47b0 c47 c46b1 c46b0 c46 c44b1 c44b0 c44 c42 c40 hx39 q39 p39 c39 hf35 hx35 c35 c33 q27 p27 c26 c24b0 c24 c23b0 c23 c22b1 c22b0 c22 c19 c14b1 c14b0 c14 c9 c8 c7 p6 q5 c5 c4 hf3 hx3 q3 p3 c3 q2 p2 c2 c1)
       obtain ⟨x5_2, HA, HK2, HO_5, HO_381001, HO_381002, BK370, BK380, HI0, HK, HB⟩ := hrel
       have hl5_2 := (Kd.S_reads' HO_5.out).1
       rw [hl5_2] at HO_5
       (try simp only [hl5_2])
       (try simp only [hl5_2] at BK370)
       (try simp only [hl5_2] at BK380)
       (try simp only [hl5_2] at HO_381001)
       (try simp only [hl5_2] at HO_381002)
       cases gk with
       | zero => exact absurd HA.out (by simp [spec_l2Both.l0])
       | succ k2 =>
        have H := HA.out
        clear HA
        simp only [spec_l2Both.l0] at H
        by_cases c60 : 0 ≤ t389
        ·rw [if_pos c60] at H
         have c60b0 := dt_ c60
         (try (have c60h0 := c60b0; simp only [hl5_2] at c60h0))
         clear c60
         by_cases c61 : t389 < (x5_2.length : Int)
         ·rw [if_pos c61] at H
          have c61b0 := dt_ c61
          (try (have c61h0 := c61b0; simp only [hl5_2] at c61h0))
          clear c61
          by_cases c62 : ((rd_L2 x5_2 t389).length : Int) < 21
          ·rw [if_pos c62] at H
           have c62b0 := dt_ c62
           have c62b1 : decide ((rd_L2 x5_2 t389).length < 21) = true := dt_ (by omega)
           (try (have c62h0 := c62b0; simp only [hl5_2] at c62h0))
           (try (have c62h1 := c62b1; simp only [hl5_2] at c62h1))
           clear c62
           by_cases c63 : (rd_L2 x5_2 t389).length < 8796093022208
           ·rw [if_pos c63] at H
            have LMc63 := M_ c63
            clear c63
            obtain ⟨y408, hy408⟩ : ∃ y_ : List (S30), y_ = ((rd_L2 x5_2 t389) ++ [(⟨0, 0⟩ : S30)]) := ⟨_, rfl⟩
            replace H : (spec_l2Both.l0 k2 (x5_2.set (t389 : Int).toNat y408) t389 s0_0 t393 t394 t371 t372 t375) = some (r1, r2, r3, r4, r5, r6) := by first | (rw [hy408]; with_reducible exact H) | (have H2_ := (Option.bind_some _ _).symm.trans H; rw [hy408]; with_reducible exact H2_) | (have H2_ := (Option.bind_some _ _).symm.trans H; with_reducible exact H2_) | with_reducible exact H | (rw [hy408]; exact H) | exact H
            have Ny408 := M_ hy408
            clear hy408
            obtain ⟨y411, hy411⟩ : ∃ y_ : List (List (S30)), y_ = (x5_2.set (t389 : Int).toNat y408) := ⟨_, rfl⟩
            replace H : (spec_l2Both.l0 k2 y411 t389 s0_0 t393 t394 t371 t372 t375) = some (r1, r2, r3, r4, r5, r6) := by first | (rw [hy411]; with_reducible exact H) | (have H2_ := (Option.bind_some _ _).symm.trans H; rw [hy411]; with_reducible exact H2_) | (have H2_ := (Option.bind_some _ _).symm.trans H; with_reducible exact H2_) | with_reducible exact H | (rw [hy411]; exact H) | exact H
            have Ny411 := M_ hy411
            clear hy411
            have H' := M_ H
            clear H
            have p406 : 0 ≤ (t389 : Int) := od_ as_
            have q406 : t389 < (x5_2.length : Int) := od_ as_
            obtain ⟨ad406, A406_0, c406_0, e406, hx406_0, hl406_0, hi406_0⟩ := at_L2 (Kd.S_reads' HO_5.out).2.2 t389 p406 q406
            cases e406
            obtain ⟨ce406, hce406, hMe406, hcc406⟩ := Kd.S_get HO_5.out [] t389 p406 (by first | exact q406 | exact od_ as_ | (have e_ := (Kd.S_reads' HO_5.out).1; omega))
            obtain ⟨ve406_0, rfl, ge406_0⟩ := hMe406
            have hv406_0 := hcc406 0 _ rfl
            rw [Nat.add_zero, show ((Kd.slice 30 k30)).sz = 1 from rfl, Nat.mul_one] at hv406_0
            replace hv406_0 := Option.some.inj (hv406_0.symm.trans hx406_0)
            rw [hv406_0] at ge406_0
            have HL406_0 := M_ (show Kd.R k30 30 _ _ _ _ (rd_L2 x5_2 t389) from ge406_0)
            clear hv406_0 ge406_0
            have HX406_0 := M_ hx406_0
            clear hcc406 hce406
            have HR406_0 := M_ hi406_0
            have HC406_0 := M_ hl406_0
            clear hi406_0 hl406_0
            replace p406 := eq_true p406
            replace q406 := eq_true q406
            have p407 : 0 ≤ (t389 : Int) := od_ as_
            have q407 : t389 < (x5_2.length : Int) := od_ as_
            obtain ⟨ad407, A407_0, c407_0, e407, hx407_0, hl407_0, hi407_0⟩ := at_L2 (Kd.S_reads' HO_5.out).2.2 t389 p407 q407
            obtain rfl : ad406 = ad407 := (by injection e407)
            obtain ⟨ce407, hce407, hMe407, hcc407⟩ := Kd.S_get HO_5.out [] t389 p407 (by first | exact q407 | exact od_ as_ | (have e_ := (Kd.S_reads' HO_5.out).1; omega))
            obtain ⟨ve407_0, rfl, ge407_0⟩ := hMe407
            have hv407_0 := hcc407 0 _ rfl
            rw [Nat.add_zero, show ((Kd.slice 30 k30)).sz = 1 from rfl, Nat.mul_one] at hv407_0
            replace hv407_0 := Option.some.inj (hv407_0.symm.trans hx407_0)
            rw [hv407_0] at ge407_0
            have HL407_0 := M_ (show Kd.R k30 30 _ _ _ _ (rd_L2 x5_2 t389) from ge407_0)
            clear hv407_0 ge407_0
            have HX407_0 := M_ hx407_0
            clear hcc407 hce407
            have HR407_0 := M_ hi407_0
            have HC407_0 := M_ hl407_0
            clear hi407_0 hl407_0
            replace p407 := eq_true p407
            replace q407 := eq_true q407
            have ea_ := Option.some.inj (hx406_0.symm.trans hx407_0)
            injection ea_ with ea_ en_ ec_
            subst ea_
            subst ec_
            clear en_
            obtain ⟨go65, co65, eo65, gb65, gl65, cl65, HG65⟩ := Kd.S_form HO_5.out (by have h_ : (t389 : Int) < ((x5_2.length : Int) : Int) := od_ as_; have h2_ : 0 ≤ (t389 : Int) := (od_ as_); omega)
            (first | cases eo65 | (injection eo65 with ea_ en_ ec_; (first | subst ea_ | (injection ea_ with ea_; subst ea_)); subst ec_; clear en_))
            have GB65 := M_ gb65
            have GG65 := M_ HG65
            clear gb65 gl65 HG65
            (first | simp only [add_plain] at hx406_0 | skip)
            (first | simp only [add_plain] at hx407_0 | skip)
            obtain ⟨oki65, ce65, hcl65, hM65, hcc65, _, _, hH65⟩ := Kd.S_elem HO_5.out [] (t389 : Int) (od_ as_) (by have h_ : (t389 : Int) < ((x5_2.length : Int) : Int) := od_ as_; first | exact h_ | (have e_ := (Kd.S_reads' HO_5.out).1; omega) | simpa using h_)
            obtain ⟨ve65_0, rfl, ge65_0⟩ := hM65
            have hv65 := hcc65 0 _ rfl
            have hX65 := HX407_0.out
            (try simp only [add_plain] at hX65)
            (try simp only [Nat.add_zero] at hv65)
            (try rw [show ((Kd.slice 30 k30)).sz = 1 from rfl, Nat.mul_one] at hv65)
            replace hv65 := Option.some.inj (hv65.symm.trans hX65)
            subst hv65
            clear hX65 hcc65 hcl65
            have UU65 := M_ (show Kd.R k30 30 _ w.heap.size oki65 (.slice A406_0 (rd_L2 x5_2 t389).length c406_0) (rd_L2 x5_2 t389) from ge65_0)
            have HH65 := M_ hH65
            have HN65 := M_ (Kd.S_reads' HO_5.out).1
            clear hH65 ge65_0
            go_wp2_with (first | ((with_reducible refine gate_builtin (b := .append) (xs := #[.tmp 36, .tmp 38]) rfl ?_); at_builtin; refine Kd.R_append k30 w.heap.size rfl (.tmp 36) (.tmp 38) 34 30 (.agg #[(.int .i64 0), (.int .i64 0)]) 16 rfl Try.underlying34 info30 rfl (by decide) (by omega) (.slice A406_0 (rd_L2 x5_2 t389).length c406_0) (rd_L2 x5_2 t389) (⟨0, 0⟩ : S30) [.int .i64 0, .int .i64 0] (fun k_ => oki65 k_ ∨ ((fun _ => True)) k_ ∧ wr.heap.size ≤ k_) (fun _ => False) rfl rfl ?aP (fun _ hk => hk.elim) ?aF ?aO (Below.refl _ _) ?aS ?aL ?_; (case aP => exact k30_mkM _ _ _ (⟨0, 0⟩ : S30)); (case aF => exact (fun k_ hk => .inr ⟨trivial, hk⟩)); (case aO => exact (by refine kR_ ?_; exact Kd.R_mono UU65.out (fun _ hk => .inl hk))); (case aS => exact (keep_size (w := w) (g := g) (row := none) (ki2_ HK.out GW370.out GW380.out))); (case aL => have := LMc63.out; omega); intro v409 w66 ho hb hg hat; rw [← Ny408.out] at ho; have z_ := t9_ (Kd.R_over' (v := (.slice A406_0 (rd_L2 x5_2 t389).length c406_0)) (kR_ HO_381001.out) (Kd.R_typed HL407_0.out) (by decide) hg) (Kd.R_over' (v := (.slice A406_0 (rd_L2 x5_2 t389).length c406_0)) (kR_ HO_381002.out) (Kd.R_typed HL407_0.out) (by decide) hg) (blk_grown (g := gb370) (o := .cells #[.string (⟨#[]⟩ : ByteArray), .slice none 0 0, .slice none 0 0] 25 (0, 0)) (bk_ BK370.out) hg (Kd.R_ne HL407_0.out BK370.out (by decide))) (blk_grown (g := gb380) (o := .cells #[.string t371, .slice Ao11 t372.length co11, .slice Ao12 t375.length co12] 25 (0, 0)) (bk_ BK380.out) hg (Kd.R_ne HL407_0.out BK380.out (by decide))) (IsS99.grown (iz2_ HI0.out NB0_370.out NB0_380.out) hg (IsS99.own_ne HI0.out HL407_0.out (by decide))) (below_weaken (bw3_ HB.out (IsS99.ge HI0.out) GE370.out GE380.out) HL.out hb) (kT_ (ki2_ HK.out GW370.out GW380.out) (KeepBut.of_grown hg g) (Kd.R_base2 HL407_0.out)) (Kd.H_grown (Kd.H_widen (by repeat (first | exact HH65.out | refine Kd.H_alloc ?_ _ | refine Kd.H_drewN ?_ _ | refine Kd.H_drew ?_))) hg (fun k_ e_ => .inl (UU65.out.1 k_ e_))) ho; clear HL407_0 HL406_0 UU65 HO_5 HH65 HK HB HI0 BK380 BK370 HO_381002 HO_381001; obtain ⟨HO_381001, HO_381002, BK370, BK380, HI0, HB, HK, HH65, HO410⟩ := z_; clear ho hb hg hat; have p64 : 0 ≤ (t389 : Int) := od_ as_; have q64 : (t389 : Int) < ((x5_2.length : Int) : Int) := od_ as_; replace p64 := eq_true p64; replace q64 := eq_true q64; obtain ⟨Ao69, co69, eo69⟩ := Kd.R_slice HO410.out; subst eo69; obtain ⟨_, _, hraw67, _, _, hcc67, _⟩ := Kd.H_raw HH65.out (od_ as_) (by have h_ : (t389 : Int) < ((x5_2.length : Int) : Int) := od_ as_; first | exact h_ | (have e_ := (HN65.out); omega) | simpa using h_); obtain ⟨_, hfr67⟩ := Kd.H_at HH65.out (od_ as_) (by have h_ : (t389 : Int) < ((x5_2.length : Int) : Int) := od_ as_; first | exact h_ | (have e_ := (HN65.out); omega) | simpa using h_); have hx67_0 := hcc67 0 _ rfl; have hf67_0 := hfr67 0; (try simp only [Nat.add_zero] at hx67_0 hf67_0); (try rw [show ((Kd.slice 30 k30)).sz = 1 from rfl, Nat.mul_one] at hx67_0); (try rw [show ((Kd.slice 30 k30)).sz = 1 from rfl, Nat.mul_one] at hf67_0); have HP67 := Kd.S_seg0 HH65.out (od_ as_) (by have h_ : (t389 : Int) < ((x5_2.length : Int) : Int) := od_ as_; first | exact h_ | (have e_ := (HN65.out); omega) | simpa using h_) (seg := [.slice Ao69 y408.length co69]) (j := 0) (show 1 ≤ 1 from by decide) (x' := y408) (Kd.M_row HO410.out) (fun _ hk => hk); (try simp only [show ((Kd.slice 30 k30)).sz = 1 from rfl, Nat.mul_one, Nat.add_zero] at HP67); clear hcc67 hfr67) | ((with_reducible refine gate_store (t := 34) (p := 40) rfl ?_); refine store_event (t := 34) (p := 40) (v := ?vo_w68) (w1 := (w66.setCell ⟨go65, (t389 : Int).toNat, none⟩ (.slice Ao69 y408.length co69))) ?hg ?ho ?hn ?hr ?_; (case ho => rfl); (case hg => rfl); (case hn => rfl); (case hr => first | (go_simp; done) | (go_simp; rfl)); intro w68 hw; have hg : w66.grownBy w68 (some go65) := (by rw [hw]; exact HP67.2); have hp_ : Kd.S (Kd.slice 30 k30) 34 w68 w.heap.size (fun _ => True) (.slice (some ⟨go65, 0, none⟩) x5_2.length co57) y411 := (by rw [hw, Ny411.out]; exact HP67.1); clear HP67; have z_ := t8_ (Kd.R_over' (v := (.slice (some ⟨go65, 0, none⟩) x5_2.length co57)) (kR_ HO_381001.out) (Kd.R_typed hraw67) (by decide) hg) (Kd.R_over' (v := (.slice (some ⟨go65, 0, none⟩) x5_2.length co57)) (kR_ HO_381002.out) (Kd.R_typed hraw67) (by decide) hg) (blk_grown (g := gb370) (o := .cells #[.string (⟨#[]⟩ : ByteArray), .slice none 0 0, .slice none 0 0] 25 (0, 0)) (bk_ BK370.out) hg (Kd.R_ne hraw67 BK370.out (by decide))) (blk_grown (g := gb380) (o := .cells #[.string t371, .slice Ao11 t372.length co11, .slice Ao12 t375.length co12] 25 (0, 0)) (bk_ BK380.out) hg (Kd.R_ne hraw67 BK380.out (by decide))) (IsS99.grown (iz2_ HI0.out NB0_370.out NB0_380.out) hg (IsS99.own_ne HI0.out hraw67 (by decide))) (by rw [hw]; exact below_set HB.out (Nat.le_trans HL.out GB65.out) : Below w0.heap.size w0 w68) (kT_ (ki2_ HK.out GW370.out GW380.out) (KeepBut.of_grown hg g) (Kd.R_base2 hraw67)) hp_; clear HH65 HO410 HK HB HI0 BK380 BK370 HO_381002 HO_381001; obtain ⟨HO_381001, HO_381002, BK370, BK380, HI0, HB, HK, HO_5⟩ := z_; clear hg hw hp_ hraw67))
            (try simp only [← hl5_2])
            go_roundg k2
            case measure => have := HJ3.out; have := HK2.out; omega
            case rel => exact ⟨(y411), H', ⟨by have := HJ3.out; have := HK2.out; omega⟩, ⟨by (try simp only [hl5_2]); refine kS_ ?_; exact HO_5.out⟩, ⟨by (try simp only [hl5_2]); refine kR_ ?_; exact HO_381001.out⟩, ⟨by (try simp only [hl5_2]); refine kR_ ?_; exact HO_381002.out⟩, ⟨by (try simp only [hl5_2]); refine bk_ ?_; exact BK370.out⟩, ⟨by (try simp only [hl5_2]); refine bk_ ?_; exact BK380.out⟩, ⟨iz2_ HI0.out NB0_370.out NB0_380.out⟩, ⟨ki2_ HK.out GW370.out GW380.out⟩, ⟨bw3_ HB.out (IsS99.ge HI0.out) GE370.out GE380.out⟩⟩
           ·rw [if_neg c63] at H
            exact absurd H (by simp)
          ·rw [if_neg c62] at H
           have c62b0 := decide_eq_false c62
           have c62b1 : decide ((rd_L2 x5_2 t389).length < 21) = false := decide_eq_false (by omega)
           (try (have c62h0 := c62b0; simp only [hl5_2] at c62h0))
           (try (have c62h1 := c62b1; simp only [hl5_2] at c62h1))
           clear c62
           simp only [Option.some.injEq, Prod.mk.injEq] at H
           obtain ⟨rfl, rfl, rfl, rfl, rfl, rfl⟩ := H
           have p406 : 0 ≤ (t389 : Int) := od_ as_
           have q406 : t389 < (x5_2.length : Int) := od_ as_
           obtain ⟨ad406, A406_0, c406_0, e406, hx406_0, hl406_0, hi406_0⟩ := at_L2 (Kd.S_reads' HO_5.out).2.2 t389 p406 q406
           cases e406
           obtain ⟨ce406, hce406, hMe406, hcc406⟩ := Kd.S_get HO_5.out [] t389 p406 (by first | exact q406 | exact od_ as_ | (have e_ := (Kd.S_reads' HO_5.out).1; omega))
           obtain ⟨ve406_0, rfl, ge406_0⟩ := hMe406
           have hv406_0 := hcc406 0 _ rfl
           rw [Nat.add_zero, show ((Kd.slice 30 k30)).sz = 1 from rfl, Nat.mul_one] at hv406_0
           replace hv406_0 := Option.some.inj (hv406_0.symm.trans hx406_0)
           rw [hv406_0] at ge406_0
           have HL406_0 := M_ (show Kd.R k30 30 _ _ _ _ (rd_L2 x5_2 t389) from ge406_0)
           clear hv406_0 ge406_0
           have HX406_0 := M_ hx406_0
           clear hcc406 hce406
           have HR406_0 := M_ hi406_0
           have HC406_0 := M_ hl406_0
           clear hi406_0 hl406_0
           replace p406 := eq_true p406
           replace q406 := eq_true q406
           have hnb70 := NB380_370.out
           have hnc70 := NB370_380.out
           have hnb71 := NB380_0.out
           have hnc71 := NB0_380.out
           have hcz72_0 : wr.cell? ⟨gb380, 0, none⟩ = some (.string t371) := (blk_cell BK380.out 0).trans rfl
           have hcz72_1 : wr.cell? ⟨gb380, 1, none⟩ = some (.slice Ao11 t372.length co11) := (blk_cell BK380.out 1).trans rfl
           have hcz72_2 : wr.cell? ⟨gb380, 2, none⟩ = some (.slice Ao12 t375.length co12) := (blk_cell BK380.out 2).trans rfl
           have hfz72_0 := fz_ BK380.out 0
           have hfz72_1 := fz_ BK380.out 1
           have hfz72_2 := fz_ BK380.out 2
           have hnb73 := NB370_0.out
           have hnc73 := NB0_370.out
           have hcz74_0 : wr.cell? ⟨gb370, 0, none⟩ = some (.string (⟨#[]⟩ : ByteArray)) := (blk_cell BK370.out 0).trans rfl
           have hcz74_1 : wr.cell? ⟨gb370, 1, none⟩ = some (.slice none 0 0) := (blk_cell BK370.out 1).trans rfl
           have hcz74_2 : wr.cell? ⟨gb370, 2, none⟩ = some (.slice none 0 0) := (blk_cell BK370.out 2).trans rfl
           have hfz74_0 := fz_ BK370.out 0
           have hfz74_1 := fz_ BK370.out 1
           have hfz74_2 := fz_ BK370.out 2
           go_wp2
           refine bodyPost_ret (results_ct rfl _ _ gb370 25 #[.string t371, .slice Ao11 t372.length co11, .slice Ao12 t375.length co12] (0, 0) _ rfl (by refine bk_ ?_; refine blk_put (cs := #[.string t371, .slice Ao11 t372.length co11, .slice none 0 0]) ?_ 2 _ rfl; refine bk_ ?_; refine blk_put (cs := #[.string t371, .slice none 0 0, .slice none 0 0]) ?_ 1 _ rfl; refine bk_ ?_; refine blk_put (cs := #[.string (⟨#[]⟩ : ByteArray), .slice none 0 0, .slice none 0 0]) ?_ 0 _ rfl; refine bk_ ?_; exact BK370.out) Try.underlying25 rfl (by kernel_rfl)) rfl ?_
           exact ⟨_, _, _, rb_, by refine kR_ ?_; exact Kd.R_mono (Kd.R_far (p := ⟨gb370, 2, none⟩) (Kd.R_far (p := ⟨gb370, 1, none⟩) (Kd.R_far (p := ⟨gb370, 0, none⟩) (Kd.R_types HO_381001.out BK370.out (by decide)) (fun _ hk => hk.2) (.string t371)) (fun _ hk => hk.2) (.slice Ao11 t372.length co11)) (fun _ hk => hk.2) (.slice Ao12 t375.length co12)) (fun _ hk => hk.1), by refine kR_ ?_; exact Kd.R_mono (Kd.R_far (p := ⟨gb370, 2, none⟩) (Kd.R_far (p := ⟨gb370, 1, none⟩) (Kd.R_far (p := ⟨gb370, 0, none⟩) (Kd.R_types HO_381002.out BK370.out (by decide)) (fun _ hk => hk.2) (.string t371)) (fun _ hk => hk.2) (.slice Ao11 t372.length co11)) (fun _ hk => hk.2) (.slice Ao12 t375.length co12)) (fun _ hk => hk.1), by refine kS_ ?_; exact Kd.S_mono (Kd.S_far (p := ⟨gb370, 2, none⟩) (Kd.S_far (p := ⟨gb370, 1, none⟩) (Kd.S_far (p := ⟨gb370, 0, none⟩) (Kd.S_types HO_5.out BK370.out (by decide)) (fun _ hk => hk.2) (.string t371)) (fun _ hk => hk.2) (.slice Ao11 t372.length co11)) (fun _ hk => hk.2) (.slice Ao12 t375.length co12)) (fun _ hk => trivial), iz2_ HI0.out NB0_370.out NB0_380.out, bw3_ HB.out (IsS99.ge HI0.out) GE370.out GE380.out, ki2_ HK.out GW370.out GW380.out⟩
         ·rw [if_neg c61] at H
          exact absurd H (by simp)
        ·rw [if_neg c60] at H
         exact absurd H (by simp)
   ·replace c19 := Bool.eq_false_iff.mpr c19
    subst c19
    rw [if_neg (show ¬ (false = true) by decide)] at H
    simp only [Option.some.injEq, Prod.mk.injEq] at H
    obtain ⟨rfl, rfl, rfl, rfl, rfl, rfl⟩ := H
    have hnb75 := NB380_370.out
    have hnc75 := NB370_380.out
    have hnb76 := NB380_0.out
    have hnc76 := NB0_380.out
    have hcz77_0 : wc.cell? ⟨gb380, 0, none⟩ = some (.string t371) := (blk_cell BK380.out 0).trans rfl
    have hcz77_1 : wc.cell? ⟨gb380, 1, none⟩ = some (.slice Ao11 t372.length co11) := (blk_cell BK380.out 1).trans rfl
    have hcz77_2 : wc.cell? ⟨gb380, 2, none⟩ = some (.slice Ao12 t375.length co12) := (blk_cell BK380.out 2).trans rfl
    have hfz77_0 := fz_ BK380.out 0
    have hfz77_1 := fz_ BK380.out 1
    have hfz77_2 := fz_ BK380.out 2
    have hnb78 := NB370_0.out
    have hnc78 := NB0_370.out
    have hcz79_0 : wc.cell? ⟨gb370, 0, none⟩ = some (.string (⟨#[]⟩ : ByteArray)) := (blk_cell BK370.out 0).trans rfl
    have hcz79_1 : wc.cell? ⟨gb370, 1, none⟩ = some (.slice none 0 0) := (blk_cell BK370.out 1).trans rfl
    have hcz79_2 : wc.cell? ⟨gb370, 2, none⟩ = some (.slice none 0 0) := (blk_cell BK370.out 2).trans rfl
    have hfz79_0 := fz_ BK370.out 0
    have hfz79_1 := fz_ BK370.out 1
    have hfz79_2 := fz_ BK370.out 2
    go_wp2
    refine bodyPost_ret (results_ct rfl _ _ gb370 25 #[.string t371, .slice Ao11 t372.length co11, .slice Ao12 t375.length co12] (0, 0) _ rfl (by refine bk_ ?_; refine blk_put (cs := #[.string t371, .slice Ao11 t372.length co11, .slice none 0 0]) ?_ 2 _ rfl; refine bk_ ?_; refine blk_put (cs := #[.string t371, .slice none 0 0, .slice none 0 0]) ?_ 1 _ rfl; refine bk_ ?_; refine blk_put (cs := #[.string (⟨#[]⟩ : ByteArray), .slice none 0 0, .slice none 0 0]) ?_ 0 _ rfl; refine bk_ ?_; exact BK370.out) Try.underlying25 rfl (by kernel_rfl)) rfl ?_
    exact ⟨_, _, _, rb_, by refine kR_ ?_; exact Kd.R_mono (Kd.R_far (p := ⟨gb370, 2, none⟩) (Kd.R_far (p := ⟨gb370, 1, none⟩) (Kd.R_far (p := ⟨gb370, 0, none⟩) (Kd.R_types HO_381001.out BK370.out (by decide)) (fun _ hk => hk.2) (.string t371)) (fun _ hk => hk.2) (.slice Ao11 t372.length co11)) (fun _ hk => hk.2) (.slice Ao12 t375.length co12)) (fun _ hk => hk.1), by refine kR_ ?_; exact Kd.R_mono (Kd.R_far (p := ⟨gb370, 2, none⟩) (Kd.R_far (p := ⟨gb370, 1, none⟩) (Kd.R_far (p := ⟨gb370, 0, none⟩) (Kd.R_types HO_381002.out BK370.out (by decide)) (fun _ hk => hk.2) (.string t371)) (fun _ hk => hk.2) (.slice Ao11 t372.length co11)) (fun _ hk => hk.2) (.slice Ao12 t375.length co12)) (fun _ hk => hk.1), by refine kS_ ?_; exact Kd.S_mono (Kd.S_far (p := ⟨gb370, 2, none⟩) (Kd.S_far (p := ⟨gb370, 1, none⟩) (Kd.S_far (p := ⟨gb370, 0, none⟩) (Kd.S_types HO_5.out BK370.out (by decide)) (fun _ hk => hk.2) (.string t371)) (fun _ hk => hk.2) (.slice Ao11 t372.length co11)) (fun _ hk => hk.2) (.slice Ao12 t375.length co12)) (fun _ hk => trivial), iz2_ HI0.out NB0_370.out NB0_380.out, bw3_ HB.out (IsS99.ge HI0.out) GE370.out GE380.out, ki2_ HK.out GW370.out GW380.out⟩

end Go.Proofs.Ytilbngklgjjblaa.Q
