/- Contracts of Go functions over this translation. Conditions: those that each theorem names. -/
import Derived.Test.YtilbngklgjjblaaQ0
import Derived.Test.YtilbngklgjjblaaQ1
import Derived.Test.YtilbngklgjjblaaQ7
import Derived.Test.YtilbngklgjjblaaQ15
namespace Go.Proofs.Ytilbngklgjjblaa.Q
open Go.RowKit Go.Proofs.YtilbngklgjjblaaW.PrintWords Go.Proofs.YtilbngklgjjblaaW.PrintLast Go.Proofs.YtilbngklgjjblaaW.PrintMore
attribute [local go_sem] max2_int min2_int max_two min_two max_three min_three max_four min_four
set_option linter.unusedVariables false
set_option linter.unusedSimpArgs false

def spec_DrawWearMatrix.f (k : Nat) (l0 : List Int) : Option (ByteArray × List Int × List Int × (List (List (S30))) × Int × Int × Int) := (spec_l01New.f k l0).bind fun bt386 => ((spec_l2Both.f k bt386.1 bt386.2.1 bt386.2.2).bind fun bt390 => ((spec_l01Below.f bt386.1 bt390.2.2.2.2.1 bt390.2.2.2.2.2 (wrap64 ((bt390.2.2.2.1.length : Int) + 2))).bind fun bt403 => ((spec_l01Below.f bt386.1 bt403.2.1 bt403.2.2 5).bind fun bt406 => ((spec_l1In.f (wrap64 (bt403.1 - 1)) 0 (wrap64 ((bt390.2.2.2.1.length : Int) - 1))).bind fun t409 => (if t409 = true then (if 0 ≤ (wrap64 (bt403.1 - 1)) then (if (wrap64 (bt403.1 - 1)) < (bt390.2.2.2.1.length : Int) then ((spec_l01Below.f bt386.1 bt406.2.1 bt406.2.2 (wrap64 (((rd_L2 bt390.2.2.2.1 (wrap64 (bt403.1 - 1))).length : Int) + 1))).bind fun bt411 => ((spec_l01Int.f bt386.1 bt411.2.1 bt411.2.2 (([0, 1, 2, 3, 4, 5, 6, 0, 1, 2, 3, 4, (-1), 7] : List Int))).bind fun bt417 => (some (bt390.1, bt390.2.1, bt390.2.2.1, bt390.2.2.2.1, wrap64 (bt403.1 - 1), bt411.1, bt417.1)))) else (none)) else (none)) else ((spec_l01Int.f bt386.1 bt406.2.1 bt406.2.2 (([0, 1, 2, 3, 4, 5, 6, 0, 1, 2, 3, 4, (-1), 7] : List Int))).bind fun bt423 => (some (bt390.1, bt390.2.1, bt390.2.2.1, bt390.2.2.2.1, wrap64 (bt403.1 - 1), wrap64 (bt406.1 - 1), bt423.1))))))))
theorem spec_DrawWearMatrix.mono : ∀ a0 k, LeO (spec_DrawWearMatrix.f k a0) (spec_DrawWearMatrix.f (k + 1) a0) := by
 intro a0 k
 unfold spec_DrawWearMatrix.f
 repeat' first | (with_reducible first | exact spec_l01New.mono _ _ | exact spec_l2Both.mono _ _ _ _ | exact LeO.refl _ | exact LeO.none _ | refine LeO.ite ?_ ?_ | refine LeO.bind ?_ (fun _ => ?_)) | exact spec_l01New.mono _ _ | exact spec_l2Both.mono _ _ _ _ | exact LeO.none _ | refine LeO.ite ?_ ?_ | refine LeO.bind ?_ (fun _ => ?_)
def spec_DrawWearMatrix.T7 : Bool × List (List Nat × List Nat) := (true, [([], []), ([], []), ([], []), ([], []), ([], []), ([], []), ([4, 5], [4, 5]), ([0, 6, 0], [0]), ([1, 7, 0, 1, 7], [1]), ([2, 8, 0, 1, 2, 7, 8], [2]), ([3, 9, 0, 1, 2, 3, 7, 8, 9], [3]), ([6, 10, 0, 1, 2, 3, 4, 5, 6, 7, 8, 9, 10], [6])])
def spec_DrawWearMatrix.B7 : List Nat := [0, 0, 0, 0, 0, 0, 48, 113, 243, 503, 1023, 2047]
theorem spec_DrawWearMatrix.tab7 : rtab .any (opsOf Try.f63 7) = spec_DrawWearMatrix.T7 := by kernel_rfl
theorem spec_DrawWearMatrix.bits7 : waitsOk spec_DrawWearMatrix.T7.2 spec_DrawWearMatrix.B7 = true := by kernel_rfl
set_option maxHeartbeats 8000000 in
set_option maxRecDepth 100000 in
theorem spec_DrawWearMatrix.calls (k : Nat) (A0 : Option Addr) (c0 : Nat) (l0 : List Int) (r1 : ByteArray) (r2 : List Int) (r3 : List Int) (r4 : List (List (S30))) (r5 : Int) (r6 : Int) (r7 : Int) (w : World) (hr0 : Kd.C (Kd.int .u8) w A0 l0.length l0) (hc0 : l0.length ≤ c0) (h : spec_DrawWearMatrix.f k l0 = some (r1, r2, r3, r4, r5, r6, r7)) :
    Calls Try.prog 63 #[.slice A0 l0.length c0] w fun e w' => ∃ v1_ v2_ v3_ : Value, e = .returned (.tuple #[.agg #[.string r1, v1_, v2_], v3_, .int .i64 r5, .int .i64 r6, .int .i64 r7]) ∧ Kd.R (Kd.int .i64) 3 w' w.heap.size (fun k_ => some k_ ≠ (v2_ : Value).ownBlock) v1_ r2 ∧ Kd.R (Kd.int .i64) 3 w' w.heap.size (fun k_ => some k_ ≠ (v1_ : Value).ownBlock) v2_ r3 ∧ Kd.S (Kd.slice 30 k30) 34 w' w.heap.size (fun _ => True) v3_ r4 ∧ Below w.heap.size w w' := by
 have hu25 := Try.underlying25
 have HR0 := M_ hr0
 have HC0 := M_ hc0
 clear hr0 hc0
 have HB := M_ (Below.refl w.heap.size w)
 have H : ((spec_l01New.f k l0).bind fun bt386 => ((spec_l2Both.f k bt386.1 bt386.2.1 bt386.2.2).bind fun bt390 => ((spec_l01Below.f bt386.1 bt390.2.2.2.2.1 bt390.2.2.2.2.2 (wrap64 ((bt390.2.2.2.1.length : Int) + 2))).bind fun bt403 => ((spec_l01Below.f bt386.1 bt403.2.1 bt403.2.2 5).bind fun bt406 => ((spec_l1In.f (wrap64 (bt403.1 - 1)) 0 (wrap64 ((bt390.2.2.2.1.length : Int) - 1))).bind fun t409 => (if t409 = true then (if 0 ≤ (wrap64 (bt403.1 - 1)) then (if (wrap64 (bt403.1 - 1)) < (bt390.2.2.2.1.length : Int) then ((spec_l01Below.f bt386.1 bt406.2.1 bt406.2.2 (wrap64 (((rd_L2 bt390.2.2.2.1 (wrap64 (bt403.1 - 1))).length : Int) + 1))).bind fun bt411 => ((spec_l01Int.f bt386.1 bt411.2.1 bt411.2.2 (([0, 1, 2, 3, 4, 5, 6, 0, 1, 2, 3, 4, (-1), 7] : List Int))).bind fun bt417 => (some (bt390.1, bt390.2.1, bt390.2.2.1, bt390.2.2.2.1, wrap64 (bt403.1 - 1), bt411.1, bt417.1)))) else (none)) else (none)) else ((spec_l01Int.f bt386.1 bt406.2.1 bt406.2.2 (([0, 1, 2, 3, 4, 5, 6, 0, 1, 2, 3, 4, (-1), 7] : List Int))).bind fun bt423 => (some (bt390.1, bt390.2.1, bt390.2.2.1, bt390.2.2.2.1, wrap64 (bt403.1 - 1), wrap64 (bt406.1 - 1), bt423.1))))))))) = some (r1, r2, r3, r4, r5, r6, r7) := h
 clear h
 replace H := bs_ H
 obtain ⟨⟨t386, t387, t388⟩, A20, H⟩ := H
 dsimp only at H
 have A2 := M_ A20
 clear A20
 replace H := bs_ H
 obtain ⟨⟨t390, t391, t394, t397, t400, t401⟩, A30, H⟩ := H
 dsimp only at H
 have A3 := M_ A30
 clear A30
 replace H := bs_ H
 obtain ⟨⟨t403, t404, t405⟩, A40, H⟩ := H
 dsimp only at H
 have A4 := M_ A40
 clear A40
 replace H := bs_ H
 obtain ⟨⟨t406, t407, t408⟩, A50, H⟩ := H
 dsimp only at H
 have A5 := M_ A50
 clear A50
 replace H := bs_ H
 obtain ⟨t409, A60, H⟩ := H
 (try dsimp only at H)
 have A6 := M_ A60
 clear A60
 by_cases c7 : t409 = true
 ·subst c7
  rw [if_pos rfl] at H
  obtain ⟨ji8, hji8⟩ : ∃ j_ : Int, (wrap64 (t403 - 1)) = j_ := ⟨_, rfl⟩
  replace H : (if 0 ≤ (ji8) then (if (ji8) < (t397.length : Int) then ((spec_l01Below.f t386 t407 t408 (wrap64 (((rd_L2 t397 (ji8)).length : Int) + 1))).bind fun bt411 => ((spec_l01Int.f t386 bt411.2.1 bt411.2.2 (([0, 1, 2, 3, 4, 5, 6, 0, 1, 2, 3, 4, (-1), 7] : List Int))).bind fun bt417 => (some (t390, t391, t394, t397, ji8, bt411.1, bt417.1)))) else (none)) else (none)) = some (r1, r2, r3, r4, r5, r6, r7) := by first | (rw [hji8] at H; exact H) | (simp only [hji8] at H ⊢; exact H)
  (try rw [hji8] at A2)
  (try rw [hji8] at A3)
  (try rw [hji8] at A4)
  (try rw [hji8] at A5)
  (try rw [hji8] at A6)
  have hji8w : (IntKind.i64.wrap (t403 - 1)) = ji8 := (i64_w _).trans hji8
  by_cases c9 : 0 ≤ (ji8)
  ·rw [if_pos c9] at H
   have c9b0 := dt_ c9
   clear c9
   by_cases c10 : (ji8) < (t397.length : Int)
   ·rw [if_pos c10] at H
    have c10b0 := dt_ c10
    clear c10
    replace H := bs_ H
    obtain ⟨⟨t411, t412, t413⟩, A110, H⟩ := H
    dsimp only at H
    have A11 := M_ A110
    clear A110
    obtain ⟨y414, hy414⟩ : ∃ y_ : List Int, y_ = (([0, 1, 2, 3, 4, 5, 6, 0, 1, 2, 3, 4, (-1), 7] : List Int)) := ⟨_, rfl⟩
    replace H : ((spec_l01Int.f t386 t412 t413 y414).bind fun bt417 => (some (t390, t391, t394, t397, ji8, t411, bt417.1))) = some (r1, r2, r3, r4, r5, r6, r7) := by first | (rw [hy414]; with_reducible exact H) | (have H2_ := (Option.bind_some _ _).symm.trans H; rw [hy414]; with_reducible exact H2_) | (have H2_ := (Option.bind_some _ _).symm.trans H; with_reducible exact H2_) | with_reducible exact H | (rw [hy414]; exact H) | exact H
    have Ny414 := M_ hy414
    clear hy414
    replace H := bs_ H
    obtain ⟨⟨t417, t418, t419⟩, A120, H⟩ := H
    dsimp only at H
    have A12 := M_ A120
    clear A120
    simp only [Option.some.injEq, Prod.mk.injEq] at H
    obtain ⟨rfl, rfl, rfl, rfl, rfl, rfl, rfl⟩ := H
    go_enter Try.func63, Try.ntmps63
    try go_wp2_with (first | ((with_reducible refine gate_dst (N := 2) rfl ?_); refine be_ 2 #[.string (⟨#[]⟩ : ByteArray), .slice none 0 0, .slice none 0 0] 25 ?_; intro gb385 hg w13 hbox hb; have z_ := t3_ (bS_ (bw0_ HB.out) hb) hbox (gv_ hg (bw0_ HB.out) : w.heap.size ≤ gb385); clear HB; obtain ⟨HB, BK385, GE385⟩ := z_; clear hb hbox hg) | ((with_reducible refine gate_callee (f := 71) rfl ?_); refine gl_ (some 13) Try.func71 #[.slice A0 l0.length c0] ?_; (with_reducible refine (spec_l01New.calls k _ _ l0 t386 t387 t388 w _ ?side1 ?side2 ?side3 A2.out).mono ?_); (case side1 => exact bw1_ HB.out GE385.out); (case side2 => exact HR0.out); (case side3 => exact HC0.out); rintro e w14 ⟨g389, rfl, hi, hb, hb2⟩; refine ⟨_, rfl, ?_⟩; have z_ := t5_ (bB_ (bk_ BK385.out) hb2) hb hi (IsS99.ne_blk hi (bB_ (bk_ BK385.out) hb2) (by decide)) (Ne.symm (IsS99.ne_blk hi (bB_ (bk_ BK385.out) hb2) (by decide))); clear HB BK385; obtain ⟨BK385, HB, HI389, NB389_385, NB385_389⟩ := z_; (try clear hi hb2 hb)) | ((with_reducible refine gate_callee (f := 72) rfl ?_); refine gl_ (some 16) Try.func72 #[.pointer (some ⟨g389, 0, none⟩)] ?_; (with_reducible refine (spec_l2Both.calls k g389 t386 t387 t388 t390 t391 t394 t397 t400 t401 w _ ?side1 ?side2 A3.out).mono ?_); (case side1 => exact iz1_ HI389.out NB389_385.out); (case side2 => exact bw2_ HB.out (IsS99.ge HI389.out) GE385.out); rintro e w15 ⟨v392, v395, v398, rfl, ho0, ho1, ho2, hi, hb, hk⟩; refine ⟨_, rfl, ?_⟩; have z_ := t6_ (KeepBut.blk hk (bk_ BK385.out) NB385_389.out (by simp)) (Kd.R_lower ho0 (below_size (bw2_ HB.out (IsS99.ge HI389.out) GE385.out))) (Kd.R_lower ho1 (below_size (bw2_ HB.out (IsS99.ge HI389.out) GE385.out))) (Kd.S_lower ho2 (below_size (bw2_ HB.out (IsS99.ge HI389.out) GE385.out))) hb hi; clear HI389 HB BK385; obtain ⟨BK385, HO393, HO396, HO399, HB, HI389⟩ := z_; (try clear ho2 ho1 ho0 hi hk hb)) | ((with_reducible refine gate_dst (N := 8) rfl ?_); refine be_ 8 #[.string (⟨#[]⟩ : ByteArray), .slice none 0 0, .slice none 0 0] 25 ?_; intro gb402 hg w16 hbox hb; have z_ := t10_ (rB_ (kR_ HO393.out) hb) (rB_ (kR_ HO396.out) hb) (sB_ (kS_ HO399.out) hb) (bB_ (bk_ BK385.out) hb) (IsS99.below (iz1_ HI389.out NB389_385.out) hb) (bS_ (bw2_ HB.out (IsS99.ge HI389.out) GE385.out) hb) hbox (by rw [hg]; exact (below_size (bw2_ HB.out (IsS99.ge HI389.out) GE385.out)) : w.heap.size ≤ gb402) (by rw [hg]; exact Nat.ne_of_lt (blk_lt (bk_ BK385.out)) : gb385 ≠ gb402) (by rw [hg]; exact Nat.ne_of_lt (IsS99.lt (show IsS99 w _ g389 t386 t400 t401 from iz1_ HI389.out NB389_385.out)) : g389 ≠ gb402); clear HB HI389 BK385 HO399 HO396 HO393; obtain ⟨HO393, HO396, HO399, BK385, HI389, HB, BK402, GE402, NB385_402, NB389_402⟩ := z_; have NB402_385 := M_ NB385_402.out.symm; have NB402_389 := M_ NB389_402.out.symm; clear hb hbox hg; have hnb17 := NB402_385.out; have hnc17 := NB385_402.out; have hnb18 := NB402_389.out; have hnc18 := NB389_402.out; have hcz19_0 := cz_ BK402.out 0 (.string (⟨#[]⟩ : ByteArray)); have hcz19_1 := cz_ BK402.out 1 (.slice none 0 0); have hcz19_2 := cz_ BK402.out 2 (.slice none 0 0); have hfz19_0 := fz_ BK402.out 0; have hfz19_1 := fz_ BK402.out 1; have hfz19_2 := fz_ BK402.out 2; obtain ⟨Ao20, co20, eo20⟩ := Kd.R_slice HO393.out; subst eo20; obtain ⟨Ao21, co21, eo21⟩ := Kd.R_slice HO396.out; subst eo21; obtain ⟨Ao22, co22, eo22⟩ := Kd.S_slice HO399.out; subst eo22) | ((with_reducible refine gate_callee (f := 73) rfl ?_); refine gl_ (some 23) Try.func73 #[.pointer (some ⟨g389, 0, none⟩), .int .i64 (wrap64 ((t397.length : Int) + 2))] ?_; (with_reducible refine (spec_l01Below.calls g389 t386 t400 t401 (wrap64 ((t397.length : Int) + 2)) t403 t404 t405 w _ ?side1 ?side2 A4.out).mono ?_); (case side1 => exact iz2_ HI389.out NB389_385.out NB389_402.out); (case side2 => exact bw3_ HB.out (IsS99.ge HI389.out) GE385.out GE402.out); rintro e w23 ⟨rfl, hi, hb, hk⟩; refine ⟨_, rfl, ?_⟩; have z_ := t7_ (KeepBut.blk hk (g' := gb385) (o := .cells #[.string (⟨#[]⟩ : ByteArray), .slice none 0 0, .slice none 0 0] 25 (0, 0)) (by refine bk_ ?_; refine blk_far ?_ NB385_402.out _; refine bk_ ?_; refine blk_far ?_ NB385_402.out _; refine bk_ ?_; refine blk_far ?_ NB385_402.out _; refine bk_ ?_; exact BK385.out) NB385_389.out (by simp)) (Kd.R_mono (Kd.R_keep (IsS99.apart (show IsS99 w _ g389 t386 t400 t401 from iz2_ HI389.out NB389_385.out NB389_402.out) (by refine kR_ ?_; exact (fR3_ HO393.out BK402.out)) (by decide)) hk (fun _ h => h.2)) (fun _ h => h.1)) (Kd.R_mono (Kd.R_keep (IsS99.apart (show IsS99 w _ g389 t386 t400 t401 from iz2_ HI389.out NB389_385.out NB389_402.out) (by refine kR_ ?_; exact (fR3_ HO396.out BK402.out)) (by decide)) hk (fun _ h => h.2)) (fun _ h => h.1)) (Kd.S_mono (Kd.S_keep (IsS99.apartS (show IsS99 w _ g389 t386 t400 t401 from iz2_ HI389.out NB389_385.out NB389_402.out) (by refine kS_ ?_; exact (fS3_ HO399.out BK402.out)) (by decide)) hk (fun _ h => h.2)) (fun _ h => h.1)) (KeepBut.blk hk (g' := gb402) (o := .cells #[.string t390, .slice Ao20 t391.length co20, .slice Ao21 t394.length co21] 25 (0, 0)) (by refine bk_ ?_; refine blk_put (cs := #[.string t390, .slice Ao20 t391.length co20, .slice none 0 0]) ?_ 2 _ rfl; refine bk_ ?_; refine blk_put (cs := #[.string t390, .slice none 0 0, .slice none 0 0]) ?_ 1 _ rfl; refine bk_ ?_; refine blk_put (cs := #[.string (⟨#[]⟩ : ByteArray), .slice none 0 0, .slice none 0 0]) ?_ 0 _ rfl; refine bk_ ?_; exact BK402.out) NB402_389.out (by simp)) hb hi; clear HI389 HB BK402 HO399 HO396 HO393 BK385; obtain ⟨BK385, HO393, HO396, HO399, BK402, HB, HI389⟩ := z_; (try clear hi hk hb)) | ((with_reducible refine gate_callee (f := 73) rfl ?_); refine gl_ (some 26) Try.func73 #[.pointer (some ⟨g389, 0, none⟩), .int .i64 5] ?_; (with_reducible refine (spec_l01Below.calls g389 t386 t404 t405 5 t406 t407 t408 w _ ?side1 ?side2 A5.out).mono ?_); (case side1 => exact iz2_ HI389.out NB389_385.out NB389_402.out); (case side2 => exact bw3_ HB.out (IsS99.ge HI389.out) GE385.out GE402.out); rintro e w24 ⟨rfl, hi, hb, hk⟩; refine ⟨_, rfl, ?_⟩; have z_ := t7_ (KeepBut.blk hk (bk_ BK385.out) NB385_389.out (by simp)) (Kd.R_mono (Kd.R_keep (IsS99.apart (show IsS99 w _ g389 t386 t404 t405 from iz2_ HI389.out NB389_385.out NB389_402.out) (kR_ HO393.out) (by decide)) hk (fun _ h => h.2)) (fun _ h => h.1)) (Kd.R_mono (Kd.R_keep (IsS99.apart (show IsS99 w _ g389 t386 t404 t405 from iz2_ HI389.out NB389_385.out NB389_402.out) (kR_ HO396.out) (by decide)) hk (fun _ h => h.2)) (fun _ h => h.1)) (Kd.S_mono (Kd.S_keep (IsS99.apartS (show IsS99 w _ g389 t386 t404 t405 from iz2_ HI389.out NB389_385.out NB389_402.out) (kS_ HO399.out) (by decide)) hk (fun _ h => h.2)) (fun _ h => h.1)) (KeepBut.blk hk (bk_ BK402.out) NB402_389.out (by simp)) hb hi; clear HI389 HB BK402 HO399 HO396 HO393 BK385; obtain ⟨BK385, HO393, HO396, HO399, BK402, HB, HI389⟩ := z_; (try clear hi hk hb)) | ((with_reducible refine gate_callee (f := 81) rfl ?_); refine goesL_ (some 32) rfl rfl Try.func81 (by kernel_rfl) rfl #[.int .i64 ji8, .int .i64 0, .int .i64 (wrap64 ((t397.length : Int) - 1))] rfl (by (try simp only [List.map_toArray, List.map_cons, List.map_nil]); first | done | (simp only [hji8]; rfl) | rfl | (simp only [List.length_drop, List.length_take]; rfl)) ?_; (with_reducible refine (spec_l1In.calls ji8 0 (wrap64 ((t397.length : Int) - 1)) true _ A6.out).mono ?_); rintro e w' ⟨rfl, ⟨nd, rfl⟩⟩; refine ⟨_, rfl, ?_⟩; (try (rw [drewN_self w24]; generalize hq_ : World.drewN w24 _ = w24; have n0_ : Aside0 (Kd.R (Kd.int .i64) 3 w24 w.heap.size (fun k_ => some k_ ≠ (.slice Ao21 t394.length co21 : Value).ownBlock) (.slice Ao20 t391.length co20) t391) := ⟨by rw [← hq_]; exact (kR_ HO393.out)⟩; have n1_ : Aside0 (Kd.R (Kd.int .i64) 3 w24 w.heap.size (fun k_ => some k_ ≠ (.slice Ao20 t391.length co20 : Value).ownBlock) (.slice Ao21 t394.length co21) t394) := ⟨by rw [← hq_]; exact (kR_ HO396.out)⟩; have n2_ : Aside0 (Kd.S (Kd.slice 30 k30) 34 w24 w.heap.size (fun _ => True) (.slice Ao22 t397.length co22) t397) := ⟨by rw [← hq_]; exact (kS_ HO399.out)⟩; have n3_ : Aside0 (w24.heap[gb385]? = some (.cells #[.string (⟨#[]⟩ : ByteArray), .slice none 0 0, .slice none 0 0] 25 (0, 0))) := ⟨by rw [← hq_]; exact (bk_ BK385.out)⟩; have n4_ : Aside0 (w24.heap[gb402]? = some (.cells #[.string t390, .slice Ao20 t391.length co20, .slice Ao21 t394.length co21] 25 (0, 0))) := ⟨by rw [← hq_]; exact (bk_ BK402.out)⟩; have n5_ : Aside0 (IsS99 w w24 g389 t386 t407 t408) := ⟨by rw [← hq_]; exact (iz2_ HI389.out NB389_385.out NB389_402.out)⟩; have n6_ : Aside0 (Below w.heap.size w w24) := ⟨by rw [← hq_]; exact (bw3_ HB.out (IsS99.ge HI389.out) GE385.out GE402.out)⟩; clear HO393 HO396 HO399 BK385 BK402 HI389 HB hq_; have HO393 := n0_; have HO396 := n1_; have HO399 := n2_; have BK385 := n3_; have BK402 := n4_; have HI389 := n5_; have HB := n6_; clear n0_ n1_ n2_ n3_ n4_ n5_ n6_)); have p410 : 0 ≤ ((ji8) : Int) := od_ as_; have q410 : (ji8) < (t397.length : Int) := od_ as_; obtain ⟨ad410, A410_0, c410_0, e410, hx410_0, hl410_0, hi410_0⟩ := at_L2 (Kd.S_reads' HO399.out).2.2 (ji8) p410 q410; cases e410; obtain ⟨ce410, hce410, hMe410, hcc410⟩ := Kd.S_get HO399.out [] (ji8) p410 (by first | exact q410 | exact od_ as_ | (have e_ := (Kd.S_reads' HO399.out).1; omega)); obtain ⟨ve410_0, rfl, ge410_0⟩ := hMe410; have hv410_0 := hcc410 0 _ rfl; rw [Nat.add_zero, show ((Kd.slice 30 k30)).sz = 1 from rfl, Nat.mul_one] at hv410_0; replace hv410_0 := Option.some.inj (hv410_0.symm.trans hx410_0); rw [hv410_0] at ge410_0; have HL410_0 := M_ (show Kd.R k30 30 _ _ _ _ (rd_L2 t397 (ji8)) from ge410_0); clear hce410 hcc410 ge410_0 hv410_0; have HR410_0 := M_ hi410_0; have HC410_0 := M_ hl410_0; clear hi410_0 hl410_0; replace p410 := eq_true p410; replace q410 := eq_true q410) | ((with_reducible refine gate_callee (f := 73) rfl ?_); refine goesL_ (some 40) rfl rfl Try.func73 (by kernel_rfl) rfl #[.pointer (some ⟨g389, 0, none⟩), .int .i64 (wrap64 (((rd_L2 t397 (ji8)).length : Int) + 1))] rfl (by (try simp only [List.map_toArray, List.map_cons, List.map_nil]); first | done | (simp only [hji8]; rfl) | rfl | (simp only [List.length_drop, List.length_take]; rfl)) ?_; (with_reducible refine (spec_l01Below.calls g389 t386 t407 t408 (wrap64 (((rd_L2 t397 (ji8)).length : Int) + 1)) t411 t412 t413 w _ ?side1 ?side2 A11.out).mono ?_); (case side1 => exact iz2_ HI389.out NB389_385.out NB389_402.out); (case side2 => exact bw3_ HB.out (IsS99.ge HI389.out) GE385.out GE402.out); rintro e w25 ⟨rfl, hi, hb, hk⟩; refine ⟨_, rfl, ?_⟩; have z_ := t7_ (KeepBut.blk hk (bk_ BK385.out) NB385_389.out (by simp)) (Kd.R_mono (Kd.R_keep (IsS99.apart (show IsS99 w _ g389 t386 t407 t408 from iz2_ HI389.out NB389_385.out NB389_402.out) (kR_ HO393.out) (by decide)) hk (fun _ h => h.2)) (fun _ h => h.1)) (Kd.R_mono (Kd.R_keep (IsS99.apart (show IsS99 w _ g389 t386 t407 t408 from iz2_ HI389.out NB389_385.out NB389_402.out) (kR_ HO396.out) (by decide)) hk (fun _ h => h.2)) (fun _ h => h.1)) (Kd.S_mono (Kd.S_keep (IsS99.apartS (show IsS99 w _ g389 t386 t407 t408 from iz2_ HI389.out NB389_385.out NB389_402.out) (kS_ HO399.out) (by decide)) hk (fun _ h => h.2)) (fun _ h => h.1)) (KeepBut.blk hk (bk_ BK402.out) NB402_389.out (by simp)) hb hi; clear BK402 HO399 HO396 HO393 BK385; (try clear HL410_0); clear HI389 HB; obtain ⟨BK385, HO393, HO396, HO399, BK402, HB, HI389⟩ := z_; (try clear hi hk hb)))
    have z_ := t7_ (Kd.R_drew HO393.out) (Kd.R_drew HO396.out) (Kd.S_drew HO399.out) (blk_drew BK385.out) (blk_drew BK402.out) (IsS99.drew HI389.out) (below_drew1 HB.out)
    clear HO399 HO396 HO393
    (try clear HL410_0)
    clear HB HI389 BK402 BK385
    obtain ⟨HO393, HO396, HO399, BK385, BK402, HI389, HB⟩ := z_
    refine start_ (n := 12) (S := fun w' => w'.cell? ⟨gb402, 0, none⟩ = some (.string t390) ∧ w'.cell? ⟨gb402, 1, none⟩ = some (.slice Ao20 t391.length co20) ∧ w'.cell? ⟨gb402, 2, none⟩ = some (.slice Ao21 t394.length co21)) (ds := []) (mk_ 12 0) (by kernel_rfl) rfl rfl ⟨(blk_cell BK402.out 0).trans rfl, (blk_cell BK402.out 1).trans rfl, (blk_cell BK402.out 2).trans rfl⟩ (fun hHeld => ?_); refine with_tabW spec_DrawWearMatrix.tab7 spec_DrawWearMatrix.bits7 (fun HT_ HW_ => ?_)
    generalize w25.drew = w26 at HO393 HO396 HO399 BK385 BK402 HI389 HB hHeld ⊢
    refine pu_ 1 (some 42) (mk_ 12 2) HT_.out ?_
    refine pu_ 2 (some 43) (mk_ 12 6) HT_.out ?_
    refine pu_ 3 (some 44) (mk_ 12 14) HT_.out ?_
    refine pu_ 4 (some 45) (mk_ 12 30) HT_.out ?_
    refine ta_ 0 (some 41) (mk_ 12 31) HT_.out HW_.out hHeld (hy := by rintro w' ⟨s0, s1, s2⟩; go_simp; with_reducible rfl) (h := ?_)
    refine on_ 5 (some 46) (mk_ 12 63) HT_.out fun K hK => ?_
    refine Kd.R_lit_step (Kd.int .i64) _ 3 ?hg (N := 46) ?hd (xs := ([0, 1, 2, 3, 4, 5, 6, 0, 1, 2, 3, 4, (-1), 7] : List Int)) (inner := [.int .i64 0, .int .i64 1, .int .i64 2, .int .i64 3, .int .i64 4, .int .i64 5, .int .i64 6, .int .i64 0, .int .i64 1, .int .i64 2, .int .i64 3, .int .i64 4, .int .i64 (-1), .int .i64 7]) (ok := fun _ => True) (okp := fun _ => True) ?hr ?hp (fun _ hk => hk) trivial (Below.refl _ _) (Nat.le_refl _) (by simp) ?_; (case hd => rfl); (case hg => rfl); (case hr => first | (go_simp; done) | (go_simp; rfl)); (case hp => exact (Reps.one (show Kd.M (Kd.int .i64) _ _ _ 0 [.int .i64 0] from rfl) (Reps.one (show Kd.M (Kd.int .i64) _ _ _ 1 [.int .i64 1] from rfl) (Reps.one (show Kd.M (Kd.int .i64) _ _ _ 2 [.int .i64 2] from rfl) (Reps.one (show Kd.M (Kd.int .i64) _ _ _ 3 [.int .i64 3] from rfl) (Reps.one (show Kd.M (Kd.int .i64) _ _ _ 4 [.int .i64 4] from rfl) (Reps.one (show Kd.M (Kd.int .i64) _ _ _ 5 [.int .i64 5] from rfl) (Reps.one (show Kd.M (Kd.int .i64) _ _ _ 6 [.int .i64 6] from rfl) (Reps.one (show Kd.M (Kd.int .i64) _ _ _ 0 [.int .i64 0] from rfl) (Reps.one (show Kd.M (Kd.int .i64) _ _ _ 1 [.int .i64 1] from rfl) (Reps.one (show Kd.M (Kd.int .i64) _ _ _ 2 [.int .i64 2] from rfl) (Reps.one (show Kd.M (Kd.int .i64) _ _ _ 3 [.int .i64 3] from rfl) (Reps.one (show Kd.M (Kd.int .i64) _ _ _ 4 [.int .i64 4] from rfl) (Reps.one (show Kd.M (Kd.int .i64) _ _ _ (-1) [.int .i64 (-1)] from rfl) (Reps.one (show Kd.M (Kd.int .i64) _ _ _ 7 [.int .i64 7] from rfl) (Reps.none _ _))))))))))))))))
    intro v415 w27 ho28 hb hg_ hnew_
    clear hg_ hnew_
    (first | rw [← Ny414.out] at ho28 | (simp only [Int.reduceToNat] at ho28; rw [← Ny414.out] at ho28))
    have z_ := t8_ (Kd.R_elder' (kR_ HO393.out) (Kd.R_base ho28) hb) (Kd.R_elder' (kR_ HO396.out) (Kd.R_base ho28) hb) (sB_ (kS_ HO399.out) hb) (Kd.R_lower (Kd.R_new' (Kd.R_new' ho28 (Kd.R_lt (kR_ HO393.out))) (Kd.R_lt (kR_ HO396.out))) (below_size (bw3_ HB.out (IsS99.ge HI389.out) GE385.out GE402.out))) (bB_ (bk_ BK385.out) hb) (IsS99.below (iz2_ HI389.out NB389_385.out NB389_402.out) hb) (bB_ (bk_ BK402.out) hb) (bS_ (bw3_ HB.out (IsS99.ge HI389.out) GE385.out GE402.out) hb)
    clear HO399 HO396 HO393
    (try clear HL410_0)
    clear HB BK402 HI389 BK385
    obtain ⟨HO393, HO396, HO399, HO416, BK385, HI389, BK402, HB⟩ := z_
    clear hb ho28
    obtain ⟨Ao29, co29, eo29⟩ := Kd.R_slice HO416.out
    (first | subst eo29 | (injection eo29 with f1_ f2_ f3_; have f4_ := f1_.symm; have f5_ := f3_.symm; clear f1_ f2_ f3_; subst f4_; subst f5_))
    refine hK.out _ _ ⟨(blk_cell BK402.out 0).trans rfl, (blk_cell BK402.out 1).trans rfl, (blk_cell BK402.out 2).trans rfl⟩ (fun hHeld => ?_)
    clear hK K
    refine norm_ (a' := ?_) ?_ ?_
    rotate_left
    ·show Act.put _ (some 46) _ = _
     simp only [Act.put, lA_, lB_, lC_, i64_w, i32_w]
     rfl
    refine on_ 6 (some 47) (mk_ 12 127) HT_.out fun K hK => ?_
    refine goes_ Try.func95 (by kernel_rfl) rfl #[.pointer (some ⟨g389, 0, none⟩), .slice Ao29 y414.length co29] (by rfl) rfl rfl ar_ ?_
    with_reducible refine (spec_l01Int.calls g389 t386 t412 t413 _ _ y414 t417 t418 t419 w _ ?side1 ?side2 ?side3 ?side4 ?side5 A12.out).mono ?_
    (case side1 => exact iz2_ HI389.out NB389_385.out NB389_402.out)
    (case side2 => exact bw3_ HB.out (IsS99.ge HI389.out) GE385.out GE402.out)
    (case side3 => exact kD_ (Kd.R_reads' HO416.out).2.2)
    (case side4 => exact (Kd.R_reads' HO416.out).2.1)
    (case side5 => exact far_slice (IsS99.own_ne HI389.out HO416.out (by decide)))
    rintro e w30 ⟨rfl, hi, hb, hk⟩
    refine ⟨_, rfl, ?_⟩
    have z_ := t7_ (KeepBut.blk hk (bk_ BK385.out) NB385_389.out (by simp)) (Kd.R_mono (Kd.R_keep (IsS99.apart (show IsS99 w _ g389 t386 t412 t413 from iz2_ HI389.out NB389_385.out NB389_402.out) (kR_ HO393.out) (by decide)) hk (fun _ h => h.2)) (fun _ h => h.1)) (Kd.R_mono (Kd.R_keep (IsS99.apart (show IsS99 w _ g389 t386 t412 t413 from iz2_ HI389.out NB389_385.out NB389_402.out) (kR_ HO396.out) (by decide)) hk (fun _ h => h.2)) (fun _ h => h.1)) (Kd.S_mono (Kd.S_keep (IsS99.apartS (show IsS99 w _ g389 t386 t412 t413 from iz2_ HI389.out NB389_385.out NB389_402.out) (kS_ HO399.out) (by decide)) hk (fun _ h => h.2)) (fun _ h => h.1)) (KeepBut.blk hk (bk_ BK402.out) NB402_389.out (by simp)) hb hi
    clear BK402 HO399 HO396 HO393 BK385
    (try clear HO416 HL410_0)
    clear HI389 HB
    obtain ⟨BK385, HO393, HO396, HO399, BK402, HB, HI389⟩ := z_
    (try clear hi hk hb)
    refine hK.out _ _ ⟨(blk_cell BK402.out 0).trans rfl, (blk_cell BK402.out 1).trans rfl, (blk_cell BK402.out 2).trans rfl⟩ (fun hHeld => ?_)
    clear hK K
    refine norm_ (a' := ?_) ?_ ?_
    rotate_left
    ·show Act.put _ (some 47) _ = _
     simp only [Act.put, lA_, lB_, lC_, i64_w, i32_w]
     rfl
    refine on_ 7 none (mk_ 12 255) HT_.out fun K hK => ?_
    have hs31 := cz_ BK385.out 0 (.string (⟨#[]⟩ : ByteArray))
    have hfs31 := fz_ BK385.out 0
    have hns31_1 := NB402_385.out
    have hms31_1 := NB385_402.out
    have hs32 := cz_ BK385.out 1 (.slice none 0 0)
    have hfs32 := fz_ BK385.out 1
    have hns32_1 := NB402_385.out
    have hms32_1 := NB385_402.out
    have hs33 := cz_ BK385.out 2 (.slice none 0 0)
    have hfs33 := fz_ BK385.out 2
    have hns33_1 := NB402_385.out
    have hms33_1 := NB385_402.out
    refine skip_ (w1 := ?_) (by rfl) rfl ?_ ?_
    rotate_left
    ·go_simp
     rfl
    refine hK.out _ _ ⟨((cell_far (p := ⟨gb385, _, none⟩) NB402_385.out _).trans (((cell_far (p := ⟨gb385, _, none⟩) NB402_385.out _).trans (((cell_far (p := ⟨gb385, _, none⟩) NB402_385.out _).trans (hHeld.1)))))), ((cell_far (p := ⟨gb385, _, none⟩) NB402_385.out _).trans (((cell_far (p := ⟨gb385, _, none⟩) NB402_385.out _).trans (((cell_far (p := ⟨gb385, _, none⟩) NB402_385.out _).trans (hHeld.2.1)))))), ((cell_far (p := ⟨gb385, _, none⟩) NB402_385.out _).trans (((cell_far (p := ⟨gb385, _, none⟩) NB402_385.out _).trans (((cell_far (p := ⟨gb385, _, none⟩) NB402_385.out _).trans (hHeld.2.2))))))⟩ (fun hHeld => ?_)
    clear hK K
    refine pu_ 8 (some 3) (mk_ 12 511) HT_.out ?_
    refine pu_ 9 (some 4) (mk_ 12 1023) HT_.out ?_
    refine pu_ 10 (some 5) (mk_ 12 2047) HT_.out ?_
    refine pu_ 11 (some 6) (mk_ 12 4095) HT_.out ?_
    refine done_ (done_of HT_.out (by kernel_rfl)) ?_
    try go_wp2
    refine bodyPost_ret (results_list (rs := [.cell 2 25, .tmp 3, .tmp 4, .tmp 5, .tmp 6]) rfl (by simp) (.cell gb385 25 #[.string t390, .slice Ao20 t391.length co20, .slice Ao21 t394.length co21] (0, 0) _ rfl (by refine bk_ ?_; refine blk_put (cs := #[.string t390, .slice Ao20 t391.length co20, .slice none 0 0]) ?_ 2 _ rfl; refine bk_ ?_; refine blk_put (cs := #[.string t390, .slice none 0 0, .slice none 0 0]) ?_ 1 _ rfl; refine bk_ ?_; refine blk_put (cs := #[.string (⟨#[]⟩ : ByteArray), .slice none 0 0, .slice none 0 0]) ?_ 0 _ rfl; refine bk_ ?_; exact BK385.out) Try.underlying25 rfl (by kernel_rfl) (.tmp (.tmp (.tmp (.tmp .nil)))))) rfl ?_
    exact ⟨_, _, _, by first | rfl | (simp only [i64_w, i32_w]; rfl) | (simp only [i64_w, i32_w, wrap64_zero, Int.sub_zero, Int.add_zero, Int.mul_zero, Int.zero_mul]; rfl) | (simp [errW_none, errW_some] <;> rfl) | (simp only [← hji8]; first | rfl | (simp [errW_none, errW_some] <;> rfl)) | (simp [*, errW_none, errW_some] <;> rfl), by refine kR_ ?_; exact Kd.R_mono (Kd.R_far (p := ⟨gb385, 2, none⟩) (Kd.R_far (p := ⟨gb385, 1, none⟩) (Kd.R_far (p := ⟨gb385, 0, none⟩) (Kd.R_types HO393.out BK385.out (by decide)) (fun _ hk => hk.2) (.string t390)) (fun _ hk => hk.2) (.slice Ao20 t391.length co20)) (fun _ hk => hk.2) (.slice Ao21 t394.length co21)) (fun _ hk => hk.1.1), by refine kR_ ?_; exact Kd.R_mono (Kd.R_far (p := ⟨gb385, 2, none⟩) (Kd.R_far (p := ⟨gb385, 1, none⟩) (Kd.R_far (p := ⟨gb385, 0, none⟩) (Kd.R_types HO396.out BK385.out (by decide)) (fun _ hk => hk.2) (.string t390)) (fun _ hk => hk.2) (.slice Ao20 t391.length co20)) (fun _ hk => hk.2) (.slice Ao21 t394.length co21)) (fun _ hk => hk.1.1), by refine kS_ ?_; exact Kd.S_mono (Kd.S_far (p := ⟨gb385, 2, none⟩) (Kd.S_far (p := ⟨gb385, 1, none⟩) (Kd.S_far (p := ⟨gb385, 0, none⟩) (Kd.S_types HO399.out BK385.out (by decide)) (fun _ hk => hk.2) (.string t390)) (fun _ hk => hk.2) (.slice Ao20 t391.length co20)) (fun _ hk => hk.2) (.slice Ao21 t394.length co21)) (fun _ hk => trivial), bw3_ HB.out (IsS99.ge HI389.out) GE385.out GE402.out⟩
   ·rw [if_neg c10] at H
    exact absurd H (by simp)
  ·rw [if_neg c9] at H
   exact absurd H (by simp)
 ·replace c7 := Bool.eq_false_iff.mpr c7
  subst c7
  rw [if_neg (show ¬ (false = true) by decide)] at H
  obtain ⟨y420, hy420⟩ : ∃ y_ : List Int, y_ = (([0, 1, 2, 3, 4, 5, 6, 0, 1, 2, 3, 4, (-1), 7] : List Int)) := ⟨_, rfl⟩
  replace H : ((spec_l01Int.f t386 t407 t408 y420).bind fun bt423 => (some (t390, t391, t394, t397, wrap64 (t403 - 1), wrap64 (t406 - 1), bt423.1))) = some (r1, r2, r3, r4, r5, r6, r7) := by first | (rw [hy420]; with_reducible exact H) | (have H2_ := (Option.bind_some _ _).symm.trans H; rw [hy420]; with_reducible exact H2_) | (have H2_ := (Option.bind_some _ _).symm.trans H; with_reducible exact H2_) | with_reducible exact H | (rw [hy420]; exact H) | exact H
  have Ny420 := M_ hy420
  clear hy420
  replace H := bs_ H
  obtain ⟨⟨t423, t424, t425⟩, A340, H⟩ := H
  dsimp only at H
  have A34 := M_ A340
  clear A340
  simp only [Option.some.injEq, Prod.mk.injEq] at H
  obtain ⟨rfl, rfl, rfl, rfl, rfl, rfl, rfl⟩ := H
  go_enter Try.func63, Try.ntmps63
  try go_wp2_with (first | ((with_reducible refine gate_dst (N := 2) rfl ?_); refine be_ 2 #[.string (⟨#[]⟩ : ByteArray), .slice none 0 0, .slice none 0 0] 25 ?_; intro gb385 hg w35 hbox hb; have z_ := t3_ (bS_ (bw0_ HB.out) hb) hbox (gv_ hg (bw0_ HB.out) : w.heap.size ≤ gb385); clear HB; obtain ⟨HB, BK385, GE385⟩ := z_; clear hb hbox hg) | ((with_reducible refine gate_callee (f := 71) rfl ?_); refine gl_ (some 13) Try.func71 #[.slice A0 l0.length c0] ?_; (with_reducible refine (spec_l01New.calls k _ _ l0 t386 t387 t388 w _ ?side1 ?side2 ?side3 A2.out).mono ?_); (case side1 => exact bw1_ HB.out GE385.out); (case side2 => exact HR0.out); (case side3 => exact HC0.out); rintro e w36 ⟨g389, rfl, hi, hb, hb2⟩; refine ⟨_, rfl, ?_⟩; have z_ := t5_ (bB_ (bk_ BK385.out) hb2) hb hi (IsS99.ne_blk hi (bB_ (bk_ BK385.out) hb2) (by decide)) (Ne.symm (IsS99.ne_blk hi (bB_ (bk_ BK385.out) hb2) (by decide))); clear HB BK385; obtain ⟨BK385, HB, HI389, NB389_385, NB385_389⟩ := z_; (try clear hi hb2 hb)) | ((with_reducible refine gate_callee (f := 72) rfl ?_); refine gl_ (some 16) Try.func72 #[.pointer (some ⟨g389, 0, none⟩)] ?_; (with_reducible refine (spec_l2Both.calls k g389 t386 t387 t388 t390 t391 t394 t397 t400 t401 w _ ?side1 ?side2 A3.out).mono ?_); (case side1 => exact iz1_ HI389.out NB389_385.out); (case side2 => exact bw2_ HB.out (IsS99.ge HI389.out) GE385.out); rintro e w37 ⟨v392, v395, v398, rfl, ho0, ho1, ho2, hi, hb, hk⟩; refine ⟨_, rfl, ?_⟩; have z_ := t6_ (KeepBut.blk hk (bk_ BK385.out) NB385_389.out (by simp)) (Kd.R_lower ho0 (below_size (bw2_ HB.out (IsS99.ge HI389.out) GE385.out))) (Kd.R_lower ho1 (below_size (bw2_ HB.out (IsS99.ge HI389.out) GE385.out))) (Kd.S_lower ho2 (below_size (bw2_ HB.out (IsS99.ge HI389.out) GE385.out))) hb hi; clear HI389 HB BK385; obtain ⟨BK385, HO393, HO396, HO399, HB, HI389⟩ := z_; (try clear ho2 ho1 ho0 hi hk hb)) | ((with_reducible refine gate_dst (N := 8) rfl ?_); refine be_ 8 #[.string (⟨#[]⟩ : ByteArray), .slice none 0 0, .slice none 0 0] 25 ?_; intro gb402 hg w38 hbox hb; have z_ := t10_ (rB_ (kR_ HO393.out) hb) (rB_ (kR_ HO396.out) hb) (sB_ (kS_ HO399.out) hb) (bB_ (bk_ BK385.out) hb) (IsS99.below (iz1_ HI389.out NB389_385.out) hb) (bS_ (bw2_ HB.out (IsS99.ge HI389.out) GE385.out) hb) hbox (by rw [hg]; exact (below_size (bw2_ HB.out (IsS99.ge HI389.out) GE385.out)) : w.heap.size ≤ gb402) (by rw [hg]; exact Nat.ne_of_lt (blk_lt (bk_ BK385.out)) : gb385 ≠ gb402) (by rw [hg]; exact Nat.ne_of_lt (IsS99.lt (show IsS99 w _ g389 t386 t400 t401 from iz1_ HI389.out NB389_385.out)) : g389 ≠ gb402); clear HB HI389 BK385 HO399 HO396 HO393; obtain ⟨HO393, HO396, HO399, BK385, HI389, HB, BK402, GE402, NB385_402, NB389_402⟩ := z_; have NB402_385 := M_ NB385_402.out.symm; have NB402_389 := M_ NB389_402.out.symm; clear hb hbox hg; have hnb39 := NB402_385.out; have hnc39 := NB385_402.out; have hnb40 := NB402_389.out; have hnc40 := NB389_402.out; have hcz41_0 := cz_ BK402.out 0 (.string (⟨#[]⟩ : ByteArray)); have hcz41_1 := cz_ BK402.out 1 (.slice none 0 0); have hcz41_2 := cz_ BK402.out 2 (.slice none 0 0); have hfz41_0 := fz_ BK402.out 0; have hfz41_1 := fz_ BK402.out 1; have hfz41_2 := fz_ BK402.out 2; obtain ⟨Ao42, co42, eo42⟩ := Kd.R_slice HO393.out; subst eo42; obtain ⟨Ao43, co43, eo43⟩ := Kd.R_slice HO396.out; subst eo43; obtain ⟨Ao44, co44, eo44⟩ := Kd.S_slice HO399.out; subst eo44) | ((with_reducible refine gate_callee (f := 73) rfl ?_); refine gl_ (some 23) Try.func73 #[.pointer (some ⟨g389, 0, none⟩), .int .i64 (wrap64 ((t397.length : Int) + 2))] ?_; (with_reducible refine (spec_l01Below.calls g389 t386 t400 t401 (wrap64 ((t397.length : Int) + 2)) t403 t404 t405 w _ ?side1 ?side2 A4.out).mono ?_); (case side1 => exact iz2_ HI389.out NB389_385.out NB389_402.out); (case side2 => exact bw3_ HB.out (IsS99.ge HI389.out) GE385.out GE402.out); rintro e w45 ⟨rfl, hi, hb, hk⟩; refine ⟨_, rfl, ?_⟩; have z_ := t7_ (KeepBut.blk hk (g' := gb385) (o := .cells #[.string (⟨#[]⟩ : ByteArray), .slice none 0 0, .slice none 0 0] 25 (0, 0)) (by refine bk_ ?_; refine blk_far ?_ NB385_402.out _; refine bk_ ?_; refine blk_far ?_ NB385_402.out _; refine bk_ ?_; refine blk_far ?_ NB385_402.out _; refine bk_ ?_; exact BK385.out) NB385_389.out (by simp)) (Kd.R_mono (Kd.R_keep (IsS99.apart (show IsS99 w _ g389 t386 t400 t401 from iz2_ HI389.out NB389_385.out NB389_402.out) (by refine kR_ ?_; exact (fR3_ HO393.out BK402.out)) (by decide)) hk (fun _ h => h.2)) (fun _ h => h.1)) (Kd.R_mono (Kd.R_keep (IsS99.apart (show IsS99 w _ g389 t386 t400 t401 from iz2_ HI389.out NB389_385.out NB389_402.out) (by refine kR_ ?_; exact (fR3_ HO396.out BK402.out)) (by decide)) hk (fun _ h => h.2)) (fun _ h => h.1)) (Kd.S_mono (Kd.S_keep (IsS99.apartS (show IsS99 w _ g389 t386 t400 t401 from iz2_ HI389.out NB389_385.out NB389_402.out) (by refine kS_ ?_; exact (fS3_ HO399.out BK402.out)) (by decide)) hk (fun _ h => h.2)) (fun _ h => h.1)) (KeepBut.blk hk (g' := gb402) (o := .cells #[.string t390, .slice Ao42 t391.length co42, .slice Ao43 t394.length co43] 25 (0, 0)) (by refine bk_ ?_; refine blk_put (cs := #[.string t390, .slice Ao42 t391.length co42, .slice none 0 0]) ?_ 2 _ rfl; refine bk_ ?_; refine blk_put (cs := #[.string t390, .slice none 0 0, .slice none 0 0]) ?_ 1 _ rfl; refine bk_ ?_; refine blk_put (cs := #[.string (⟨#[]⟩ : ByteArray), .slice none 0 0, .slice none 0 0]) ?_ 0 _ rfl; refine bk_ ?_; exact BK402.out) NB402_389.out (by simp)) hb hi; clear HI389 HB BK402 HO399 HO396 HO393 BK385; obtain ⟨BK385, HO393, HO396, HO399, BK402, HB, HI389⟩ := z_; (try clear hi hk hb)) | ((with_reducible refine gate_callee (f := 73) rfl ?_); refine gl_ (some 26) Try.func73 #[.pointer (some ⟨g389, 0, none⟩), .int .i64 5] ?_; (with_reducible refine (spec_l01Below.calls g389 t386 t404 t405 5 t406 t407 t408 w _ ?side1 ?side2 A5.out).mono ?_); (case side1 => exact iz2_ HI389.out NB389_385.out NB389_402.out); (case side2 => exact bw3_ HB.out (IsS99.ge HI389.out) GE385.out GE402.out); rintro e w46 ⟨rfl, hi, hb, hk⟩; refine ⟨_, rfl, ?_⟩; have z_ := t7_ (KeepBut.blk hk (bk_ BK385.out) NB385_389.out (by simp)) (Kd.R_mono (Kd.R_keep (IsS99.apart (show IsS99 w _ g389 t386 t404 t405 from iz2_ HI389.out NB389_385.out NB389_402.out) (kR_ HO393.out) (by decide)) hk (fun _ h => h.2)) (fun _ h => h.1)) (Kd.R_mono (Kd.R_keep (IsS99.apart (show IsS99 w _ g389 t386 t404 t405 from iz2_ HI389.out NB389_385.out NB389_402.out) (kR_ HO396.out) (by decide)) hk (fun _ h => h.2)) (fun _ h => h.1)) (Kd.S_mono (Kd.S_keep (IsS99.apartS (show IsS99 w _ g389 t386 t404 t405 from iz2_ HI389.out NB389_385.out NB389_402.out) (kS_ HO399.out) (by decide)) hk (fun _ h => h.2)) (fun _ h => h.1)) (KeepBut.blk hk (bk_ BK402.out) NB402_389.out (by simp)) hb hi; clear HI389 HB BK402 HO399 HO396 HO393 BK385; obtain ⟨BK385, HO393, HO396, HO399, BK402, HB, HI389⟩ := z_; (try clear hi hk hb)) | ((with_reducible refine gate_callee (f := 81) rfl ?_); refine gl_ (some 32) Try.func81 #[.int .i64 (wrap64 (t403 - 1)), .int .i64 0, .int .i64 (wrap64 ((t397.length : Int) - 1))] ?_; (with_reducible refine (spec_l1In.calls (wrap64 (t403 - 1)) 0 (wrap64 ((t397.length : Int) - 1)) false _ A6.out).mono ?_); rintro e w' ⟨rfl, ⟨nd, rfl⟩⟩; refine ⟨_, rfl, ?_⟩; (try (rw [drewN_self w46]; generalize hq_ : World.drewN w46 _ = w46; have n0_ : Aside0 (Kd.R (Kd.int .i64) 3 w46 w.heap.size (fun k_ => some k_ ≠ (.slice Ao43 t394.length co43 : Value).ownBlock) (.slice Ao42 t391.length co42) t391) := ⟨by rw [← hq_]; exact (kR_ HO393.out)⟩; have n1_ : Aside0 (Kd.R (Kd.int .i64) 3 w46 w.heap.size (fun k_ => some k_ ≠ (.slice Ao42 t391.length co42 : Value).ownBlock) (.slice Ao43 t394.length co43) t394) := ⟨by rw [← hq_]; exact (kR_ HO396.out)⟩; have n2_ : Aside0 (Kd.S (Kd.slice 30 k30) 34 w46 w.heap.size (fun _ => True) (.slice Ao44 t397.length co44) t397) := ⟨by rw [← hq_]; exact (kS_ HO399.out)⟩; have n3_ : Aside0 (w46.heap[gb385]? = some (.cells #[.string (⟨#[]⟩ : ByteArray), .slice none 0 0, .slice none 0 0] 25 (0, 0))) := ⟨by rw [← hq_]; exact (bk_ BK385.out)⟩; have n4_ : Aside0 (w46.heap[gb402]? = some (.cells #[.string t390, .slice Ao42 t391.length co42, .slice Ao43 t394.length co43] 25 (0, 0))) := ⟨by rw [← hq_]; exact (bk_ BK402.out)⟩; have n5_ : Aside0 (IsS99 w w46 g389 t386 t407 t408) := ⟨by rw [← hq_]; exact (iz2_ HI389.out NB389_385.out NB389_402.out)⟩; have n6_ : Aside0 (Below w.heap.size w w46) := ⟨by rw [← hq_]; exact (bw3_ HB.out (IsS99.ge HI389.out) GE385.out GE402.out)⟩; clear HO393 HO396 HO399 BK385 BK402 HI389 HB hq_; have HO393 := n0_; have HO396 := n1_; have HO399 := n2_; have BK385 := n3_; have BK402 := n4_; have HI389 := n5_; have HB := n6_; clear n0_ n1_ n2_ n3_ n4_ n5_ n6_))))
  have z_ := t7_ (Kd.R_drew HO393.out) (Kd.R_drew HO396.out) (Kd.S_drew HO399.out) (blk_drew BK385.out) (blk_drew BK402.out) (IsS99.drew HI389.out) (below_drew1 HB.out)
  clear HB HI389 BK402 BK385 HO399 HO396 HO393
  obtain ⟨HO393, HO396, HO399, BK385, BK402, HI389, HB⟩ := z_
  refine start_ (n := 12) (S := fun w' => w'.cell? ⟨gb402, 0, none⟩ = some (.string t390) ∧ w'.cell? ⟨gb402, 1, none⟩ = some (.slice Ao42 t391.length co42) ∧ w'.cell? ⟨gb402, 2, none⟩ = some (.slice Ao43 t394.length co43)) (ds := []) (mk_ 12 0) (by kernel_rfl) rfl rfl ⟨(blk_cell BK402.out 0).trans rfl, (blk_cell BK402.out 1).trans rfl, (blk_cell BK402.out 2).trans rfl⟩ (fun hHeld => ?_); refine with_tabW spec_DrawWearMatrix.tab7 spec_DrawWearMatrix.bits7 (fun HT_ HW_ => ?_)
  generalize w46.drew = w47 at HO393 HO396 HO399 BK385 BK402 HI389 HB hHeld ⊢
  refine pu_ 1 (some 42) (mk_ 12 2) HT_.out ?_
  refine pu_ 2 (some 43) (mk_ 12 6) HT_.out ?_
  refine pu_ 3 (some 44) (mk_ 12 14) HT_.out ?_
  refine pu_ 4 (some 45) (mk_ 12 30) HT_.out ?_
  refine ta_ 0 (some 41) (mk_ 12 31) HT_.out HW_.out hHeld (hy := by rintro w' ⟨s0, s1, s2⟩; go_simp; with_reducible rfl) (h := ?_)
  refine on_ 5 (some 46) (mk_ 12 63) HT_.out fun K hK => ?_
  refine Kd.R_lit_step (Kd.int .i64) _ 3 ?hg (N := 46) ?hd (xs := ([0, 1, 2, 3, 4, 5, 6, 0, 1, 2, 3, 4, (-1), 7] : List Int)) (inner := [.int .i64 0, .int .i64 1, .int .i64 2, .int .i64 3, .int .i64 4, .int .i64 5, .int .i64 6, .int .i64 0, .int .i64 1, .int .i64 2, .int .i64 3, .int .i64 4, .int .i64 (-1), .int .i64 7]) (ok := fun _ => True) (okp := fun _ => True) ?hr ?hp (fun _ hk => hk) trivial (Below.refl _ _) (Nat.le_refl _) (by simp) ?_; (case hd => rfl); (case hg => rfl); (case hr => first | (go_simp; done) | (go_simp; rfl)); (case hp => exact (Reps.one (show Kd.M (Kd.int .i64) _ _ _ 0 [.int .i64 0] from rfl) (Reps.one (show Kd.M (Kd.int .i64) _ _ _ 1 [.int .i64 1] from rfl) (Reps.one (show Kd.M (Kd.int .i64) _ _ _ 2 [.int .i64 2] from rfl) (Reps.one (show Kd.M (Kd.int .i64) _ _ _ 3 [.int .i64 3] from rfl) (Reps.one (show Kd.M (Kd.int .i64) _ _ _ 4 [.int .i64 4] from rfl) (Reps.one (show Kd.M (Kd.int .i64) _ _ _ 5 [.int .i64 5] from rfl) (Reps.one (show Kd.M (Kd.int .i64) _ _ _ 6 [.int .i64 6] from rfl) (Reps.one (show Kd.M (Kd.int .i64) _ _ _ 0 [.int .i64 0] from rfl) (Reps.one (show Kd.M (Kd.int .i64) _ _ _ 1 [.int .i64 1] from rfl) (Reps.one (show Kd.M (Kd.int .i64) _ _ _ 2 [.int .i64 2] from rfl) (Reps.one (show Kd.M (Kd.int .i64) _ _ _ 3 [.int .i64 3] from rfl) (Reps.one (show Kd.M (Kd.int .i64) _ _ _ 4 [.int .i64 4] from rfl) (Reps.one (show Kd.M (Kd.int .i64) _ _ _ (-1) [.int .i64 (-1)] from rfl) (Reps.one (show Kd.M (Kd.int .i64) _ _ _ 7 [.int .i64 7] from rfl) (Reps.none _ _))))))))))))))))
  intro v421 w48 ho49 hb hg_ hnew_
  clear hg_ hnew_
  (first | rw [← Ny420.out] at ho49 | (simp only [Int.reduceToNat] at ho49; rw [← Ny420.out] at ho49))
  have z_ := t8_ (Kd.R_elder' (kR_ HO393.out) (Kd.R_base ho49) hb) (Kd.R_elder' (kR_ HO396.out) (Kd.R_base ho49) hb) (sB_ (kS_ HO399.out) hb) (Kd.R_lower (Kd.R_new' (Kd.R_new' ho49 (Kd.R_lt (kR_ HO393.out))) (Kd.R_lt (kR_ HO396.out))) (below_size (bw3_ HB.out (IsS99.ge HI389.out) GE385.out GE402.out))) (bB_ (bk_ BK385.out) hb) (IsS99.below (iz2_ HI389.out NB389_385.out NB389_402.out) hb) (bB_ (bk_ BK402.out) hb) (bS_ (bw3_ HB.out (IsS99.ge HI389.out) GE385.out GE402.out) hb)
  clear HB BK402 HI389 BK385 HO399 HO396 HO393
  obtain ⟨HO393, HO396, HO399, HO422, BK385, HI389, BK402, HB⟩ := z_
  clear hb ho49
  obtain ⟨Ao50, co50, eo50⟩ := Kd.R_slice HO422.out
  (first | subst eo50 | (injection eo50 with f1_ f2_ f3_; have f4_ := f1_.symm; have f5_ := f3_.symm; clear f1_ f2_ f3_; subst f4_; subst f5_))
  refine hK.out _ _ ⟨(blk_cell BK402.out 0).trans rfl, (blk_cell BK402.out 1).trans rfl, (blk_cell BK402.out 2).trans rfl⟩ (fun hHeld => ?_)
  clear hK K
  refine norm_ (a' := ?_) ?_ ?_
  rotate_left
  ·show Act.put _ (some 46) _ = _
   simp only [Act.put, lA_, lB_, lC_, i64_w, i32_w]
   rfl
  refine on_ 6 (some 47) (mk_ 12 127) HT_.out fun K hK => ?_
  refine goes_ Try.func95 (by kernel_rfl) rfl #[.pointer (some ⟨g389, 0, none⟩), .slice Ao50 y420.length co50] (by rfl) rfl rfl ar_ ?_
  with_reducible refine (spec_l01Int.calls g389 t386 t407 t408 _ _ y420 t423 t424 t425 w _ ?side1 ?side2 ?side3 ?side4 ?side5 A34.out).mono ?_
  (case side1 => exact iz2_ HI389.out NB389_385.out NB389_402.out)
  (case side2 => exact bw3_ HB.out (IsS99.ge HI389.out) GE385.out GE402.out)
  (case side3 => exact kD_ (Kd.R_reads' HO422.out).2.2)
  (case side4 => exact (Kd.R_reads' HO422.out).2.1)
  (case side5 => exact far_slice (IsS99.own_ne HI389.out HO422.out (by decide)))
  rintro e w51 ⟨rfl, hi, hb, hk⟩
  refine ⟨_, rfl, ?_⟩
  have z_ := t7_ (KeepBut.blk hk (bk_ BK385.out) NB385_389.out (by simp)) (Kd.R_mono (Kd.R_keep (IsS99.apart (show IsS99 w _ g389 t386 t407 t408 from iz2_ HI389.out NB389_385.out NB389_402.out) (kR_ HO393.out) (by decide)) hk (fun _ h => h.2)) (fun _ h => h.1)) (Kd.R_mono (Kd.R_keep (IsS99.apart (show IsS99 w _ g389 t386 t407 t408 from iz2_ HI389.out NB389_385.out NB389_402.out) (kR_ HO396.out) (by decide)) hk (fun _ h => h.2)) (fun _ h => h.1)) (Kd.S_mono (Kd.S_keep (IsS99.apartS (show IsS99 w _ g389 t386 t407 t408 from iz2_ HI389.out NB389_385.out NB389_402.out) (kS_ HO399.out) (by decide)) hk (fun _ h => h.2)) (fun _ h => h.1)) (KeepBut.blk hk (bk_ BK402.out) NB402_389.out (by simp)) hb hi
  clear BK402 HO399 HO396 HO393 BK385
  (try clear HO422)
  clear HI389 HB
  obtain ⟨BK385, HO393, HO396, HO399, BK402, HB, HI389⟩ := z_
  (try clear hi hk hb)
  refine hK.out _ _ ⟨(blk_cell BK402.out 0).trans rfl, (blk_cell BK402.out 1).trans rfl, (blk_cell BK402.out 2).trans rfl⟩ (fun hHeld => ?_)
  clear hK K
  refine norm_ (a' := ?_) ?_ ?_
  rotate_left
  ·show Act.put _ (some 47) _ = _
   simp only [Act.put, lA_, lB_, lC_, i64_w, i32_w]
   rfl
  refine on_ 7 none (mk_ 12 255) HT_.out fun K hK => ?_
  have hs52 := cz_ BK385.out 0 (.string (⟨#[]⟩ : ByteArray))
  have hfs52 := fz_ BK385.out 0
  have hns52_1 := NB402_385.out
  have hms52_1 := NB385_402.out
  have hs53 := cz_ BK385.out 1 (.slice none 0 0)
  have hfs53 := fz_ BK385.out 1
  have hns53_1 := NB402_385.out
  have hms53_1 := NB385_402.out
  have hs54 := cz_ BK385.out 2 (.slice none 0 0)
  have hfs54 := fz_ BK385.out 2
  have hns54_1 := NB402_385.out
  have hms54_1 := NB385_402.out
  refine skip_ (w1 := ?_) (by rfl) rfl ?_ ?_
  rotate_left
  ·go_simp
   rfl
  refine hK.out _ _ ⟨((cell_far (p := ⟨gb385, _, none⟩) NB402_385.out _).trans (((cell_far (p := ⟨gb385, _, none⟩) NB402_385.out _).trans (((cell_far (p := ⟨gb385, _, none⟩) NB402_385.out _).trans (hHeld.1)))))), ((cell_far (p := ⟨gb385, _, none⟩) NB402_385.out _).trans (((cell_far (p := ⟨gb385, _, none⟩) NB402_385.out _).trans (((cell_far (p := ⟨gb385, _, none⟩) NB402_385.out _).trans (hHeld.2.1)))))), ((cell_far (p := ⟨gb385, _, none⟩) NB402_385.out _).trans (((cell_far (p := ⟨gb385, _, none⟩) NB402_385.out _).trans (((cell_far (p := ⟨gb385, _, none⟩) NB402_385.out _).trans (hHeld.2.2))))))⟩ (fun hHeld => ?_)
  clear hK K
  refine pu_ 8 (some 3) (mk_ 12 511) HT_.out ?_
  refine pu_ 9 (some 4) (mk_ 12 1023) HT_.out ?_
  refine pu_ 10 (some 5) (mk_ 12 2047) HT_.out ?_
  refine pu_ 11 (some 6) (mk_ 12 4095) HT_.out ?_
  refine done_ (done_of HT_.out (by kernel_rfl)) ?_
  try go_wp2
  refine bodyPost_ret (results_list (rs := [.cell 2 25, .tmp 3, .tmp 4, .tmp 5, .tmp 6]) rfl (by simp) (.cell gb385 25 #[.string t390, .slice Ao42 t391.length co42, .slice Ao43 t394.length co43] (0, 0) _ rfl (by refine bk_ ?_; refine blk_put (cs := #[.string t390, .slice Ao42 t391.length co42, .slice none 0 0]) ?_ 2 _ rfl; refine bk_ ?_; refine blk_put (cs := #[.string t390, .slice none 0 0, .slice none 0 0]) ?_ 1 _ rfl; refine bk_ ?_; refine blk_put (cs := #[.string (⟨#[]⟩ : ByteArray), .slice none 0 0, .slice none 0 0]) ?_ 0 _ rfl; refine bk_ ?_; exact BK385.out) Try.underlying25 rfl (by kernel_rfl) (.tmp (.tmp (.tmp (.tmp .nil)))))) rfl ?_
  exact ⟨_, _, _, rb_, by refine kR_ ?_; exact Kd.R_mono (Kd.R_far (p := ⟨gb385, 2, none⟩) (Kd.R_far (p := ⟨gb385, 1, none⟩) (Kd.R_far (p := ⟨gb385, 0, none⟩) (Kd.R_types HO393.out BK385.out (by decide)) (fun _ hk => hk.2) (.string t390)) (fun _ hk => hk.2) (.slice Ao42 t391.length co42)) (fun _ hk => hk.2) (.slice Ao43 t394.length co43)) (fun _ hk => hk.1.1), by refine kR_ ?_; exact Kd.R_mono (Kd.R_far (p := ⟨gb385, 2, none⟩) (Kd.R_far (p := ⟨gb385, 1, none⟩) (Kd.R_far (p := ⟨gb385, 0, none⟩) (Kd.R_types HO396.out BK385.out (by decide)) (fun _ hk => hk.2) (.string t390)) (fun _ hk => hk.2) (.slice Ao42 t391.length co42)) (fun _ hk => hk.2) (.slice Ao43 t394.length co43)) (fun _ hk => hk.1.1), by refine kS_ ?_; exact Kd.S_mono (Kd.S_far (p := ⟨gb385, 2, none⟩) (Kd.S_far (p := ⟨gb385, 1, none⟩) (Kd.S_far (p := ⟨gb385, 0, none⟩) (Kd.S_types HO399.out BK385.out (by decide)) (fun _ hk => hk.2) (.string t390)) (fun _ hk => hk.2) (.slice Ao42 t391.length co42)) (fun _ hk => hk.2) (.slice Ao43 t394.length co43)) (fun _ hk => trivial), bw3_ HB.out (IsS99.ge HI389.out) GE385.out GE402.out⟩

/-- slices.Clone: the same elements in memory of its own. -/
def impl_Matrix_102.f (l0 : List S30) : Option (List S30) := if l0.length * 16 ≤ 140737488355328 then some l0 else none
set_option maxHeartbeats 2000000 in
set_option maxRecDepth 100000 in
theorem impl_Matrix_102.calls (A0 : Option Addr) (c0 : Nat) (l0 : List S30) (r : List S30) (w : World) (hr0 : Kd.C k30 w A0 l0.length l0) (hc0 : l0.length ≤ c0) (h : impl_Matrix_102.f l0 = some r) :
    Calls Try.prog 102 #[.slice A0 l0.length c0] w fun e w' => ∃ v0_ : Value, e = .returned (v0_) ∧ Kd.R k30 30 w' w.heap.size (fun _ => True) v0_ r ∧ Below w.heap.size w w' := by
 unfold impl_Matrix_102.f at h
 by_cases hlim : l0.length * 16 ≤ 140737488355328
 case neg => rw [if_neg hlim] at h; exact absurd h (by simp)
 rw [if_pos hlim] at h
 obtain rfl := Option.some.inj h
 clear h
 have hq : ∀ (W : World) (a : Option Addr) (n c n' c' : Nat), (binOp .eql 34 (.slice a n c) (.slice none n' c')).run Try.prog W = .ok (.bool a.isNone) W := fun W a n c n' c' => Lib.run_eql_slice_nil W _ _ a n c n' c' Try.underlying34
 cases A0 with
 | none =>
  have hl : l0 = [] := by
   cases l0 with
   | nil => rfl
   | cons a t =>
    obtain ⟨ad, e1, _⟩ := hr0.2.2 (by simp)
    exact absurd e1 (by simp)
  subst hl
  clear hr0 hlim
  go_enter Try.func102, Try.ntmps102
  go_wp2
  go_ret
  exact ⟨_, rfl, Kd.R_nil _ _ _ _ _, Below.refl _ _⟩
 | some ad =>
  have HR0 := M_ hr0
  have HC0 := M_ hc0
  have LMc16 := M_ hlim
  have HB := M_ (Below.refl w.heap.size w)
  clear hr0 hc0 hlim
  obtain ⟨y404, hy404⟩ : ∃ y_ : List S30, y_ = ([] : List S30) := ⟨_, rfl⟩
  obtain ⟨y407, hy407⟩ : ∃ y_ : List S30, y_ = y404 ++ l0 := ⟨_, rfl⟩
  have Ny404 := M_ hy404
  have Ny407 := M_ hy407
  clear hy404 hy407
  go_enter Try.func102, Try.ntmps102
  go_wp2_with (first | ((with_reducible refine gate_dst (N := 5) rfl ?_); refine Kd.R_lit k30 _ 30 ?hg (N := 5) ?hd (xs := ([] : List S30)) (inner := []) (ok := fun _ => True) (okp := fun _ => True) ?hr ?hp (fun _ hk => hk) trivial (Below.refl _ _) (Nat.le_refl _) (by simp) ?_; (case hd => rfl); (case hg => rfl); (case hr => first | (go_simp; done) | (go_simp; rfl)); (case hp => exact (Reps.none _ _)); intro v405 w21 ho22 hb hg_ hnew_; clear hg_ hnew_; rw [← Ny404.out] at ho22; have z_ := t2_ (Kd.R_lower ho22 (below_size (bw0_ HB.out))) (bS_ (bw0_ HB.out) hb); clear HB; obtain ⟨HO406, HB⟩ := z_; clear hb ho22) | ((with_reducible refine gate_builtin (b := .append) (xs := #[.tmp 5, .tmp 6]) rfl ?_); at_builtin; refine Kd.R_append_rows k30 (w0 := w) w.heap.size rfl (.tmp 5) (.tmp 6) 34 30 (.agg #[.int .i64 0, .int .i64 0]) 16 rfl Try.underlying34 info30 rfl (by decide) (by omega) v405 y404 l0 _ _ _ (fun _ => True) (fun _ => False) rfl rfl ?aO ?aR (fun _ _ h => h) (fun _ h => h.elim) ?aF ?aB ?aS ?aL ?_; (case aR => exact kC_ HR0.out HB.out); (case aB => exact (bw0_ HB.out)); (case aF => exact (fun _ _ => trivial)); (case aO => exact (kR_ HO406.out)); (case aS => exact (below_size (bw0_ HB.out))); (case aL => have := LMc16.out; rw [Ny404.out]; simpa using this); intro v408 w23 ho hb hg hat; rw [← Ny407.out] at ho; have z_ := t2_ hb ho; clear HO406 HB; obtain ⟨HB, HO409⟩ := z_; clear ho hb hg hat))
  go_ret
  have E : y407 = l0 := by rw [Ny407.out, Ny404.out]; rfl
  exact ⟨_, rfl, E ▸ HO409.out, HB.out⟩

def impl_copyMagazine.l0 : Nat → List (List (S30)) → List (List (S30)) → Int → Int → Option ((List (List (S30))))
  | 0, _, _, _, _ => none
  | k + 1, x3, x7, x8, x9 => if x9 < x8 then (if 0 ≤ x9 then (if x9 < (x7.length : Int) then ((impl_Matrix_102.f (rd_L2 x7 x9)).bind fun t430 => (if x3.length < 5864062014805 then (impl_copyMagazine.l0 k (x3 ++ [t430]) x7 x8 (wrap64 (x9 + 1))) else (none))) else (none)) else (none)) else (some x3)
def impl_copyMagazine.f (k : Nat) (l0 : List (List (S30))) : Option ((List (List (S30)))) := impl_copyMagazine.l0 k (([] : List (List (S30)))) l0 (l0.length : Int) 0
theorem impl_copyMagazine.mono_l : ∀ k, (∀ y0 y1 y2 y3, LeO (impl_copyMagazine.l0 k y0 y1 y2 y3) (impl_copyMagazine.l0 (k + 1) y0 y1 y2 y3))
  | 0 => fun _ _ _ _ r h => by simp [impl_copyMagazine.l0] at h
  | k + 1 => by
    have ih0 := impl_copyMagazine.mono_l k
    · intro y0 y1 y2 y3
      unfold impl_copyMagazine.l0
      repeat' first | (with_reducible first | exact ih0 _ _ _ _ | exact LeO.refl _ | exact LeO.none _ | refine LeO.ite ?_ ?_ | refine LeO.bind ?_ (fun _ => ?_)) | exact ih0 _ _ _ _ | exact LeO.none _ | refine LeO.ite ?_ ?_ | refine LeO.bind ?_ (fun _ => ?_)
theorem impl_copyMagazine.mono : ∀ a0 k, LeO (impl_copyMagazine.f k a0) (impl_copyMagazine.f (k + 1) a0) := by
 intro a0 k
 have ih0 := impl_copyMagazine.mono_l k
 unfold impl_copyMagazine.f
 repeat' first | (with_reducible first | exact ih0 _ _ _ _ | exact LeO.refl _ | exact LeO.none _ | refine LeO.ite ?_ ?_ | refine LeO.bind ?_ (fun _ => ?_)) | exact ih0 _ _ _ _ | exact LeO.none _ | refine LeO.ite ?_ ?_ | refine LeO.bind ?_ (fun _ => ?_)
set_option maxHeartbeats 8000000 in
set_option maxRecDepth 100000 in
theorem impl_copyMagazine.calls (k : Nat) (A0 : Option Addr) (c0 : Nat) (l0 : List (List (S30))) (r : List (List (S30))) (w : World) (hr0 : Kd.C (Kd.slice 30 k30) w A0 l0.length l0) (hc0 : l0.length ≤ c0) (h : impl_copyMagazine.f k l0 = some r) :
    Calls Try.prog 74 #[.slice A0 l0.length c0] w fun e w' => ∃ v0_ : Value, e = .returned (v0_) ∧ Kd.S (Kd.slice 30 k30) 34 w' w.heap.size (fun _ => True) v0_ r ∧ Below w.heap.size w w' := by
 have HR0 := M_ hr0
 have HC0 := M_ hc0
 clear hr0 hc0
 have HB := M_ (Below.refl w.heap.size w)
 have H : (impl_copyMagazine.l0 k (([] : List (List (S30)))) l0 (l0.length : Int) 0) = some r := h
 clear h
 obtain ⟨y426, hy426⟩ : ∃ y_ : List (List (S30)), y_ = (([] : List (List (S30)))) := ⟨_, rfl⟩
 replace H : (impl_copyMagazine.l0 k y426 l0 (l0.length : Int) 0) = some r := by first | (rw [hy426]; with_reducible exact H) | (have H2_ := (Option.bind_some _ _).symm.trans H; rw [hy426]; with_reducible exact H2_) | (have H2_ := (Option.bind_some _ _).symm.trans H; with_reducible exact H2_) | with_reducible exact H | (rw [hy426]; exact H) | exact H
 have Ny426 := M_ hy426
 clear hy426
 have H' := M_ H
 clear H
 go_enter Try.func74, Try.ntmps74
 go_wp2_with (first | ((with_reducible refine gate_dst (N := 6) rfl ?_); refine Kd.S_lit (Kd.slice 30 k30) _ 34 ?hg (N := 6) ?hd (xs := ([] : List (List (S30)))) (inner := []) (ok := fun _ => True) (okp := fun _ => True) ?hr ?hp (fun _ hk => hk) trivial (Below.refl _ _) (Nat.le_refl _) (by simp) ?_; (case hd => rfl); (case hg => rfl); (case hr => first | (go_simp; done) | (go_simp; rfl)); (case hp => exact (Reps.none _ _)); intro v427 w2 ho3 hb hg_ hnew_; clear hg_ hnew_; (first | rw [← Ny426.out] at ho3 | (simp only [Int.reduceToNat] at ho3; rw [← Ny426.out] at ho3)); have z_ := t2_ (Kd.S_lower ho3 (below_size (bw0_ HB.out))) (bS_ (bw0_ HB.out) hb); clear HB; obtain ⟨HO428, HB⟩ := z_; clear hb ho3))
 go_loopg [3, 9] k (fun kq v3 v9 w' => ∃ (x3_1 : List (List (S30))) (x9_1 : Int), v9 = .int .i64 x9_1 ∧ Aside0 (impl_copyMagazine.l0 kq x3_1 l0 (l0.length : Int) x9_1 = some r) ∧ Aside0 (kq ≤ k) ∧ Aside0 (Kd.S (Kd.slice 30 k30) 34 w' w.heap.size (fun _ => True) v3 x3_1) ∧ Aside0 (Below w.heap.size w w'))
 case atStart => exact ⟨(y426), (0), (by first | rfl | (simp; done) | (simp [*]; done)), H', ⟨Nat.le_refl _⟩, ⟨by refine kS_ ?_; exact HO428.out⟩, ⟨bw0_ HB.out⟩⟩
 case round =>
  clear H'
  try clear p2
  obtain ⟨x3_1, x9_1, rfl, HA, HK1, HO_3, HB⟩ := hrel
  cases gk with
  | zero => exact absurd HA.out (by simp [impl_copyMagazine.l0])
  | succ k1 =>
   have H := HA.out
   clear HA
   simp only [impl_copyMagazine.l0] at H
   by_cases c4 : x9_1 < (l0.length : Int)
   ·rw [if_pos c4] at H
    have c4b0 := dt_ c4
    clear c4
    by_cases c5 : 0 ≤ x9_1
    ·rw [if_pos c5] at H
     have c5b0 := dt_ c5
     clear c5
     by_cases c6 : x9_1 < (l0.length : Int)
     ·rw [if_pos c6] at H
      have c6b0 := dt_ c6
      clear c6
      replace H := bs_ H
      obtain ⟨t430, A70, H⟩ := H
      (try dsimp only at H)
      have A7 := M_ A70
      clear A70
      by_cases c8 : x3_1.length < 5864062014805
      ·rw [if_pos c8] at H
       have LMc8 := M_ c8
       clear c8
       obtain ⟨y433, hy433⟩ : ∃ y_ : List (List (S30)), y_ = (x3_1 ++ [t430]) := ⟨_, rfl⟩
       replace H : (impl_copyMagazine.l0 k1 y433 l0 (l0.length : Int) (wrap64 (x9_1 + 1))) = some r := by first | (rw [hy433]; with_reducible exact H) | (have H2_ := (Option.bind_some _ _).symm.trans H; rw [hy433]; with_reducible exact H2_) | (have H2_ := (Option.bind_some _ _).symm.trans H; with_reducible exact H2_) | with_reducible exact H | (rw [hy433]; exact H) | exact H
       have Ny433 := M_ hy433
       clear hy433
       have H' := M_ H
       clear H
       have p429 : 0 ≤ (x9_1 : Int) := od_ as_
       have q429 : x9_1 < (l0.length : Int) := od_ as_
       obtain ⟨ad429, A429_0, c429_0, e429, hx429_0, hl429_0, hi429_0⟩ := at_L2 HR0.out x9_1 p429 q429
       cases e429
       replace hx429_0 := (HB.out.cell (World.block_lt_of_cell? w _ hx429_0)).trans hx429_0
       have HR429_0 := M_ hi429_0
       have HC429_0 := M_ hl429_0
       clear hi429_0 hl429_0
       replace p429 := eq_true p429
       replace q429 := eq_true q429
       go_wp2_with (first | ((with_reducible refine gate_callee (f := 102) rfl ?_); refine gl_ (some 15) Try.func102 #[.slice A429_0 (rd_L2 l0 x9_1).length c429_0] ?_; (with_reducible refine (impl_Matrix_102.calls _ _ (rd_L2 l0 x9_1) t430 _ ?side1 ?side2 A7.out).mono ?_); (case side1 => exact kC_ HR429_0.out HB.out); (case side2 => exact HC429_0.out); rintro e w9 ⟨v431, rfl, ho0, hb⟩; refine ⟨_, rfl, ?_⟩; have z_ := t3_ (Kd.S_elder' (kS_ HO_3.out) (Kd.R_base ho0) hb) (Kd.R_lower ho0 (below_size (bw0_ HB.out))) (bS_ (bw0_ HB.out) hb); clear HB HO_3; obtain ⟨HO_3, HO432, HB⟩ := z_; (try clear ho0 hb); obtain ⟨Ao11, co11, eo11⟩ := Kd.R_slice HO432.out; subst eo11) | ((with_reducible refine gate_builtin (b := .append) (xs := #[.tmp 13, .tmp 16]) rfl ?_); at_builtin; refine Kd.S_append (Kd.slice 30 k30) (w0 := w) w.heap.size rfl (.tmp 13) (.tmp 16) 26 34 (.slice none 0 0) 24 rfl Try.underlying26 info34 rfl (by decide) (by omega) u3 x3_1 t430 [.slice Ao11 t430.length co11] (fun _ => True) (fun k_ => some k_ = (.slice Ao11 t430.length co11 : Value).ownBlock) rfl rfl ?aP (fun k_ hk_ => ((Kd.R_mono (ok' := fun k_ => ((fun _ => True)) k_ ∧ some k_ ≠ (u3 : Value).ownBlock) (Kd.R_apart' (HO432.out) (Kd.S_typed HO_3.out) (by decide)) (fun k_ hk => ⟨trivial, hk.2⟩))).1 k_ hk_.symm) ?aF ?aO ?aB ?aS ?aL ?_; (case aP => exact Kd.M_row (Kd.R_mono (Kd.R_tight rfl (Kd.R_mono (ok' := fun k_ => ((fun _ => True)) k_ ∧ some k_ ≠ (u3 : Value).ownBlock) (Kd.R_apart' (HO432.out) (Kd.S_typed HO_3.out) (by decide)) (fun k_ hk => ⟨trivial, hk.2⟩))) (fun _ h_ => h_))); (case aB => exact (bw0_ HB.out)); (case aF => exact (fun _ _ => trivial)); (case aO => exact (by refine kS_ ?_; exact Kd.S_mono HO_3.out (fun k_ hk => ⟨trivial, fun e_ => hk.2 e_⟩))); (case aS => exact (below_size (bw0_ HB.out))); (case aL => have := LMc8.out; omega); intro v434 w10 ho hb hg hat; rw [← Ny433.out] at ho; have z_ := t2_ hb ho; clear HO432 HO_3 HB; obtain ⟨HB, HO435⟩ := z_; clear ho hb hg hat))
       go_roundg k1
       case measure => have := HK1.out; omega
       case rel => exact ⟨(y433), (wrap64 (x9_1 + 1)), (by first | rfl | (simp; done) | (simp [*]; done)), H', ⟨by have := HK1.out; omega⟩, ⟨by refine kS_ ?_; exact HO435.out⟩, ⟨bw0_ HB.out⟩⟩
      ·rw [if_neg c8] at H
       exact absurd H (by simp)
     ·rw [if_neg c6] at H
      exact absurd H (by simp)
    ·rw [if_neg c5] at H
     exact absurd H (by simp)
   ·rw [if_neg c4] at H
    have c4b0 := decide_eq_false c4
    clear c4
    obtain rfl := Option.some.inj H
    go_wp2
    go_ret
    exact ⟨_, rb_, by refine kS_ ?_; exact HO_3.out, bw0_ HB.out⟩

end Go.Proofs.Ytilbngklgjjblaa.Q
