/- Contracts of Go functions over this translation. Conditions: those that each theorem names. -/
import Derived.Test.YtilbngklgjjblaaQ0
import Derived.Test.YtilbngklgjjblaaQ2
import Derived.Test.YtilbngklgjjblaaQ10
namespace Go.Proofs.Ytilbngklgjjblaa.Q
open Go.RowKit Go.Proofs.YtilbngklgjjblaaW.PrintWords Go.Proofs.YtilbngklgjjblaaW.PrintLast Go.Proofs.YtilbngklgjjblaaW.PrintMore
attribute [local go_sem] max2_int min2_int max_two min_two max_three min_three max_four min_four
set_option linter.unusedVariables false
set_option linter.unusedSimpArgs false

def spec_DrawTakeMatrix.f (k : Nat) (l0 : List Int) : Option (ByteArray × List Int × List Int × (List (List (S30))) × Int) := (spec_l01New.f k l0).bind fun bt338 => ((spec_l2Both.f k bt338.1 bt338.2.1 bt338.2.2).bind fun bt342 => ((spec_l01Below.f bt338.1 bt342.2.2.2.2.1 bt342.2.2.2.2.2 (wrap64 ((bt342.2.2.2.1.length : Int) + 2))).bind fun bt355 => (some (bt342.1, bt342.2.1, bt342.2.2.1, bt342.2.2.2.1, wrap64 (bt355.1 - 1)))))
theorem spec_DrawTakeMatrix.mono : ∀ a0 k, LeO (spec_DrawTakeMatrix.f k a0) (spec_DrawTakeMatrix.f (k + 1) a0) := by
 intro a0 k
 unfold spec_DrawTakeMatrix.f
 repeat' first | (with_reducible first | exact spec_l01New.mono _ _ | exact spec_l2Both.mono _ _ _ _ | exact LeO.refl _ | exact LeO.none _ | refine LeO.ite ?_ ?_ | refine LeO.bind ?_ (fun _ => ?_)) | exact spec_l01New.mono _ _ | exact spec_l2Both.mono _ _ _ _ | exact LeO.none _ | refine LeO.ite ?_ ?_ | refine LeO.bind ?_ (fun _ => ?_)
def spec_DrawTakeMatrix.T3 : Bool × List (List Nat × List Nat) := (true, [([], []), ([], []), ([], []), ([], []), ([3], [3]), ([4], [4]), ([2, 5], [2, 5]), ([6], [6]), ([0, 6, 0], [0]), ([1, 8, 0, 1, 8], [1]), ([7, 9, 0, 1, 2, 3, 4, 5, 6, 7, 8, 9], [7])])
def spec_DrawTakeMatrix.B3 : List Nat := [0, 0, 0, 0, 8, 24, 60, 124, 125, 383, 1023]
theorem spec_DrawTakeMatrix.tab3 : rtab .any (opsOf Try.f20 3) = spec_DrawTakeMatrix.T3 := by kernel_rfl
theorem spec_DrawTakeMatrix.bits3 : waitsOk spec_DrawTakeMatrix.T3.2 spec_DrawTakeMatrix.B3 = true := by kernel_rfl
set_option maxHeartbeats 8000000 in
set_option maxRecDepth 100000 in
theorem spec_DrawTakeMatrix.calls (k : Nat) (A0 : Option Addr) (c0 : Nat) (l0 : List Int) (r1 : ByteArray) (r2 : List Int) (r3 : List Int) (r4 : List (List (S30))) (r5 : Int) (w : World) (hr0 : Kd.C (Kd.int .u8) w A0 l0.length l0) (hc0 : l0.length ≤ c0) (h : spec_DrawTakeMatrix.f k l0 = some (r1, r2, r3, r4, r5)) :
    Calls Try.prog 20 #[.slice A0 l0.length c0] w fun e w' => ∃ v1_ v2_ v3_ : Value, e = .returned (.tuple #[.agg #[.string r1, v1_, v2_], v3_, .int .i64 r5]) ∧ Kd.R (Kd.int .i64) 3 w' w.heap.size (fun k_ => some k_ ≠ (v2_ : Value).ownBlock) v1_ r2 ∧ Kd.R (Kd.int .i64) 3 w' w.heap.size (fun k_ => some k_ ≠ (v1_ : Value).ownBlock) v2_ r3 ∧ Kd.S (Kd.slice 30 k30) 34 w' w.heap.size (fun _ => True) v3_ r4 ∧ Below w.heap.size w w' := by
 have hu25 := Try.underlying25
 have HR0 := M_ hr0
 have HC0 := M_ hc0
 clear hr0 hc0
 have HB := M_ (Below.refl w.heap.size w)
 have H : ((spec_l01New.f k l0).bind fun bt338 => ((spec_l2Both.f k bt338.1 bt338.2.1 bt338.2.2).bind fun bt342 => ((spec_l01Below.f bt338.1 bt342.2.2.2.2.1 bt342.2.2.2.2.2 (wrap64 ((bt342.2.2.2.1.length : Int) + 2))).bind fun bt355 => (some (bt342.1, bt342.2.1, bt342.2.2.1, bt342.2.2.2.1, wrap64 (bt355.1 - 1)))))) = some (r1, r2, r3, r4, r5) := h
 clear h
 replace H := bs_ H
 obtain ⟨⟨t338, t339, t340⟩, A20, H⟩ := H
 dsimp only at H
 have A2 := M_ A20
 clear A20
 replace H := bs_ H
 obtain ⟨⟨t342, t343, t346, t349, t352, t353⟩, A30, H⟩ := H
 dsimp only at H
 have A3 := M_ A30
 clear A30
 replace H := bs_ H
 obtain ⟨⟨t355, t356, t357⟩, A40, H⟩ := H
 dsimp only at H
 have A4 := M_ A40
 clear A40
 simp only [Option.some.injEq, Prod.mk.injEq] at H
 obtain ⟨rfl, rfl, rfl, rfl, rfl⟩ := H
 go_enter Try.func20, Try.ntmps20
 try go_wp2_with (first | ((with_reducible refine gate_dst (N := 2) rfl ?_); refine be_ 2 #[.string (⟨#[]⟩ : ByteArray), .slice none 0 0, .slice none 0 0] 25 ?_; intro gb337 hg w5 hbox hb; have z_ := t3_ (bS_ (bw0_ HB.out) hb) hbox (gv_ hg (bw0_ HB.out) : w.heap.size ≤ gb337); clear HB; obtain ⟨HB, BK337, GE337⟩ := z_; clear hb hbox hg) | ((with_reducible refine gate_callee (f := 71) rfl ?_); refine gl_ (some 9) Try.func71 #[.slice A0 l0.length c0] ?_; (with_reducible refine (spec_l01New.calls k _ _ l0 t338 t339 t340 w _ ?side1 ?side2 ?side3 A2.out).mono ?_); (case side1 => exact bw1_ HB.out GE337.out); (case side2 => exact HR0.out); (case side3 => exact HC0.out); rintro e w6 ⟨g341, rfl, hi, hb, hb2⟩; refine ⟨_, rfl, ?_⟩; have z_ := t5_ (bB_ (bk_ BK337.out) hb2) hb hi (IsS99.ne_blk hi (bB_ (bk_ BK337.out) hb2) (by decide)) (Ne.symm (IsS99.ne_blk hi (bB_ (bk_ BK337.out) hb2) (by decide))); clear HB BK337; obtain ⟨BK337, HB, HI341, NB341_337, NB337_341⟩ := z_; (try clear hi hb2 hb)) | ((with_reducible refine gate_callee (f := 72) rfl ?_); refine gl_ (some 12) Try.func72 #[.pointer (some ⟨g341, 0, none⟩)] ?_; (with_reducible refine (spec_l2Both.calls k g341 t338 t339 t340 t342 t343 t346 t349 t352 t353 w _ ?side1 ?side2 A3.out).mono ?_); (case side1 => exact iz1_ HI341.out NB341_337.out); (case side2 => exact bw2_ HB.out (IsS99.ge HI341.out) GE337.out); rintro e w7 ⟨v344, v347, v350, rfl, ho0, ho1, ho2, hi, hb, hk⟩; refine ⟨_, rfl, ?_⟩; have z_ := t6_ (KeepBut.blk hk (bk_ BK337.out) NB337_341.out (by simp)) (Kd.R_lower ho0 (below_size (bw2_ HB.out (IsS99.ge HI341.out) GE337.out))) (Kd.R_lower ho1 (below_size (bw2_ HB.out (IsS99.ge HI341.out) GE337.out))) (Kd.S_lower ho2 (below_size (bw2_ HB.out (IsS99.ge HI341.out) GE337.out))) hb hi; clear HI341 HB BK337; obtain ⟨BK337, HO345, HO348, HO351, HB, HI341⟩ := z_; (try clear ho2 ho1 ho0 hi hk hb)) | ((with_reducible refine gate_dst (N := 6) rfl ?_); refine be_ 6 #[.string (⟨#[]⟩ : ByteArray), .slice none 0 0, .slice none 0 0] 25 ?_; intro gb354 hg w8 hbox hb; have z_ := t10_ (rB_ (kR_ HO345.out) hb) (rB_ (kR_ HO348.out) hb) (sB_ (kS_ HO351.out) hb) (bB_ (bk_ BK337.out) hb) (IsS99.below (iz1_ HI341.out NB341_337.out) hb) (bS_ (bw2_ HB.out (IsS99.ge HI341.out) GE337.out) hb) hbox (by rw [hg]; exact (below_size (bw2_ HB.out (IsS99.ge HI341.out) GE337.out)) : w.heap.size ≤ gb354) (by rw [hg]; exact Nat.ne_of_lt (blk_lt (bk_ BK337.out)) : gb337 ≠ gb354) (by rw [hg]; exact Nat.ne_of_lt (IsS99.lt (show IsS99 w _ g341 t338 t352 t353 from iz1_ HI341.out NB341_337.out)) : g341 ≠ gb354); clear HB HI341 BK337 HO351 HO348 HO345; obtain ⟨HO345, HO348, HO351, BK337, HI341, HB, BK354, GE354, NB337_354, NB341_354⟩ := z_; have NB354_337 := M_ NB337_354.out.symm; have NB354_341 := M_ NB341_354.out.symm; clear hb hbox hg; have hnb9 := NB354_337.out; have hnc9 := NB337_354.out; have hnb10 := NB354_341.out; have hnc10 := NB341_354.out; have hcz11_0 := cz_ BK354.out 0 (.string (⟨#[]⟩ : ByteArray)); have hcz11_1 := cz_ BK354.out 1 (.slice none 0 0); have hcz11_2 := cz_ BK354.out 2 (.slice none 0 0); have hfz11_0 := fz_ BK354.out 0; have hfz11_1 := fz_ BK354.out 1; have hfz11_2 := fz_ BK354.out 2; obtain ⟨Ao12, co12, eo12⟩ := Kd.R_slice HO345.out; subst eo12; obtain ⟨Ao13, co13, eo13⟩ := Kd.R_slice HO348.out; subst eo13))
 have n0_ : Aside0 (Kd.R (Kd.int .i64) 3 (((w8.setCell ⟨gb354, 0, none⟩ (.string t342)).setCell ⟨gb354, 1, none⟩ (.slice Ao12 t343.length co12)).setCell ⟨gb354, 2, none⟩ (.slice Ao13 t346.length co13)) w.heap.size (fun k_ => some k_ ≠ (.slice Ao13 t346.length co13 : Value).ownBlock) (.slice Ao12 t343.length co12) t343) := ⟨by refine kR_ ?_; exact Kd.R_mono (Kd.R_far (p := ⟨gb354, 2, none⟩) (Kd.R_far (p := ⟨gb354, 1, none⟩) (Kd.R_far (p := ⟨gb354, 0, none⟩) (Kd.R_types HO345.out BK354.out (by decide)) (fun _ hk => hk.2) (.string t342)) (fun _ hk => hk.2) (.slice Ao12 t343.length co12)) (fun _ hk => hk.2) (.slice Ao13 t346.length co13)) (fun _ hk => hk.1)⟩
 have n1_ : Aside0 (Kd.R (Kd.int .i64) 3 (((w8.setCell ⟨gb354, 0, none⟩ (.string t342)).setCell ⟨gb354, 1, none⟩ (.slice Ao12 t343.length co12)).setCell ⟨gb354, 2, none⟩ (.slice Ao13 t346.length co13)) w.heap.size (fun k_ => some k_ ≠ (.slice Ao12 t343.length co12 : Value).ownBlock) (.slice Ao13 t346.length co13) t346) := ⟨by refine kR_ ?_; exact Kd.R_mono (Kd.R_far (p := ⟨gb354, 2, none⟩) (Kd.R_far (p := ⟨gb354, 1, none⟩) (Kd.R_far (p := ⟨gb354, 0, none⟩) (Kd.R_types HO348.out BK354.out (by decide)) (fun _ hk => hk.2) (.string t342)) (fun _ hk => hk.2) (.slice Ao12 t343.length co12)) (fun _ hk => hk.2) (.slice Ao13 t346.length co13)) (fun _ hk => hk.1)⟩
 have n2_ : Aside0 (Kd.S (Kd.slice 30 k30) 34 (((w8.setCell ⟨gb354, 0, none⟩ (.string t342)).setCell ⟨gb354, 1, none⟩ (.slice Ao12 t343.length co12)).setCell ⟨gb354, 2, none⟩ (.slice Ao13 t346.length co13)) w.heap.size (fun _ => True) v350 t349) := ⟨by refine kS_ ?_; exact Kd.S_mono (Kd.S_far (p := ⟨gb354, 2, none⟩) (Kd.S_far (p := ⟨gb354, 1, none⟩) (Kd.S_far (p := ⟨gb354, 0, none⟩) (Kd.S_types HO351.out BK354.out (by decide)) (fun _ hk => hk.2) (.string t342)) (fun _ hk => hk.2) (.slice Ao12 t343.length co12)) (fun _ hk => hk.2) (.slice Ao13 t346.length co13)) (fun _ hk => trivial)⟩
 have n3_ : Aside0 ((((w8.setCell ⟨gb354, 0, none⟩ (.string t342)).setCell ⟨gb354, 1, none⟩ (.slice Ao12 t343.length co12)).setCell ⟨gb354, 2, none⟩ (.slice Ao13 t346.length co13)).heap[gb337]? = some (.cells #[.string (⟨#[]⟩ : ByteArray), .slice none 0 0, .slice none 0 0] 25 (0, 0))) := ⟨by refine bk_ ?_; refine blk_far ?_ NB337_354.out _; refine bk_ ?_; refine blk_far ?_ NB337_354.out _; refine bk_ ?_; refine blk_far ?_ NB337_354.out _; refine bk_ ?_; exact BK337.out⟩
 have n4_ : Aside0 ((((w8.setCell ⟨gb354, 0, none⟩ (.string t342)).setCell ⟨gb354, 1, none⟩ (.slice Ao12 t343.length co12)).setCell ⟨gb354, 2, none⟩ (.slice Ao13 t346.length co13)).heap[gb354]? = some (.cells #[.string t342, .slice Ao12 t343.length co12, .slice Ao13 t346.length co13] 25 (0, 0))) := ⟨by refine bk_ ?_; refine blk_put (cs := #[.string t342, .slice Ao12 t343.length co12, .slice none 0 0]) ?_ 2 _ rfl; refine bk_ ?_; refine blk_put (cs := #[.string t342, .slice none 0 0, .slice none 0 0]) ?_ 1 _ rfl; refine bk_ ?_; refine blk_put (cs := #[.string (⟨#[]⟩ : ByteArray), .slice none 0 0, .slice none 0 0]) ?_ 0 _ rfl; refine bk_ ?_; exact BK354.out⟩
 have n5_ : Aside0 (IsS99 w (((w8.setCell ⟨gb354, 0, none⟩ (.string t342)).setCell ⟨gb354, 1, none⟩ (.slice Ao12 t343.length co12)).setCell ⟨gb354, 2, none⟩ (.slice Ao13 t346.length co13)) g341 t338 t352 t353) := ⟨iz2_ HI341.out NB341_337.out NB341_354.out⟩
 have n6_ : Aside0 (Below w.heap.size w (((w8.setCell ⟨gb354, 0, none⟩ (.string t342)).setCell ⟨gb354, 1, none⟩ (.slice Ao12 t343.length co12)).setCell ⟨gb354, 2, none⟩ (.slice Ao13 t346.length co13))) := ⟨bw3_ HB.out (IsS99.ge HI341.out) GE337.out GE354.out⟩
 (try clear HB HI341 BK354 BK337 HO351 HO348 HO345)
 generalize (((w8.setCell ⟨gb354, 0, none⟩ (.string t342)).setCell ⟨gb354, 1, none⟩ (.slice Ao12 t343.length co12)).setCell ⟨gb354, 2, none⟩ (.slice Ao13 t346.length co13)) = w14 at n0_ n1_ n2_ n3_ n4_ n5_ n6_ ⊢
 have HO345 := n0_
 have HO348 := n1_
 have HO351 := n2_
 have BK337 := n3_
 have BK354 := n4_
 have HI341 := n5_
 have HB := n6_
 clear n0_ n1_ n2_ n3_ n4_ n5_ n6_
 have z_ := t7_ (Kd.R_drew HO345.out) (Kd.R_drew HO348.out) (Kd.S_drew HO351.out) (blk_drew BK337.out) (blk_drew BK354.out) (IsS99.drew HI341.out) (below_drew1 HB.out)
 clear HB HI341 BK354 BK337 HO351 HO348 HO345
 obtain ⟨HO345, HO348, HO351, BK337, BK354, HI341, HB⟩ := z_
 obtain ⟨Ao16, co16, eo16⟩ := Kd.S_slice HO351.out
 (first | subst eo16 | (injection eo16 with f1_ f2_ f3_; have f4_ := f1_.symm; have f5_ := f3_.symm; clear f1_ f2_ f3_; subst f4_; subst f5_))
 refine start_ (n := 11) (S := fun w' => w'.cell? ⟨gb354, 0, none⟩ = some (.string t342) ∧ w'.cell? ⟨gb354, 1, none⟩ = some (.slice Ao12 t343.length co12) ∧ w'.cell? ⟨gb354, 2, none⟩ = some (.slice Ao13 t346.length co13)) (ds := []) (mk_ 11 0) (by kernel_rfl) rfl rfl ⟨(blk_cell BK354.out 0).trans rfl, (blk_cell BK354.out 1).trans rfl, (blk_cell BK354.out 2).trans rfl⟩ (fun hHeld => ?_); refine with_tabW spec_DrawTakeMatrix.tab3 spec_DrawTakeMatrix.bits3 (fun HT_ HW_ => ?_)
 generalize w14.drew = w15 at HO345 HO348 HO351 BK337 BK354 HI341 HB hHeld ⊢
 refine pu_ 1 (some 16) (mk_ 11 2) HT_.out ?_
 refine pu_ 2 (some 17) (mk_ 11 6) HT_.out ?_
 refine pu_ 3 (some 18) (mk_ 11 14) HT_.out ?_
 refine pu_ 4 (some 19) (mk_ 11 30) HT_.out ?_
 refine pu_ 5 (some 20) (mk_ 11 62) HT_.out ?_
 refine ta_ 0 (some 15) (mk_ 11 63) HT_.out HW_.out hHeld (hy := by rintro w' ⟨s0, s1, s2⟩; go_simp; with_reducible rfl) (h := ?_)
 refine on_ 6 (some 21) (mk_ 11 127) HT_.out fun K hK => ?_
 refine goes_ Try.func73 (by kernel_rfl) rfl #[.pointer (some ⟨g341, 0, none⟩), .int .i64 (wrap64 ((t349.length : Int) + 2))] (by rfl) rfl rfl ar_ ?_
 with_reducible refine (spec_l01Below.calls g341 t338 t352 t353 (wrap64 ((t349.length : Int) + 2)) t355 t356 t357 w _ ?side1 ?side2 A4.out).mono ?_
 (case side1 => exact iz2_ HI341.out NB341_337.out NB341_354.out)
 (case side2 => exact bw3_ HB.out (IsS99.ge HI341.out) GE337.out GE354.out)
 rintro e w17 ⟨rfl, hi, hb, hk⟩
 refine ⟨_, rfl, ?_⟩
 have z_ := t7_ (KeepBut.blk hk (bk_ BK337.out) NB337_341.out (by simp)) (Kd.R_mono (Kd.R_keep (IsS99.apart (show IsS99 w _ g341 t338 t352 t353 from iz2_ HI341.out NB341_337.out NB341_354.out) (kR_ HO345.out) (by decide)) hk (fun _ h => h.2)) (fun _ h => h.1)) (Kd.R_mono (Kd.R_keep (IsS99.apart (show IsS99 w _ g341 t338 t352 t353 from iz2_ HI341.out NB341_337.out NB341_354.out) (kR_ HO348.out) (by decide)) hk (fun _ h => h.2)) (fun _ h => h.1)) (Kd.S_mono (Kd.S_keep (IsS99.apartS (show IsS99 w _ g341 t338 t352 t353 from iz2_ HI341.out NB341_337.out NB341_354.out) (kS_ HO351.out) (by decide)) hk (fun _ h => h.2)) (fun _ h => h.1)) (KeepBut.blk hk (bk_ BK354.out) NB354_341.out (by simp)) hb hi
 clear HI341 HB BK354 HO351 HO348 HO345 BK337
 obtain ⟨BK337, HO345, HO348, HO351, BK354, HB, HI341⟩ := z_
 (try clear hi hk hb)
 refine hK.out _ _ ⟨(blk_cell BK354.out 0).trans rfl, (blk_cell BK354.out 1).trans rfl, (blk_cell BK354.out 2).trans rfl⟩ (fun hHeld => ?_)
 clear hK K
 refine norm_ (a' := ?_) ?_ ?_
 rotate_left
 ·show Act.put _ (some 21) _ = _
  simp only [Act.put, lA_, lB_, lC_, i64_w, i32_w]
  rfl
 refine pu_ 7 (some 22) (mk_ 11 255) HT_.out ?_
 refine on_ 8 none (mk_ 11 511) HT_.out fun K hK => ?_
 have hs18 := cz_ BK337.out 0 (.string (⟨#[]⟩ : ByteArray))
 have hfs18 := fz_ BK337.out 0
 have hns18_1 := NB354_337.out
 have hms18_1 := NB337_354.out
 have hs19 := cz_ BK337.out 1 (.slice none 0 0)
 have hfs19 := fz_ BK337.out 1
 have hns19_1 := NB354_337.out
 have hms19_1 := NB337_354.out
 have hs20 := cz_ BK337.out 2 (.slice none 0 0)
 have hfs20 := fz_ BK337.out 2
 have hns20_1 := NB354_337.out
 have hms20_1 := NB337_354.out
 refine skip_ (w1 := ?_) (by rfl) rfl ?_ ?_
 rotate_left
 ·go_simp
  rfl
 refine hK.out _ _ ⟨((cell_far (p := ⟨gb337, _, none⟩) NB354_337.out _).trans (((cell_far (p := ⟨gb337, _, none⟩) NB354_337.out _).trans (((cell_far (p := ⟨gb337, _, none⟩) NB354_337.out _).trans (hHeld.1)))))), ((cell_far (p := ⟨gb337, _, none⟩) NB354_337.out _).trans (((cell_far (p := ⟨gb337, _, none⟩) NB354_337.out _).trans (((cell_far (p := ⟨gb337, _, none⟩) NB354_337.out _).trans (hHeld.2.1)))))), ((cell_far (p := ⟨gb337, _, none⟩) NB354_337.out _).trans (((cell_far (p := ⟨gb337, _, none⟩) NB354_337.out _).trans (((cell_far (p := ⟨gb337, _, none⟩) NB354_337.out _).trans (hHeld.2.2))))))⟩ (fun hHeld => ?_)
 clear hK K
 refine pu_ 9 (some 3) (mk_ 11 1023) HT_.out ?_
 refine pu_ 10 (some 4) (mk_ 11 2047) HT_.out ?_
 refine done_ (done_of HT_.out (by kernel_rfl)) ?_
 try go_wp2
 refine bodyPost_ret (results_ctt rfl _ _ gb337 25 #[.string t342, .slice Ao12 t343.length co12, .slice Ao13 t346.length co13] (0, 0) _ rfl (by refine bk_ ?_; refine blk_put (cs := #[.string t342, .slice Ao12 t343.length co12, .slice none 0 0]) ?_ 2 _ rfl; refine bk_ ?_; refine blk_put (cs := #[.string t342, .slice none 0 0, .slice none 0 0]) ?_ 1 _ rfl; refine bk_ ?_; refine blk_put (cs := #[.string (⟨#[]⟩ : ByteArray), .slice none 0 0, .slice none 0 0]) ?_ 0 _ rfl; refine bk_ ?_; exact BK337.out) Try.underlying25 rfl (by kernel_rfl)) rfl ?_
 exact ⟨_, _, _, rb_, by refine kR_ ?_; exact Kd.R_mono (Kd.R_far (p := ⟨gb337, 2, none⟩) (Kd.R_far (p := ⟨gb337, 1, none⟩) (Kd.R_far (p := ⟨gb337, 0, none⟩) (Kd.R_types HO345.out BK337.out (by decide)) (fun _ hk => hk.2) (.string t342)) (fun _ hk => hk.2) (.slice Ao12 t343.length co12)) (fun _ hk => hk.2) (.slice Ao13 t346.length co13)) (fun _ hk => hk.1), by refine kR_ ?_; exact Kd.R_mono (Kd.R_far (p := ⟨gb337, 2, none⟩) (Kd.R_far (p := ⟨gb337, 1, none⟩) (Kd.R_far (p := ⟨gb337, 0, none⟩) (Kd.R_types HO348.out BK337.out (by decide)) (fun _ hk => hk.2) (.string t342)) (fun _ hk => hk.2) (.slice Ao12 t343.length co12)) (fun _ hk => hk.2) (.slice Ao13 t346.length co13)) (fun _ hk => hk.1), by refine kS_ ?_; exact Kd.S_mono (Kd.S_far (p := ⟨gb337, 2, none⟩) (Kd.S_far (p := ⟨gb337, 1, none⟩) (Kd.S_far (p := ⟨gb337, 0, none⟩) (Kd.S_types HO351.out BK337.out (by decide)) (fun _ hk => hk.2) (.string t342)) (fun _ hk => hk.2) (.slice Ao12 t343.length co12)) (fun _ hk => hk.2) (.slice Ao13 t346.length co13)) (fun _ hk => trivial), bw3_ HB.out (IsS99.ge HI341.out) GE337.out GE354.out⟩

/-- Where the first element stands at which p holds; -1 if there is none. -/
def idxF {α : Type} (p : α → Bool) (l : List α) : Int := match l.findIdx? p with | some i => (i : Int) | none => -1
theorem idxF_hit {α : Type} (p : α → Bool) (l : List α) (k : Nat) (hk : k < l.length) (hp : p l[k] = true) (hn : ∀ j (h : j < l.length), j < k → p l[j] = false) : idxF p l = (k : Int) := by
 unfold idxF
 have : l.findIdx? p = some k := by
  rw [List.findIdx?_eq_some_iff_getElem]
  exact ⟨hk, hp, fun j hj => by simp [hn j (by omega) hj]⟩
 rw [this]
theorem idxF_miss {α : Type} (p : α → Bool) (l : List α) (hn : ∀ j (h : j < l.length), p l[j] = false) : idxF p l = -1 := by
 unfold idxF
 have : l.findIdx? p = none := by
  rw [List.findIdx?_eq_none_iff]
  intro x hx
  obtain ⟨j, hj, rfl⟩ := List.getElem_of_mem hx
  exact hn j hj
 rw [this]
theorem idxF_range {α : Type} (p : α → Bool) (l : List α) : -1 ≤ idxF p l ∧ idxF p l < (l.length : Int) := by
 unfold idxF
 cases h : l.findIdx? p with
 | none => simp; omega
 | some i =>
  have := (List.findIdx?_eq_some_iff_getElem.1 h).1
  simp only
  omega
theorem idxF_any {α : Type} (p : α → Bool) (l : List α) : decide (0 ≤ idxF p l) = l.any p := by
 unfold idxF
 cases h : l.findIdx? p with
 | none =>
  rw [List.findIdx?_eq_none_iff] at h
  simp
  intro x hx
  simpa using h x hx
 | some i =>
  obtain ⟨h1, h2, _⟩ := List.findIdx?_eq_some_iff_getElem.1 h
  simp
  exact ⟨_, List.getElem_mem h1, h2⟩
set_option maxHeartbeats 2000000 in
/-- slices.IndexFunc over a function value that keeps I. -/
theorem slices_IndexFunc_int_int.calls (p : Int → Bool) (g : Nat) (lb : Array Value) (I : World → Prop) (A0 : Option Addr) (c0 : Nat) (l0 : List Int) (w : World)
    (eg : ∀ args w, (callFunc g args).run Try.prog w = .ok (.enter g args) w)
    (hr0 : Kd.C (Kd.int .i64) w A0 l0.length l0) (hc0 : l0.length ≤ c0) (hI : ∀ W, I W → Below w.heap.size w W) (h0 : I w)
    (hf : ∀ W x, x ∈ l0 → I W → Calls Try.prog g (#[.int .i64 x] ++ lb) W fun e W' => e = .returned (.bool (p x)) ∧ I W') :
    Calls Try.prog 115 #[.slice A0 l0.length c0, .func (.func g) #[] lb] w fun e w' => e = .returned (.int .i64 (idxF p l0)) ∧ I w' := by
 have HR0 := M_ hr0
 have HI := M_ hI
 have HF := M_ hf
 have H0 := M_ h0
 have hlen : l0.length ≤ 9223372036854775807 := hr0.2.1
 clear hr0 hc0 hI hf h0
 go_enter Try.func115, Try.ntmps115
 go_wp2
 go_loopg [5, 8] l0.length (fun gg _ s8 wr => ∃ kk : Nat, kk ≤ l0.length ∧ l0.length - kk ≤ gg ∧ s8 = .int .i64 kk ∧ Aside0 (I wr) ∧ Aside0 (∀ j (h : j < l0.length), j < kk → p l0[j] = false))
 case atStart => exact ⟨0, Nat.zero_le _, by omega, rfl, H0, ⟨fun j h hj => absurd hj (Nat.not_lt_zero _)⟩⟩
 case round =>
  obtain ⟨kk, hkk, hg, rfl, HW, HN⟩ := hrel
  by_cases hlt : kk < l0.length
  ·have hltz : (kk : Int) < (l0.length : Int) := by omega
   obtain ⟨ad, e1, hx0⟩ := Kd.at_int HR0.out (kk : Int) (by omega) hltz
   cases e1
   have hx := ((HI.out _ HW.out).cell (World.block_lt_of_cell? w _ hx0)).trans hx0
   clear hx0
   have hrd : rd l0 (kk : Int) = l0[kk] := by simp [rd, List.getD_eq_getElem?_getD, hlt]
   rw [hrd] at hx
   have hcall := HF.out wr l0[kk] (List.getElem_mem hlt) HW.out
   clear hrd
   generalize hy : l0[kk] = y at hx hcall
   have HY := M_ hy
   clear hy
   simp only [Int.toNat_natCast, Nat.mul_one, Nat.add_zero] at hx
   cases hq : p y with
   | true =>
    rw [hq] at hcall
    have HQ := M_ hq
    clear hq
    go_wp2_with (go_at_fn g; refine hcall.mono ?_; rintro e w' ⟨rfl, hi'⟩)
    go_ret
    exact ⟨by rw [idxF_hit p l0 kk hlt (by rw [HY.out]; exact HQ.out) HN.out]; rfl, hi'⟩
   | false =>
    rw [hq] at hcall
    have HQ := M_ hq
    clear hq
    go_wp2_with (go_at_fn g; refine hcall.mono ?_; rintro e w' ⟨rfl, hi'⟩)
    go_roundg (l0.length - (kk + 1))
    case measure => omega
    case rel =>
     refine ⟨kk + 1, by omega, by omega, by go_num, ⟨hi'⟩, ⟨fun j h hj => ?_⟩⟩
     by_cases e : j = kk
     ·subst e
      rw [HY.out]; exact HQ.out
     ·exact HN.out j h (by omega)
  ·have hltz : ¬ (kk : Int) < (l0.length : Int) := by omega
   have HK : kk = l0.length := by omega
   subst HK
   go_wp2
   go_ret
   exact ⟨by rw [idxF_miss p l0 (fun j h => HN.out j h h)]; rfl, HW.out⟩

set_option maxHeartbeats 2000000 in
/-- slices.ContainsFunc over a function value that keeps I. -/
theorem slices_ContainsFunc_int_int.calls (p : Int → Bool) (g : Nat) (lb : Array Value) (I : World → Prop) (A0 : Option Addr) (c0 : Nat) (l0 : List Int) (w : World)
    (eg : ∀ args w, (callFunc g args).run Try.prog w = .ok (.enter g args) w)
    (hr0 : Kd.C (Kd.int .i64) w A0 l0.length l0) (hc0 : l0.length ≤ c0) (hI : ∀ W, I W → Below w.heap.size w W) (h0 : I w)
    (hf : ∀ W x, x ∈ l0 → I W → Calls Try.prog g (#[.int .i64 x] ++ lb) W fun e W' => e = .returned (.bool (p x)) ∧ I W') :
    Calls Try.prog 106 #[.slice A0 l0.length c0, .func (.func g) #[] lb] w fun e w' => e = .returned (.bool (l0.any p)) ∧ I w' := by
 have hc := slices_IndexFunc_int_int.calls p g lb I A0 c0 l0 w eg hr0 hc0 hI h0 hf
 rw [← idxF_any p l0]
 have hrange := idxF_range p l0
 generalize idxF p l0 = r at hc hrange ⊢
 have HC := M_ hc
 clear hc hr0 hc0 hI h0 hf eg
 go_enter Try.func106, Try.ntmps106
 go_wp2_with (go_at_call 115; refine HC.out.mono ?_; rintro e w' ⟨rfl, hi'⟩)
 go_ret
 exact ⟨rfl, hi'⟩

-- NOT PRINTED: function 109 (impl_between_1)

def between (l : List Int) (a b : Int) : Bool := l.all (fun n => decide (a ≤ n) && decide (n ≤ b))
def impl_between.f (l0 : List Int) (a1 : Int) (a2 : Int) : Option Bool := some (between l0 a1 a2)
theorem impl_between_1.calls (x a b : Int) (p q : Nat) (w : World) (h1 : w.cell? ⟨p, 0, none⟩ = some (.int .i64 a)) (h2 : w.cell? ⟨q, 0, none⟩ = some (.int .i64 b)) :
    Calls Try.prog 109 #[.int .i64 x, .pointer (some ⟨p, 0, none⟩), .pointer (some ⟨q, 0, none⟩)] w fun e w' => e = .returned (.bool (!(decide (a ≤ x) && decide (x ≤ b)))) ∧ w = w' := by
 by_cases c1 : x < a
 ·go_enter Try.func109, Try.ntmps109
  go_wp2
  go_ret
  exact ⟨by simp [show ¬ a ≤ x by omega], rfl⟩
 ·by_cases c2 : b < x
  ·go_enter Try.func109, Try.ntmps109
   go_wp2
   go_ret
   exact ⟨by simp [show a ≤ x by omega, show ¬ x ≤ b by omega], rfl⟩
  ·go_enter Try.func109, Try.ntmps109
   go_wp2
   go_ret
   exact ⟨by simp [show a ≤ x by omega, show x ≤ b by omega], rfl⟩
set_option maxHeartbeats 2000000 in
theorem impl_between.calls (A0 : Option Addr) (c0 : Nat) (l0 : List Int) (a1 a2 : Int) (r : Bool) (w : World) (hr0 : Kd.C (Kd.int .i64) w A0 l0.length l0) (hc0 : l0.length ≤ c0) (h : impl_between.f l0 a1 a2 = some r) :
    Calls Try.prog 84 #[.slice A0 l0.length c0, .int .i64 a1, .int .i64 a2] w fun e w' => e = .returned (.bool r) ∧ Below w.heap.size w w' := by
 obtain rfl := Option.some.inj h
 clear h
 have eg : ∀ args w, (callFunc 109 args).run Try.prog w = .ok (.enter 109 args) w := enters_of Try.func109 (by kernel_rfl) rfl
 have hc := slices_ContainsFunc_int_int.calls (fun x => !(decide (a1 ≤ x) && decide (x ≤ a2))) 109 #[.pointer (some ⟨w.heap.size, 0, none⟩), .pointer (some ⟨w.heap.size + 1, 0, none⟩)]
  (fun W => (w.alloc (.cells #[.int .i64 a1] 3)).alloc (.cells #[.int .i64 a2] 3) = W) A0 c0 l0 ((w.alloc (.cells #[.int .i64 a1] 3)).alloc (.cells #[.int .i64 a2] 3)) eg
  (Kd.C_alloc (Kd.C_alloc hr0 _) _) hc0 (fun W e => e ▸ Below.refl _ _) rfl
  (fun W x _ e => (impl_between_1.calls x a1 a2 _ _ W (by rw [← e]; simp) (by rw [← e]; simp)).mono fun _ _ ⟨h1, h2⟩ => ⟨h1, e.trans h2⟩)
 have HE : (l0.any fun x => !(decide (a1 ≤ x) && decide (x ≤ a2))) = !(between l0 a1 a2) := by simp [between, List.any_eq_not_all_not]
 rw [HE] at hc
 clear HE eg
 generalize between l0 a1 a2 = b at hc ⊢
 have HC := M_ hc
 clear hc hr0
 go_enter Try.func84, Try.ntmps84
 go_wp2_with (go_at_call 106; refine HC.out.mono ?_; rintro e w' ⟨rfl, rfl⟩)
 go_ret
 exact ⟨by simp, ((Below.refl _ w).alloc (Nat.le_refl _) _).alloc (by simp) _⟩

def impl_part.f (a0 : Int) (a1 : Int) : Option (Bool) := some ((Go.bits .andNot .i64 a0 a1) == 0)
set_option maxHeartbeats 8000000 in
set_option maxRecDepth 100000 in
theorem impl_part.calls (a0 : Int) (a1 : Int) (r : Bool) (w : World) (h : impl_part.f a0 a1 = some r) :
    Calls Try.prog 105 #[.int .i64 a0, .int .i64 a1] w fun e w' => e = .returned (.bool r) ∧ Drawn0 w w' := by
 have H : (some ((Go.bits .andNot .i64 a0 a1) == 0)) = some r := h
 clear h
 obtain rfl := Option.some.inj H
 go_enter Try.func105, Try.ntmps105
 go_wp2
 go_ret
 exact ⟨ra_, dr_⟩

def impl_fall.l0 : Nat → List Int → Int → List Int → Int → Int → Option (Int)
  | 0, _, _, _, _, _ => none
  | k + 1, x0, x1, x7, x8, x9 => if x9 < x8 then (if 0 ≤ x9 then (if x9 < (x7.length : Int) then ((impl_part.f x1 (rd x7 x9)).bind fun t359 => (if t359 = true then (some x9) else (impl_fall.l0 k x0 x1 x7 x8 (wrap64 (x9 + 1))))) else (none)) else (none)) else (some (x0.length : Int))
def impl_fall.f (k : Nat) (l0 : List Int) (a1 : Int) : Option (Int) := impl_fall.l0 k l0 a1 l0 (l0.length : Int) 0
theorem impl_fall.mono_l : ∀ k, (∀ y0 y1 y2 y3 y4, LeO (impl_fall.l0 k y0 y1 y2 y3 y4) (impl_fall.l0 (k + 1) y0 y1 y2 y3 y4))
  | 0 => fun _ _ _ _ _ r h => by simp [impl_fall.l0] at h
  | k + 1 => by
    have ih0 := impl_fall.mono_l k
    · intro y0 y1 y2 y3 y4
      unfold impl_fall.l0
      repeat' first | (with_reducible first | exact ih0 _ _ _ _ _ | exact LeO.refl _ | exact LeO.none _ | refine LeO.ite ?_ ?_ | refine LeO.bind ?_ (fun _ => ?_)) | exact ih0 _ _ _ _ _ | exact LeO.none _ | refine LeO.ite ?_ ?_ | refine LeO.bind ?_ (fun _ => ?_)
theorem impl_fall.mono : ∀ a0 a1 k, LeO (impl_fall.f k a0 a1) (impl_fall.f (k + 1) a0 a1) := by
 intro a0 a1 k
 have ih0 := impl_fall.mono_l k
 unfold impl_fall.f
 repeat' first | (with_reducible first | exact ih0 _ _ _ _ _ | exact LeO.refl _ | exact LeO.none _ | refine LeO.ite ?_ ?_ | refine LeO.bind ?_ (fun _ => ?_)) | exact ih0 _ _ _ _ _ | exact LeO.none _ | refine LeO.ite ?_ ?_ | refine LeO.bind ?_ (fun _ => ?_)
set_option maxHeartbeats 8000000 in
set_option maxRecDepth 100000 in
theorem impl_fall.calls (k : Nat) (A0 : Option Addr) (c0 : Nat) (l0 : List Int) (a1 : Int) (r : Int) (w : World) (hr0 : Kd.C (Kd.int .i64) w A0 l0.length l0) (hc0 : l0.length ≤ c0) (h : impl_fall.f k l0 a1 = some r) :
    Calls Try.prog 77 #[.slice A0 l0.length c0, .int .i64 a1] w fun e w' => e = .returned (.int .i64 r) ∧ Drawn0 w w' := by
 have HR0 := M_ hr0
 have HC0 := M_ hc0
 clear hr0 hc0
 have H : (impl_fall.l0 k l0 a1 l0 (l0.length : Int) 0) = some r := h
 clear h
 have H' := M_ H
 clear H
 go_enter Try.func77, Try.ntmps77
 go_wp2
 go_loopg [9] k (fun kq v9 w' => ∃ (x9_1 : Int), v9 = .int .i64 x9_1 ∧ Aside0 (impl_fall.l0 kq l0 a1 l0 (l0.length : Int) x9_1 = some r) ∧ Aside0 (kq ≤ k) ∧ Drawn0 w w')
 case atStart => exact ⟨(0), (by first | rfl | (simp; done) | (simp [*]; done)), H', ⟨Nat.le_refl _⟩, dr_⟩
 case round =>
  clear H'
  try clear p2
  obtain ⟨x9_1, rfl, HA, HK1, ⟨m1, rfl⟩⟩ := hrel
  cases gk with
  | zero => exact absurd HA.out (by simp [impl_fall.l0])
  | succ k1 =>
   have H := HA.out
   clear HA
   simp only [impl_fall.l0] at H
   by_cases c3 : x9_1 < (l0.length : Int)
   ·rw [if_pos c3] at H
    have c3b0 := dt_ c3
    clear c3
    by_cases c4 : 0 ≤ x9_1
    ·rw [if_pos c4] at H
     have c4b0 := dt_ c4
     clear c4
     by_cases c5 : x9_1 < (l0.length : Int)
     ·rw [if_pos c5] at H
      have c5b0 := dt_ c5
      clear c5
      replace H := bs_ H
      obtain ⟨t359, A60, H⟩ := H
      (try dsimp only at H)
      have A6 := M_ A60
      clear A60
      by_cases c7 : t359 = true
      ·subst c7
       rw [if_pos rfl] at H
       obtain rfl := Option.some.inj H
       have p358 : 0 ≤ (x9_1 : Int) := od_ as_
       have q358 : x9_1 < (l0.length : Int) := od_ as_
       obtain ⟨ad358, e358, hx358_0⟩ := Kd.at_int HR0.out x9_1 p358 q358
       cases e358
       replace p358 := eq_true p358
       replace q358 := eq_true q358
       go_wp2_with (first | ((with_reducible refine gate_callee (f := 105) rfl ?_); refine gl_ (some 16) Try.func105 #[.int .i64 a1, .int .i64 (rd l0 x9_1)] ?_; (with_reducible refine (impl_part.calls a1 (rd l0 x9_1) true _ A6.out).mono ?_); rintro e w' ⟨rfl, ⟨nd, rfl⟩⟩; refine ⟨_, rfl, ?_⟩))
       go_ret
       exact ⟨ra_, dr_⟩
      ·replace c7 := Bool.eq_false_iff.mpr c7
       subst c7
       rw [if_neg (show ¬ (false = true) by decide)] at H
       have H' := M_ H
       clear H
       have p358 : 0 ≤ (x9_1 : Int) := od_ as_
       have q358 : x9_1 < (l0.length : Int) := od_ as_
       obtain ⟨ad358, e358, hx358_0⟩ := Kd.at_int HR0.out x9_1 p358 q358
       cases e358
       replace p358 := eq_true p358
       replace q358 := eq_true q358
       go_wp2_with (first | ((with_reducible refine gate_callee (f := 105) rfl ?_); refine gl_ (some 16) Try.func105 #[.int .i64 a1, .int .i64 (rd l0 x9_1)] ?_; (with_reducible refine (impl_part.calls a1 (rd l0 x9_1) false _ A6.out).mono ?_); rintro e w' ⟨rfl, ⟨nd, rfl⟩⟩; refine ⟨_, rfl, ?_⟩))
       go_roundg k1
       case measure => have := HK1.out; omega
       case rel => exact ⟨(wrap64 (x9_1 + 1)), (by first | rfl | (simp; done) | (simp [*]; done)), H', ⟨by have := HK1.out; omega⟩, dr_⟩
     ·rw [if_neg c5] at H
      exact absurd H (by simp)
    ·rw [if_neg c4] at H
     exact absurd H (by simp)
   ·rw [if_neg c3] at H
    have c3b0 := decide_eq_false c3
    clear c3
    obtain rfl := Option.some.inj H
    go_wp2
    go_ret
    exact ⟨ra_, dr_⟩

def impl_isSet.f (a0 : Int) : Option (Bool) := if a0 ≥ 0 then (some (decide (a0 ≤ 127))) else (some false)
set_option maxHeartbeats 8000000 in
set_option maxRecDepth 100000 in
theorem impl_isSet.calls (a0 : Int) (r : Bool) (w : World) (h : impl_isSet.f a0 = some r) :
    Calls Try.prog 79 #[.int .i64 a0] w fun e w' => e = .returned (.bool r) ∧ Drawn0 w w' := by
 have H : (if a0 ≥ 0 then (some (decide (a0 ≤ 127))) else (some false)) = some r := h
 clear h
 by_cases c2 : a0 ≥ 0
 ·rw [if_pos c2] at H
  have c2b0 : decide (0 ≤ a0) = true := dt_ c2
  clear c2
  obtain rfl := Option.some.inj H
  go_enter Try.func79, Try.ntmps79
  go_wp2
  go_ret
  exact ⟨ra_, dr_⟩
 ·rw [if_neg c2] at H
  have c2b0 : decide (0 ≤ a0) = false := decide_eq_false c2
  clear c2
  obtain rfl := Option.some.inj H
  go_enter Try.func79, Try.ntmps79
  go_wp2
  go_ret
  exact ⟨ra_, dr_⟩

-- NOT PRINTED: function 107 (impl_IsBar_1)

def isBar (l : List Int) : Bool := decide (1 ≤ l.length) && decide (l.length ≤ 40) && l.all (fun s => decide (0 ≤ s) && decide (s ≤ 127))
def impl_IsBar.f (l0 : List Int) : Option Bool := some (isBar l0)
theorem impl_IsBar_1.calls (x : Int) (w : World) : Calls Try.prog 107 #[.int .i64 x] w fun e w' => e = .returned (.bool (!(decide (0 ≤ x) && decide (x ≤ 127)))) ∧ w = w' := by
 by_cases h1 : 0 ≤ x
 ·by_cases h2 : x ≤ 127
  ·go_enter Try.func107, Try.ntmps107
   go_wp2
   go_ret
   exact ⟨by simp [h1, h2], rfl⟩
  ·go_enter Try.func107, Try.ntmps107
   go_wp2
   go_ret
   exact ⟨by simp [h1, h2], rfl⟩
 ·go_enter Try.func107, Try.ntmps107
  go_wp2
  go_ret
  exact ⟨by simp [h1], rfl⟩
set_option maxHeartbeats 2000000 in
theorem impl_IsBar.calls (A0 : Option Addr) (c0 : Nat) (l0 : List Int) (r : Bool) (w : World) (hr0 : Kd.C (Kd.int .i64) w A0 l0.length l0) (hc0 : l0.length ≤ c0) (h : impl_IsBar.f l0 = some r) :
    Calls Try.prog 78 #[.slice A0 l0.length c0] w fun e w' => e = .returned (.bool r) ∧ Drawn0 w w' := by
 obtain rfl := Option.some.inj h
 clear h
 have eg : ∀ args w, (callFunc 107 args).run Try.prog w = .ok (.enter 107 args) w := enters_of Try.func107 (by kernel_rfl) rfl
 have hc := slices_ContainsFunc_int_int.calls (fun s => !(decide (0 ≤ s) && decide (s ≤ 127))) 107 #[] (fun W => w = W) A0 c0 l0 w eg hr0 hc0 (fun W e => e ▸ Below.refl _ _) rfl
  (fun W x _ e => (impl_IsBar_1.calls x W).mono fun _ _ ⟨h1, h2⟩ => ⟨h1, e.trans h2⟩)
 have HE : (l0.any fun s => !(decide (0 ≤ s) && decide (s ≤ 127))) = !(l0.all (fun s => decide (0 ≤ s) && decide (s ≤ 127))) := by simp [List.any_eq_not_all_not]
 rw [HE] at hc
 unfold isBar
 clear HE eg
 generalize (l0.all fun s => decide (0 ≤ s) && decide (s ≤ 127)) = b at hc ⊢
 have HC := M_ hc
 clear hc hr0
 by_cases h1 : 1 ≤ l0.length
 ·by_cases h2 : l0.length ≤ 40
  ·have g1 : decide ((l0.length : Int) ≥ 1) = true := by simp; omega
   have g2 : decide ((l0.length : Int) ≤ 40) = true := by simp; omega
   go_enter Try.func78, Try.ntmps78
   go_wp2_with (go_at_call 106; refine HC.out.mono ?_; rintro e w' ⟨rfl, rfl⟩)
   go_ret
   exact ⟨by simp [h1, h2], Drawn0.refl _⟩
  ·have g1 : decide ((l0.length : Int) ≥ 1) = true := by simp; omega
   have g2 : decide ((l0.length : Int) ≤ 40) = false := by simp; omega
   go_enter Try.func78, Try.ntmps78
   go_wp2_with fail
   go_ret
   exact ⟨by simp [h2], Drawn0.refl _⟩
 ·have g1 : decide ((l0.length : Int) ≥ 1) = false := by simp; omega
  go_enter Try.func78, Try.ntmps78
  go_wp2_with fail
  go_ret
  exact ⟨by simp [h1], Drawn0.refl _⟩

end Go.Proofs.Ytilbngklgjjblaa.Q
