/- Contracts of Go functions over this translation. Conditions: those that each theorem names. -/
import Derived.Test.YtilbngklgjjblaaQ0
import Derived.Test.YtilbngklgjjblaaQ4
import Derived.Test.YtilbngklgjjblaaQ7
import Derived.Test.YtilbngklgjjblaaQ8
import Derived.Test.YtilbngklgjjblaaQ9
import Derived.Test.YtilbngklgjjblaaQ19
namespace Go.Proofs.Ytilbngklgjjblaa.Q
open Go.RowKit Go.Proofs.YtilbngklgjjblaaW.PrintWords Go.Proofs.YtilbngklgjjblaaW.PrintLast Go.Proofs.YtilbngklgjjblaaW.PrintMore
attribute [local go_sem] max2_int min2_int max_two min_two max_three min_three max_four min_four
set_option linter.unusedVariables false
set_option linter.unusedSimpArgs false

mutual
def laws_FnSwept.j1 : Nat → List (List (S30)) → List Int → Bool → ByteArray → List Int → List Int → Option (Bool)
  | 0, _, _, _, _, _, _ => none
  | k + 1, x5, x8, x84, x445000, x445001, x445002 => if x84 = true then (none) else ((impl_SweepMagazine.f k x445000 x445001 x445002 x5).bind fun bt461 => ((impl_KindCounts.f k x445000 x445001 x445002 x5).bind fun t466 => ((laws_ints.f k t466 x8).bind fun t469 => (if t469 = true then (if bt461.2.2 = true then (if bt461.2.1 = 0 then ((laws_stocks.f k bt461.1 x5).bind fun t470 => (some t470)) else (none)) else (none)) else (none)))))
def laws_FnSwept.l0 : Nat → List Int → Int → Int → Option (Bool)
  | 0, _, _, _ => none
  | k + 1, x50, x51, x52 => if x52 < x51 then (if 0 ≤ x52 then (if x52 < (x50.length : Int) then (if (rd x50 x52) > 20 then (some true) else (laws_FnSwept.l0 k x50 x51 (wrap64 (x52 + 1)))) else (none)) else (none)) else (none)
end
def laws_FnSwept.f (k : Nat) (l0 : List Int) : Option (Bool) := if (l0.length : Int) > 1048576 then (some true) else ((spec_DrawSweepMagazine.f k l0).bind fun bt434 => ((impl_SweepMagazine.f k bt434.1 bt434.2.1 bt434.2.2.1 bt434.2.2.2).bind fun bt445 => ((spec_MagazineOk.f k bt434.1 bt434.2.1 bt434.2.2.1 bt434.2.2.2).bind fun t450 => (if t450 = true then ((impl_KindCounts.f k bt434.1 bt434.2.1 bt434.2.2.1 bt434.2.2.2).bind fun t452 => (if bt445.2.2 = true then ((impl_MagazineOk.f k bt434.1 bt434.2.1 bt434.2.2.1 bt445.1).bind fun t456 => (if t456 = true then ((impl_CountStrays.f k bt434.1 bt434.2.1 bt434.2.2.1 bt434.2.2.2).bind fun t457 => (if bt445.2.1 = t457 then ((impl_CountStrays.f k bt434.1 bt434.2.1 bt434.2.2.1 bt445.1).bind fun t458 => (if t458 = 0 then ((impl_CountWorn.f k bt434.1 bt434.2.1 bt434.2.2.1 bt445.1).bind fun t459 => ((impl_CountWorn.f k bt434.1 bt434.2.1 bt434.2.2.1 bt434.2.2.2).bind fun t460 => (laws_FnSwept.j1 k bt445.1 t452 (t459 != t460) bt434.1 bt434.2.1 bt434.2.2.1))) else (none))) else (none))) else (none))) else (laws_FnSwept.l0 k t452 (t452.length : Int) 0))) else (if bt445.2.2 = true then (none) else (if bt445.2.1 = 0 then ((impl_CountStrays.f k bt434.1 bt434.2.1 bt434.2.2.1 bt434.2.2.2).bind fun t451 => (some (t451 == (-1)))) else (none)))))))
theorem laws_FnSwept.mono_l : ∀ k, (∀ y0 y1 y2 y3 y4 y5, LeO (laws_FnSwept.j1 k y0 y1 y2 y3 y4 y5) (laws_FnSwept.j1 (k + 1) y0 y1 y2 y3 y4 y5)) ∧ (∀ y0 y1 y2, LeO (laws_FnSwept.l0 k y0 y1 y2) (laws_FnSwept.l0 (k + 1) y0 y1 y2))
  | 0 => ⟨fun _ _ _ _ _ _ r h => by simp [laws_FnSwept.j1] at h, fun _ _ _ r h => by simp [laws_FnSwept.l0] at h⟩
  | k + 1 => by
    obtain ⟨ih0, ih1⟩ := laws_FnSwept.mono_l k
    refine ⟨?_, ?_⟩ <;> intros <;> (first | unfold laws_FnSwept.j1 | unfold laws_FnSwept.l0) <;> repeat' first | (with_reducible first | exact ih0 _ _ _ _ _ _ | exact ih1 _ _ _ | exact impl_CountStrays.mono _ _ _ _ _ | exact impl_CountWorn.mono _ _ _ _ _ | exact impl_KindCounts.mono _ _ _ _ _ | exact impl_MagazineOk.mono _ _ _ _ _ | exact impl_SweepMagazine.mono _ _ _ _ _ | exact laws_ints.mono _ _ _ | exact laws_stocks.mono _ _ _ | exact spec_DrawSweepMagazine.mono _ _ | exact spec_MagazineOk.mono _ _ _ _ _ | exact LeO.refl _ | exact LeO.none _ | refine LeO.ite ?_ ?_ | refine LeO.bind ?_ (fun _ => ?_)) | exact ih0 _ _ _ _ _ _ | exact ih1 _ _ _ | exact impl_CountStrays.mono _ _ _ _ _ | exact impl_CountWorn.mono _ _ _ _ _ | exact impl_KindCounts.mono _ _ _ _ _ | exact impl_MagazineOk.mono _ _ _ _ _ | exact impl_SweepMagazine.mono _ _ _ _ _ | exact laws_ints.mono _ _ _ | exact laws_stocks.mono _ _ _ | exact spec_DrawSweepMagazine.mono _ _ | exact spec_MagazineOk.mono _ _ _ _ _ | exact LeO.none _ | refine LeO.ite ?_ ?_ | refine LeO.bind ?_ (fun _ => ?_)
theorem laws_FnSwept.mono : ∀ a0 k, LeO (laws_FnSwept.f k a0) (laws_FnSwept.f (k + 1) a0) := by
 intro a0 k
 obtain ⟨ih0, ih1⟩ := laws_FnSwept.mono_l k
 unfold laws_FnSwept.f
 repeat' first | (with_reducible first | exact ih0 _ _ _ _ _ _ | exact ih1 _ _ _ | exact impl_CountStrays.mono _ _ _ _ _ | exact impl_CountWorn.mono _ _ _ _ _ | exact impl_KindCounts.mono _ _ _ _ _ | exact impl_MagazineOk.mono _ _ _ _ _ | exact impl_SweepMagazine.mono _ _ _ _ _ | exact laws_ints.mono _ _ _ | exact laws_stocks.mono _ _ _ | exact spec_DrawSweepMagazine.mono _ _ | exact spec_MagazineOk.mono _ _ _ _ _ | exact LeO.refl _ | exact LeO.none _ | refine LeO.ite ?_ ?_ | refine LeO.bind ?_ (fun _ => ?_)) | exact ih0 _ _ _ _ _ _ | exact ih1 _ _ _ | exact impl_CountStrays.mono _ _ _ _ _ | exact impl_CountWorn.mono _ _ _ _ _ | exact impl_KindCounts.mono _ _ _ _ _ | exact impl_MagazineOk.mono _ _ _ _ _ | exact impl_SweepMagazine.mono _ _ _ _ _ | exact laws_ints.mono _ _ _ | exact laws_stocks.mono _ _ _ | exact spec_DrawSweepMagazine.mono _ _ | exact spec_MagazineOk.mono _ _ _ _ _ | exact LeO.none _ | refine LeO.ite ?_ ?_ | refine LeO.bind ?_ (fun _ => ?_)
def laws_FnSwept.T16 : Bool × List (List Nat × List Nat) := (true, [([], []), ([], []), ([0, 1], [0, 1]), ([2], [2]), ([3, 2], [3]), ([4], [4]), ([4], [4]), ([4], [4]), ([6, 7, 4, 4], [4, 6, 7]), ([5, 8, 4], [4, 5, 8]), ([4, 9], [4, 9]), ([10, 8], [10]), ([11], [11]), ([11], [11]), ([12, 13, 11, 11], [11, 12, 13]), ([14, 11], [11, 14]), ([11, 15], [11, 15]), ([16, 14], [16]), ([17], [17]), ([17], [17]), ([18, 19, 17, 17], [17, 18, 19]), ([17], [17]), ([17], [17]), ([21, 22, 20, 17], [17, 21, 22]), ([20, 23, 17], [17, 20, 23]), ([17, 24], [17, 24])])
def laws_FnSwept.B16 : List Nat := [0, 0, 3, 7, 15, 31, 31, 31, 223, 511, 1023, 2047, 4095, 4095, 16383, 32767, 65535, 131071, 262143, 262143, 1048575, 262143, 262143, 8388607, 16777215, 33554431]
theorem laws_FnSwept.tab16 : rtab .any (opsOf Try.f19 16) = laws_FnSwept.T16 := by kernel_rfl
theorem laws_FnSwept.bits16 : waitsOk laws_FnSwept.T16.2 laws_FnSwept.B16 = true := by kernel_rfl
set_option maxHeartbeats 8000000 in
set_option maxRecDepth 100000 in
theorem laws_FnSwept.calls (k : Nat) (A0 : Option Addr) (c0 : Nat) (l0 : List Int) (r : Bool) (w : World) (hr0 : Kd.C (Kd.int .u8) w A0 l0.length l0) (hc0 : l0.length ≤ c0) (h : laws_FnSwept.f k l0 = some r) :
    Calls Try.prog 19 #[.slice A0 l0.length c0] w fun e w' => e = .returned (.bool r) ∧ Below w.heap.size w w' := by
 have hu25 := Try.underlying25
 have HR0 := M_ hr0
 have HC0 := M_ hc0
 clear hr0 hc0
 have HB := M_ (Below.refl w.heap.size w)
 have H : (if (l0.length : Int) > 1048576 then (some true) else ((spec_DrawSweepMagazine.f k l0).bind fun bt434 => ((impl_SweepMagazine.f k bt434.1 bt434.2.1 bt434.2.2.1 bt434.2.2.2).bind fun bt445 => ((spec_MagazineOk.f k bt434.1 bt434.2.1 bt434.2.2.1 bt434.2.2.2).bind fun t450 => (if t450 = true then ((impl_KindCounts.f k bt434.1 bt434.2.1 bt434.2.2.1 bt434.2.2.2).bind fun t452 => (if bt445.2.2 = true then ((impl_MagazineOk.f k bt434.1 bt434.2.1 bt434.2.2.1 bt445.1).bind fun t456 => (if t456 = true then ((impl_CountStrays.f k bt434.1 bt434.2.1 bt434.2.2.1 bt434.2.2.2).bind fun t457 => (if bt445.2.1 = t457 then ((impl_CountStrays.f k bt434.1 bt434.2.1 bt434.2.2.1 bt445.1).bind fun t458 => (if t458 = 0 then ((impl_CountWorn.f k bt434.1 bt434.2.1 bt434.2.2.1 bt445.1).bind fun t459 => ((impl_CountWorn.f k bt434.1 bt434.2.1 bt434.2.2.1 bt434.2.2.2).bind fun t460 => (laws_FnSwept.j1 k bt445.1 t452 (t459 != t460) bt434.1 bt434.2.1 bt434.2.2.1))) else (none))) else (none))) else (none))) else (laws_FnSwept.l0 k t452 (t452.length : Int) 0))) else (if bt445.2.2 = true then (none) else (if bt445.2.1 = 0 then ((impl_CountStrays.f k bt434.1 bt434.2.1 bt434.2.2.1 bt434.2.2.2).bind fun t451 => (some (t451 == (-1)))) else (none)))))))) = some r := h
 clear h
 by_cases c2 : (l0.length : Int) > 1048576
 ·rw [if_pos c2] at H
  have c2b0 : decide (1048576 < (l0.length : Int)) = true := dt_ c2
  have c2b1 : decide (1048576 < l0.length) = true := dt_ (by omega)
  clear c2
  obtain rfl := Option.some.inj H
  go_enter Try.func19, Try.ntmps19
  go_wp2
  go_ret
  exact ⟨rb_, bw0_ HB.out⟩
 ·rw [if_neg c2] at H
  have c2b0 : decide (1048576 < (l0.length : Int)) = false := decide_eq_false c2
  have c2b1 : decide (1048576 < l0.length) = false := decide_eq_false (by omega)
  clear c2
  replace H := bs_ H
  obtain ⟨⟨t434, t435, t438, t441⟩, A30, H⟩ := H
  dsimp only at H
  have A3 := M_ A30
  clear A30
  replace H := bs_ H
  obtain ⟨⟨t445, t448, t449⟩, A40, H⟩ := H
  dsimp only at H
  have A4 := M_ A40
  clear A40
  replace H := bs_ H
  obtain ⟨t450, A50, H⟩ := H
  (try dsimp only at H)
  have A5 := M_ A50
  clear A50
  by_cases c6 : t450 = true
  ·subst c6
   rw [if_pos rfl] at H
   replace H := bs_ H
   obtain ⟨t452, A70, H⟩ := H
   (try dsimp only at H)
   have A7 := M_ A70
   clear A70
   by_cases c8 : t449 = true
   ·subst c8
    rw [if_pos rfl] at H
    have HC9 := M_ H
    clear H
    go_enter Try.func19, Try.ntmps19
    go_upto_region 16 with (first | ((with_reducible refine gate_callee (f := 69) rfl ?_); refine gl_ (some 19) Try.func69 #[.slice A0 l0.length c0] ?_; (with_reducible refine (spec_DrawSweepMagazine.calls k _ _ l0 t434 t435 t438 t441 _ ?side1 ?side2 A3.out).mono ?_); (case side1 => exact kD_ HR0.out); (case side2 => exact HC0.out); rintro e w10 ⟨v436, v439, v442, rfl, ho0, ho1, ho2, hb⟩; refine ⟨_, rfl, ?_⟩; have z_ := t4_ (Kd.R_lower ho0 (below_size (bw0_ HB.out))) (Kd.R_lower ho1 (below_size (bw0_ HB.out))) (Kd.S_lower ho2 (below_size (bw0_ HB.out))) (bS_ (bw0_ HB.out) hb); clear HB; obtain ⟨HO437, HO440, HO443, HB⟩ := z_; (try clear ho2 ho1 ho0 hb)) | ((with_reducible refine gate_dst (N := 3) rfl ?_); refine be_ 3 #[.string (⟨#[]⟩ : ByteArray), .slice none 0 0, .slice none 0 0] 25 ?_; intro gb444 hg w11 hbox hb; have z_ := t6_ (rB_ (kR_ HO437.out) hb) (rB_ (kR_ HO440.out) hb) (sB_ (kS_ HO443.out) hb) (bS_ (bw0_ HB.out) hb) hbox (gv_ hg (bw0_ HB.out) : w.heap.size ≤ gb444); (try clear HO443 HO440 HO437); clear HB; obtain ⟨HO437, HO440, HO443, HB, BK444, GE444⟩ := z_; clear hb hbox hg; have hcz12_0 := cz_ BK444.out 0 (.string (⟨#[]⟩ : ByteArray)); have hcz12_1 := cz_ BK444.out 1 (.slice none 0 0); have hcz12_2 := cz_ BK444.out 2 (.slice none 0 0); have hfz12_0 := fz_ BK444.out 0; have hfz12_1 := fz_ BK444.out 1; have hfz12_2 := fz_ BK444.out 2; obtain ⟨Ao13, co13, eo13⟩ := Kd.R_slice HO437.out; subst eo13; obtain ⟨Ao14, co14, eo14⟩ := Kd.R_slice HO440.out; subst eo14; obtain ⟨Ao15, co15, eo15⟩ := Kd.S_slice HO443.out; subst eo15) | ((with_reducible refine gate_callee (f := 66) rfl ?_); refine gl_ (some 25) Try.func66 #[.agg #[.string t434, .slice Ao13 t435.length co13, .slice Ao14 t438.length co14], .slice Ao15 t441.length co15] ?_; (with_reducible refine (impl_SweepMagazine.calls k t434 _ _ t435 _ _ t438 _ _ t441 t445 t448 true _ ?side1 ?side2 ?side3 ?side4 ?side5 ?side6 A4.out).mono ?_); (case side1 => refine (Kd.R_reads' (e := 3) (base := w.heap.size) (ok := fun k_ => some k_ ≠ (.slice Ao14 t438.length co14 : Value).ownBlock) (n := t435.length) (c := co13) ?_).2.2; exact (by refine kR_ ?_; exact (fR3_ HO437.out BK444.out))); (case side2 => exact (Kd.R_reads' HO437.out).2.1); (case side3 => refine (Kd.R_reads' (e := 3) (base := w.heap.size) (ok := fun k_ => some k_ ≠ (.slice Ao13 t435.length co13 : Value).ownBlock) (n := t438.length) (c := co14) ?_).2.2; exact (by refine kR_ ?_; exact (fR3_ HO440.out BK444.out))); (case side4 => exact (Kd.R_reads' HO440.out).2.1); (case side5 => refine (Kd.S_reads' (e := 34) (base := w.heap.size) (ok := fun k_ => True) (n := t441.length) (c := co15) ?_).2.2; exact (by refine kS_ ?_; exact (fS3_ HO443.out BK444.out))); (case side6 => exact (Kd.S_reads' HO443.out).2.1); rintro e w16 ⟨v446, rfl, ho0, hb⟩; refine ⟨_, rfl, ?_⟩; have z_ := t6_ (rB_ (by refine kR_ ?_; exact (fR3_ HO437.out BK444.out)) hb) (rB_ (by refine kR_ ?_; exact (fR3_ HO440.out BK444.out)) hb) (Kd.S_elder' (by refine kS_ ?_; exact (fS3_ HO443.out BK444.out)) (Kd.S_base ho0) hb) (Kd.S_lower (Kd.S_new' ho0 (Kd.S_lt (by refine kS_ ?_; exact (fS3_ HO443.out BK444.out)))) (below_size (bw1_ HB.out GE444.out))) (bB_ (g := gb444) (o := .cells #[.string t434, .slice Ao13 t435.length co13, .slice Ao14 t438.length co14] 25 (0, 0)) (by refine bk_ ?_; refine blk_put (cs := #[.string t434, .slice Ao13 t435.length co13, .slice none 0 0]) ?_ 2 _ rfl; refine bk_ ?_; refine blk_put (cs := #[.string t434, .slice none 0 0, .slice none 0 0]) ?_ 1 _ rfl; refine bk_ ?_; refine blk_put (cs := #[.string (⟨#[]⟩ : ByteArray), .slice none 0 0, .slice none 0 0]) ?_ 0 _ rfl; refine bk_ ?_; exact BK444.out) hb) (bS_ (bw1_ HB.out GE444.out) hb); (try clear BK444 HO443 HO440 HO437); clear HB; obtain ⟨HO437, HO440, HO443, HO447, BK444, HB⟩ := z_; (try clear ho0 hb); have hcz17_0 := cz_ BK444.out 0 (.string t434); have hcz17_1 := cz_ BK444.out 1 (.slice Ao13 t435.length co13); have hcz17_2 := cz_ BK444.out 2 (.slice Ao14 t438.length co14); have hfz17_0 := fz_ BK444.out 0; have hfz17_1 := fz_ BK444.out 1; have hfz17_2 := fz_ BK444.out 2) | ((with_reducible refine gate_callee (f := 22) rfl ?_); refine gl_ (some 31) Try.func22 #[.agg #[.string t434, .slice Ao13 t435.length co13, .slice Ao14 t438.length co14], .slice Ao15 t441.length co15] ?_; (with_reducible refine (spec_MagazineOk.calls k t434 _ _ t435 _ _ t438 _ _ t441 true _ ?side1 ?side2 ?side3 ?side4 ?side5 ?side6 A5.out).mono ?_); (case side1 => exact kD_ (Kd.R_reads' HO437.out).2.2); (case side2 => exact (Kd.R_reads' HO437.out).2.1); (case side3 => exact kD_ (Kd.R_reads' HO440.out).2.2); (case side4 => exact (Kd.R_reads' HO440.out).2.1); (case side5 => exact kD_ (Kd.S_reads' HO443.out).2.2); (case side6 => exact (Kd.S_reads' HO443.out).2.1); rintro e w18 ⟨rfl, hb⟩; refine ⟨_, rfl, ?_⟩; have z_ := t6_ (rB_ (kR_ HO437.out) hb) (rB_ (kR_ HO440.out) hb) (sB_ (kS_ HO443.out) hb) (sB_ (kS_ HO447.out) hb) (bB_ (bk_ BK444.out) hb) (bS_ (bw1_ HB.out GE444.out) hb); (try clear BK444 HO447 HO443 HO440 HO437); clear HB; obtain ⟨HO437, HO440, HO443, HO447, BK444, HB⟩ := z_; (try clear hb); have hcz19_0 := cz_ BK444.out 0 (.string t434); have hcz19_1 := cz_ BK444.out 1 (.slice Ao13 t435.length co13); have hcz19_2 := cz_ BK444.out 2 (.slice Ao14 t438.length co14); have hfz19_0 := fz_ BK444.out 0; have hfz19_1 := fz_ BK444.out 1; have hfz19_2 := fz_ BK444.out 2) | ((with_reducible refine gate_callee (f := 27) rfl ?_); refine gl_ (some 47) Try.func27 #[.agg #[.string t434, .slice Ao13 t435.length co13, .slice Ao14 t438.length co14], .slice Ao15 t441.length co15] ?_; (with_reducible refine (impl_KindCounts.calls k t434 _ _ t435 _ _ t438 _ _ t441 t452 _ ?side1 ?side2 ?side3 ?side4 ?side5 ?side6 A7.out).mono ?_); (case side1 => exact kD_ (Kd.R_reads' HO437.out).2.2); (case side2 => exact (Kd.R_reads' HO437.out).2.1); (case side3 => exact kD_ (Kd.R_reads' HO440.out).2.2); (case side4 => exact (Kd.R_reads' HO440.out).2.1); (case side5 => exact kD_ (Kd.S_reads' HO443.out).2.2); (case side6 => exact (Kd.S_reads' HO443.out).2.1); rintro e w20 ⟨v453, rfl, ho0, hb⟩; refine ⟨_, rfl, ?_⟩; have z_ := t7_ (Kd.R_elder' (kR_ HO437.out) (Kd.R_base ho0) hb) (Kd.R_elder' (kR_ HO440.out) (Kd.R_base ho0) hb) (sB_ (kS_ HO443.out) hb) (sB_ (kS_ HO447.out) hb) (Kd.R_lower (Kd.R_new' (Kd.R_new' ho0 (Kd.R_lt (kR_ HO437.out))) (Kd.R_lt (kR_ HO440.out))) (below_size (bw1_ HB.out GE444.out))) (bB_ (bk_ BK444.out) hb) (bS_ (bw1_ HB.out GE444.out) hb); (try clear BK444 HO447 HO443 HO440 HO437); clear HB; obtain ⟨HO437, HO440, HO443, HO447, HO454, BK444, HB⟩ := z_; (try clear ho0 hb)))
    (try simp only [Act.put, lA_, lB_, lC_])
    go_cut [84] (fun v84 wc => ∃ (kq : Nat) (x84_8 : Bool), v84 = .bool x84_8 ∧ Aside0 (laws_FnSwept.j1 kq t445 t452 x84_8 t434 t435 t438 = some r) ∧ Aside0 (kq ≤ k) ∧ Aside0 (Kd.S (Kd.slice 30 k30) 34 wc w.heap.size (fun _ => True) v446 t445) ∧ Aside0 (Kd.R (Kd.int .i64) 3 wc w.heap.size (fun k_ => some k_ ≠ ((.slice Ao13 t435.length co13) : Value).ownBlock ∧ some k_ ≠ ((.slice Ao14 t438.length co14) : Value).ownBlock) v453 t452) ∧ Aside0 (Kd.R (Kd.int .i64) 3 wc w.heap.size (fun k_ => some k_ ≠ (v453 : Value).ownBlock ∧ some k_ ≠ ((.slice Ao14 t438.length co14) : Value).ownBlock) (.slice Ao13 t435.length co13) t435) ∧ Aside0 (Kd.R (Kd.int .i64) 3 wc w.heap.size (fun k_ => some k_ ≠ (v453 : Value).ownBlock ∧ some k_ ≠ ((.slice Ao13 t435.length co13) : Value).ownBlock) (.slice Ao14 t438.length co14) t438) ∧ Aside0 (wc.heap[gb444]? = some (.cells #[.string t434, (.slice Ao13 t435.length co13), (.slice Ao14 t438.length co14)] 25 (0, 0))) ∧ Aside0 (Below w.heap.size w wc))
    case first =>
     have H := HC9.out
     clear HC9
     replace H := bs_ H
     obtain ⟨t456, A210, H⟩ := H
     (try dsimp only at H)
     have A21 := M_ A210
     clear A210
     by_cases c22 : t456 = true
     ·subst c22
      rw [if_pos rfl] at H
      replace H := bs_ H
      obtain ⟨t457, A230, H⟩ := H
      (try dsimp only at H)
      have A23 := M_ A230
      clear A230
      by_cases c24 : t448 = t457
      ·rw [if_pos c24] at H
       have c24b0 := beq_iff_eq.mpr c24
       have c24b1 := bne_eq_false_iff_eq.mpr c24
       clear c24
       (first | rw [c24b0] | (simp only [i64_w, i32_w]; rw [c24b0]) | skip)
       replace H := bs_ H
       obtain ⟨t458, A250, H⟩ := H
       (try dsimp only at H)
       have A25 := M_ A250
       clear A250
       by_cases c26 : t458 = 0
       ·rw [if_pos c26] at H
        have c26b0 := beq_iff_eq.mpr c26
        have c26b1 := bne_eq_false_iff_eq.mpr c26
        clear c26
        replace H := bs_ H
        obtain ⟨t459, A270, H⟩ := H
        (try dsimp only at H)
        have A27 := M_ A270
        clear A270
        replace H := bs_ H
        obtain ⟨t460, A280, H⟩ := H
        (try dsimp only at H)
        have A28 := M_ A280
        clear A280
        have H' := M_ H
        clear H
        try go_wp2
        have z_ := t7_ (Kd.R_drew HO437.out) (Kd.R_drew HO440.out) (Kd.S_drew HO443.out) (Kd.S_drew HO447.out) (Kd.R_drew HO454.out) (blk_drew BK444.out) (below_drew1 HB.out)
        (try clear HO447 HO443 HO440 HO437)
        clear HO454
        (try clear BK444)
        clear HB
        obtain ⟨HO437, HO440, HO443, HO447, HO454, BK444, HB⟩ := z_
        obtain ⟨Ao30, co30, eo30⟩ := Kd.S_slice HO447.out
        (first | subst eo30 | (injection eo30 with f1_ f2_ f3_; have f4_ := f1_.symm; have f5_ := f3_.symm; clear f1_ f2_ f3_; subst f4_; subst f5_))
        refine start_ (n := 26) (S := fun w' => w'.cell? ⟨gb444, 0, none⟩ = some (.string t434) ∧ w'.cell? ⟨gb444, 1, none⟩ = some (.slice Ao13 t435.length co13) ∧ w'.cell? ⟨gb444, 2, none⟩ = some (.slice Ao14 t438.length co14)) (ds := []) (mk_ 26 0) (by kernel_rfl) rfl rfl ⟨(blk_cell BK444.out 0).trans rfl, (blk_cell BK444.out 1).trans rfl, (blk_cell BK444.out 2).trans rfl⟩ (fun hHeld => ?_); refine with_tabW laws_FnSwept.tab16 laws_FnSwept.bits16 (fun HT_ HW_ => ?_)
        generalize w20.drew = w29 at HO437 HO440 HO443 HO447 HO454 BK444 HB hHeld ⊢
        refine pu_ 1 (some 60) (mk_ 26 2) HT_.out ?_
        refine ta_ 0 (some 59) (mk_ 26 3) HT_.out HW_.out hHeld (hy := by rintro w' ⟨s0, s1, s2⟩; go_simp; with_reducible rfl) (h := ?_)
        refine on_ 2 (some 61) (mk_ 26 7) HT_.out fun K hK => ?_
        refine goes_ Try.func44 (by kernel_rfl) rfl #[.agg #[.string t434, .slice Ao13 t435.length co13, .slice Ao14 t438.length co14], .slice Ao30 t445.length co30] (by rfl) rfl rfl ar_ ?_
        with_reducible refine (impl_MagazineOk.calls k t434 _ _ t435 _ _ t438 _ _ t445 true _ ?side1 ?side2 ?side3 ?side4 ?side5 ?side6 A21.out).mono ?_
        (case side1 => exact kD_ (Kd.R_reads' HO437.out).2.2)
        (case side2 => exact (Kd.R_reads' HO437.out).2.1)
        (case side3 => exact kD_ (Kd.R_reads' HO440.out).2.2)
        (case side4 => exact (Kd.R_reads' HO440.out).2.1)
        (case side5 => exact kD_ (Kd.S_reads' HO447.out).2.2)
        (case side6 => exact (Kd.S_reads' HO447.out).2.1)
        rintro e w31 ⟨rfl, hb⟩
        refine ⟨_, rfl, ?_⟩
        have z_ := t7_ (rB_ (kR_ HO437.out) hb) (rB_ (kR_ HO440.out) hb) (sB_ (kS_ HO443.out) hb) (sB_ (kS_ HO447.out) hb) (rB_ (kR_ HO454.out) hb) (bB_ (bk_ BK444.out) hb) (bS_ (bw1_ HB.out GE444.out) hb)
        (try clear HO447 HO443 HO440 HO437)
        clear HO454
        (try clear BK444)
        clear HB
        obtain ⟨HO437, HO440, HO443, HO447, HO454, BK444, HB⟩ := z_
        (try clear hb)
        refine hK.out _ _ ⟨(blk_cell BK444.out 0).trans rfl, (blk_cell BK444.out 1).trans rfl, (blk_cell BK444.out 2).trans rfl⟩ (fun hHeld => ?_)
        clear hK K
        refine norm_ (a' := ?_) ?_ ?_
        rotate_left
        ·show Act.put _ (some 61) _ = _
         simp only [Act.put, lA_, lB_, lC_, i64_w, i32_w]
         rfl
        refine pu_ 3 (some 62) (mk_ 26 15) HT_.out ?_
        refine pu_ 4 (some 63) (mk_ 26 31) HT_.out ?_
        refine pu_ 5 (some 64) (mk_ 26 63) HT_.out ?_
        refine pu_ 7 (some 66) (mk_ 26 191) HT_.out ?_
        refine ta_ 6 (some 65) (mk_ 26 255) HT_.out HW_.out hHeld (hy := by rintro w' ⟨s0, s1, s2⟩; go_simp; with_reducible rfl) (h := ?_)
        refine on_ 8 (some 67) (mk_ 26 511) HT_.out fun K hK => ?_
        refine goes_ Try.func47 (by kernel_rfl) rfl #[.agg #[.string t434, .slice Ao13 t435.length co13, .slice Ao14 t438.length co14], .slice Ao15 t441.length co15] (by rfl) rfl rfl ar_ ?_
        with_reducible refine (impl_CountStrays.calls k t434 _ _ t435 _ _ t438 _ _ t441 t457 _ ?side1 ?side2 ?side3 ?side4 ?side5 ?side6 A23.out).mono ?_
        (case side1 => exact kD_ (Kd.R_reads' HO437.out).2.2)
        (case side2 => exact (Kd.R_reads' HO437.out).2.1)
        (case side3 => exact kD_ (Kd.R_reads' HO440.out).2.2)
        (case side4 => exact (Kd.R_reads' HO440.out).2.1)
        (case side5 => exact kD_ (Kd.S_reads' HO443.out).2.2)
        (case side6 => exact (Kd.S_reads' HO443.out).2.1)
        rintro e w32 ⟨rfl, hb⟩
        refine ⟨_, rfl, ?_⟩
        have z_ := t7_ (rB_ (kR_ HO437.out) hb) (rB_ (kR_ HO440.out) hb) (sB_ (kS_ HO443.out) hb) (sB_ (kS_ HO447.out) hb) (rB_ (kR_ HO454.out) hb) (bB_ (bk_ BK444.out) hb) (bS_ (bw1_ HB.out GE444.out) hb)
        (try clear HO447 HO443 HO440 HO437)
        clear HO454
        (try clear BK444)
        clear HB
        obtain ⟨HO437, HO440, HO443, HO447, HO454, BK444, HB⟩ := z_
        (try clear hb)
        refine hK.out _ _ ⟨(blk_cell BK444.out 0).trans rfl, (blk_cell BK444.out 1).trans rfl, (blk_cell BK444.out 2).trans rfl⟩ (fun hHeld => ?_)
        clear hK K
        refine norm_ (a' := ?_) ?_ ?_
        rotate_left
        ·show Act.put _ (some 67) _ = _
         simp only [Act.put, lA_, lB_, lC_, i64_w, i32_w]
         rfl
        refine pu_ 9 (some 68) (mk_ 26 1023) HT_.out ?_
        refine pu_ 10 (some 69) (mk_ 26 2047) HT_.out ?_
        refine pu_ 11 (some 70) (mk_ 26 4095) HT_.out ?_
        refine pu_ 13 (some 72) (mk_ 26 12287) HT_.out ?_
        refine ta_ 12 (some 71) (mk_ 26 16383) HT_.out HW_.out hHeld (hy := by rintro w' ⟨s0, s1, s2⟩; go_simp; with_reducible rfl) (h := ?_)
        refine on_ 14 (some 73) (mk_ 26 32767) HT_.out fun K hK => ?_
        refine goes_ Try.func47 (by kernel_rfl) rfl #[.agg #[.string t434, .slice Ao13 t435.length co13, .slice Ao14 t438.length co14], .slice Ao30 t445.length co30] (by rfl) rfl rfl ar_ ?_
        with_reducible refine (impl_CountStrays.calls k t434 _ _ t435 _ _ t438 _ _ t445 t458 _ ?side1 ?side2 ?side3 ?side4 ?side5 ?side6 A25.out).mono ?_
        (case side1 => exact kD_ (Kd.R_reads' HO437.out).2.2)
        (case side2 => exact (Kd.R_reads' HO437.out).2.1)
        (case side3 => exact kD_ (Kd.R_reads' HO440.out).2.2)
        (case side4 => exact (Kd.R_reads' HO440.out).2.1)
        (case side5 => exact kD_ (Kd.S_reads' HO447.out).2.2)
        (case side6 => exact (Kd.S_reads' HO447.out).2.1)
        rintro e w33 ⟨rfl, hb⟩
        refine ⟨_, rfl, ?_⟩
        have z_ := t7_ (rB_ (kR_ HO437.out) hb) (rB_ (kR_ HO440.out) hb) (sB_ (kS_ HO443.out) hb) (sB_ (kS_ HO447.out) hb) (rB_ (kR_ HO454.out) hb) (bB_ (bk_ BK444.out) hb) (bS_ (bw1_ HB.out GE444.out) hb)
        (try clear HO447 HO443 HO440 HO437)
        clear HO454
        (try clear BK444)
        clear HB
        obtain ⟨HO437, HO440, HO443, HO447, HO454, BK444, HB⟩ := z_
        (try clear hb)
        refine hK.out _ _ ⟨(blk_cell BK444.out 0).trans rfl, (blk_cell BK444.out 1).trans rfl, (blk_cell BK444.out 2).trans rfl⟩ (fun hHeld => ?_)
        clear hK K
        refine norm_ (a' := ?_) ?_ ?_
        rotate_left
        ·show Act.put _ (some 73) _ = _
         simp only [Act.put, lA_, lB_, lC_, i64_w, i32_w]
         rfl
        refine pu_ 15 (some 74) (mk_ 26 65535) HT_.out ?_
        refine pu_ 16 (some 75) (mk_ 26 131071) HT_.out ?_
        refine pu_ 17 (some 76) (mk_ 26 262143) HT_.out ?_
        refine pu_ 19 (some 78) (mk_ 26 786431) HT_.out ?_
        refine pu_ 22 (some 81) (mk_ 26 4980735) HT_.out ?_
        refine ta_ 18 (some 77) (mk_ 26 5242879) HT_.out HW_.out hHeld (hy := by rintro w' ⟨s0, s1, s2⟩; go_simp; with_reducible rfl) (h := ?_)
        refine ta_ 21 (some 80) (mk_ 26 7340031) HT_.out HW_.out hHeld (hy := by rintro w' ⟨s0, s1, s2⟩; go_simp; with_reducible rfl) (h := ?_)
        refine on_ 20 (some 79) (mk_ 26 8388607) HT_.out fun K hK => ?_
        refine goes_ Try.func49 (by kernel_rfl) rfl #[.agg #[.string t434, .slice Ao13 t435.length co13, .slice Ao14 t438.length co14], .slice Ao30 t445.length co30] (by rfl) rfl rfl ar_ ?_
        with_reducible refine (impl_CountWorn.calls k t434 _ _ t435 _ _ t438 _ _ t445 t459 _ ?side1 ?side2 ?side3 ?side4 ?side5 ?side6 A27.out).mono ?_
        (case side1 => exact kD_ (Kd.R_reads' HO437.out).2.2)
        (case side2 => exact (Kd.R_reads' HO437.out).2.1)
        (case side3 => exact kD_ (Kd.R_reads' HO440.out).2.2)
        (case side4 => exact (Kd.R_reads' HO440.out).2.1)
        (case side5 => exact kD_ (Kd.S_reads' HO447.out).2.2)
        (case side6 => exact (Kd.S_reads' HO447.out).2.1)
        rintro e w34 ⟨rfl, hb⟩
        refine ⟨_, rfl, ?_⟩
        have z_ := t7_ (rB_ (kR_ HO437.out) hb) (rB_ (kR_ HO440.out) hb) (sB_ (kS_ HO443.out) hb) (sB_ (kS_ HO447.out) hb) (rB_ (kR_ HO454.out) hb) (bB_ (bk_ BK444.out) hb) (bS_ (bw1_ HB.out GE444.out) hb)
        (try clear HO447 HO443 HO440 HO437)
        clear HO454
        (try clear BK444)
        clear HB
        obtain ⟨HO437, HO440, HO443, HO447, HO454, BK444, HB⟩ := z_
        (try clear hb)
        refine hK.out _ _ ⟨(blk_cell BK444.out 0).trans rfl, (blk_cell BK444.out 1).trans rfl, (blk_cell BK444.out 2).trans rfl⟩ (fun hHeld => ?_)
        clear hK K
        refine norm_ (a' := ?_) ?_ ?_
        rotate_left
        ·show Act.put _ (some 79) _ = _
         simp only [Act.put, lA_, lB_, lC_, i64_w, i32_w]
         rfl
        refine on_ 23 (some 82) (mk_ 26 16777215) HT_.out fun K hK => ?_
        refine goes_ Try.func49 (by kernel_rfl) rfl #[.agg #[.string t434, .slice Ao13 t435.length co13, .slice Ao14 t438.length co14], .slice Ao15 t441.length co15] (by rfl) rfl rfl ar_ ?_
        with_reducible refine (impl_CountWorn.calls k t434 _ _ t435 _ _ t438 _ _ t441 t460 _ ?side1 ?side2 ?side3 ?side4 ?side5 ?side6 A28.out).mono ?_
        (case side1 => exact kD_ (Kd.R_reads' HO437.out).2.2)
        (case side2 => exact (Kd.R_reads' HO437.out).2.1)
        (case side3 => exact kD_ (Kd.R_reads' HO440.out).2.2)
        (case side4 => exact (Kd.R_reads' HO440.out).2.1)
        (case side5 => exact kD_ (Kd.S_reads' HO443.out).2.2)
        (case side6 => exact (Kd.S_reads' HO443.out).2.1)
        rintro e w35 ⟨rfl, hb⟩
        refine ⟨_, rfl, ?_⟩
        have z_ := t7_ (rB_ (kR_ HO437.out) hb) (rB_ (kR_ HO440.out) hb) (sB_ (kS_ HO443.out) hb) (sB_ (kS_ HO447.out) hb) (rB_ (kR_ HO454.out) hb) (bB_ (bk_ BK444.out) hb) (bS_ (bw1_ HB.out GE444.out) hb)
        (try clear HO447 HO443 HO440 HO437)
        clear HO454
        (try clear BK444)
        clear HB
        obtain ⟨HO437, HO440, HO443, HO447, HO454, BK444, HB⟩ := z_
        (try clear hb)
        refine hK.out _ _ ⟨(blk_cell BK444.out 0).trans rfl, (blk_cell BK444.out 1).trans rfl, (blk_cell BK444.out 2).trans rfl⟩ (fun hHeld => ?_)
        clear hK K
        refine norm_ (a' := ?_) ?_ ?_
        rotate_left
        ·show Act.put _ (some 82) _ = _
         simp only [Act.put, lA_, lB_, lC_, i64_w, i32_w]
         rfl
        refine pu_ 24 (some 83) (mk_ 26 33554431) HT_.out ?_
        refine pu_ 25 (some 84) (mk_ 26 67108863) HT_.out ?_
        refine done_ (done_of HT_.out (by kernel_rfl)) ?_
        try go_wp2
        go_meet
        case rel => exact ⟨_, ((t459 != t460)), (by first | rfl | (simp; done) | (simp [*]; done)), H', ⟨by first | omega | exact Nat.le_refl _⟩, ⟨by refine kS_ ?_; exact Kd.S_mono HO447.out (fun _ hk => trivial)⟩, ⟨by refine kR_ ?_; exact Kd.R_mono HO454.out (fun _ hk => ⟨hk.1.2, hk.2⟩)⟩, ⟨by refine kR_ ?_; exact Kd.R_mono HO437.out (fun _ hk => ⟨hk.2, hk.1⟩)⟩, ⟨by refine kR_ ?_; exact Kd.R_mono HO440.out (fun _ hk => ⟨hk.2, hk.1⟩)⟩, ⟨by refine bk_ ?_; exact BK444.out⟩, ⟨bw1_ HB.out GE444.out⟩⟩
       ·rw [if_neg c26] at H
        exact absurd H (by simp)
      ·rw [if_neg c24] at H
       exact absurd H (by simp)
     ·replace c22 := Bool.eq_false_iff.mpr c22
      subst c22
      rw [if_neg (show ¬ (false = true) by decide)] at H
      exact absurd H (by simp)
    case rest =>
     clear HC9
     (try clear hfz19_2 hfz19_1 hfz19_0 hfz17_2 hfz17_1 hfz17_0 hfz12_2 hfz12_1 hfz12_0 hcz19_2 hcz19_1 hcz19_0 hcz17_2 hcz17_1 hcz17_0 hcz12_2 hcz12_1 hcz12_0 c27 c26b1 c26b0 c26 c24b1 c24b0 c24 c22 c19 c8 p6 c6 c4 p2 c2b1 c2b0 c2 c1)
     obtain ⟨kq, x84_8, rfl, HA, HJ8, HO_5, HO_8, HO_445001, HO_445002, BK444, HB⟩ := hcut
     cases kq with
     | zero => exact absurd HA.out (by simp [laws_FnSwept.j1])
     | succ kj8 =>
      have H := HA.out
      clear HA
      simp only [laws_FnSwept.j1] at H
      by_cases c36 : x84_8 = true
      ·subst c36
       rw [if_pos rfl] at H
       exact absurd H (by simp)
      ·replace c36 := Bool.eq_false_iff.mpr c36
       subst c36
       rw [if_neg (show ¬ (false = true) by decide)] at H
       replace H := bs_ H
       obtain ⟨⟨t461, t464, t465⟩, A370, H⟩ := H
       dsimp only at H
       have A37 := M_ A370
       clear A370
       replace H := bs_ H
       obtain ⟨t466, A380, H⟩ := H
       (try dsimp only at H)
       have A38 := M_ A380
       clear A380
       replace H := bs_ H
       obtain ⟨t469, A390, H⟩ := H
       (try dsimp only at H)
       have A39 := M_ A390
       clear A390
       by_cases c40 : t469 = true
       ·subst c40
        rw [if_pos rfl] at H
        by_cases c41 : t465 = true
        ·subst c41
         rw [if_pos rfl] at H
         by_cases c42 : t464 = 0
         ·rw [if_pos c42] at H
          have c42b0 := beq_iff_eq.mpr c42
          have c42b1 := bne_eq_false_iff_eq.mpr c42
          clear c42
          replace H := bs_ H
          obtain ⟨t470, A430, H⟩ := H
          (try dsimp only at H)
          have A43 := M_ A430
          clear A430
          obtain rfl := Option.some.inj H
          have hcz44_0 : wc.cell? ⟨gb444, 0, none⟩ = some (.string t434) := (blk_cell BK444.out 0).trans rfl
          have hcz44_1 : wc.cell? ⟨gb444, 1, none⟩ = some (.slice Ao13 t435.length co13) := (blk_cell BK444.out 1).trans rfl
          have hcz44_2 : wc.cell? ⟨gb444, 2, none⟩ = some (.slice Ao14 t438.length co14) := (blk_cell BK444.out 2).trans rfl
          have hfz44_0 := fz_ BK444.out 0
          have hfz44_1 := fz_ BK444.out 1
          have hfz44_2 := fz_ BK444.out 2
          obtain ⟨Ao45, co45, eo45⟩ := Kd.S_slice HO_5.out
          subst eo45
          go_wp2_with (first | ((with_reducible refine gate_callee (f := 66) rfl ?_); refine gl_ (some 88) Try.func66 #[.agg #[.string t434, .slice Ao13 t435.length co13, .slice Ao14 t438.length co14], .slice Ao45 t445.length co45] ?_; (with_reducible refine (impl_SweepMagazine.calls kj8 t434 _ _ t435 _ _ t438 _ _ t445 t461 t464 true _ ?side1 ?side2 ?side3 ?side4 ?side5 ?side6 A37.out).mono ?_); (case side1 => exact kD_ (Kd.R_reads' HO_445001.out).2.2); (case side2 => exact (Kd.R_reads' HO_445001.out).2.1); (case side3 => exact kD_ (Kd.R_reads' HO_445002.out).2.2); (case side4 => exact (Kd.R_reads' HO_445002.out).2.1); (case side5 => exact kD_ (Kd.S_reads' HO_5.out).2.2); (case side6 => exact (Kd.S_reads' HO_5.out).2.1); rintro e w46 ⟨v462, rfl, ho0, hb⟩; refine ⟨_, rfl, ?_⟩; have z_ := t7_ (Kd.S_elder' (kS_ HO_5.out) (Kd.S_base ho0) hb) (rB_ (kR_ HO_8.out) hb) (rB_ (kR_ HO_445001.out) hb) (rB_ (kR_ HO_445002.out) hb) (Kd.S_lower (Kd.S_new' ho0 (Kd.S_lt (kS_ HO_5.out))) (below_size (bw1_ HB.out GE444.out))) (bB_ (bk_ BK444.out) hb) (bS_ (bw1_ HB.out GE444.out) hb); clear HO_445002 HO_445001 HO_8 HO_5; (try clear BK444); clear HB; obtain ⟨HO_5, HO_8, HO_445001, HO_445002, HO463, BK444, HB⟩ := z_; (try clear ho0 hb); have hcz47_0 := cz_ BK444.out 0 (.string t434); have hcz47_1 := cz_ BK444.out 1 (.slice Ao13 t435.length co13); have hcz47_2 := cz_ BK444.out 2 (.slice Ao14 t438.length co14); have hfz47_0 := fz_ BK444.out 0; have hfz47_1 := fz_ BK444.out 1; have hfz47_2 := fz_ BK444.out 2) | ((with_reducible refine gate_callee (f := 27) rfl ?_); refine gl_ (some 94) Try.func27 #[.agg #[.string t434, .slice Ao13 t435.length co13, .slice Ao14 t438.length co14], .slice Ao45 t445.length co45] ?_; (with_reducible refine (impl_KindCounts.calls kj8 t434 _ _ t435 _ _ t438 _ _ t445 t466 _ ?side1 ?side2 ?side3 ?side4 ?side5 ?side6 A38.out).mono ?_); (case side1 => exact kD_ (Kd.R_reads' HO_445001.out).2.2); (case side2 => exact (Kd.R_reads' HO_445001.out).2.1); (case side3 => exact kD_ (Kd.R_reads' HO_445002.out).2.2); (case side4 => exact (Kd.R_reads' HO_445002.out).2.1); (case side5 => exact kD_ (Kd.S_reads' HO_5.out).2.2); (case side6 => exact (Kd.S_reads' HO_5.out).2.1); rintro e w48 ⟨v467, rfl, ho0, hb⟩; refine ⟨_, rfl, ?_⟩; have z_ := t8_ (sB_ (kS_ HO_5.out) hb) (Kd.R_elder' (kR_ HO_8.out) (Kd.R_base ho0) hb) (Kd.R_elder' (kR_ HO_445001.out) (Kd.R_base ho0) hb) (Kd.R_elder' (kR_ HO_445002.out) (Kd.R_base ho0) hb) (sB_ (kS_ HO463.out) hb) (Kd.R_lower (Kd.R_new' (Kd.R_new' (Kd.R_new' ho0 (Kd.R_lt (kR_ HO_8.out))) (Kd.R_lt (kR_ HO_445001.out))) (Kd.R_lt (kR_ HO_445002.out))) (below_size (bw1_ HB.out GE444.out))) (bB_ (bk_ BK444.out) hb) (bS_ (bw1_ HB.out GE444.out) hb); clear HO463 HO_445002 HO_445001 HO_8 HO_5; (try clear BK444); clear HB; obtain ⟨HO_5, HO_8, HO_445001, HO_445002, HO463, HO468, BK444, HB⟩ := z_; (try clear ho0 hb); obtain ⟨Ao49, co49, eo49⟩ := Kd.R_slice HO468.out; subst eo49; obtain ⟨Ao50, co50, eo50⟩ := Kd.R_slice HO_8.out; subst eo50) | ((with_reducible refine gate_callee (f := 26) rfl ?_); refine gl_ (some 96) Try.func26 #[.slice Ao49 t466.length co49, .slice Ao50 t452.length co50] ?_; (with_reducible refine (laws_ints.calls kj8 _ _ t466 _ _ t452 true _ ?side1 ?side2 ?side3 ?side4 A39.out).mono ?_); (case side1 => exact kD_ (Kd.R_reads' HO468.out).2.2); (case side2 => exact (Kd.R_reads' HO468.out).2.1); (case side3 => exact kD_ (Kd.R_reads' HO_8.out).2.2); (case side4 => exact (Kd.R_reads' HO_8.out).2.1); rintro e w' ⟨rfl, ⟨nd, rfl⟩⟩; refine ⟨_, rfl, ?_⟩; obtain ⟨Ao51, co51, eo51⟩ := Kd.S_slice HO463.out; subst eo51) | (go_at_call 70; (with_reducible refine (laws_stocks.calls kj8 _ _ t461 _ _ t445 t470 _ ?side1 ?side2 ?side3 ?side4 A43.out).mono ?_); (case side1 => exact kD_ (Kd.S_reads' HO463.out).2.2); (case side2 => exact (Kd.S_reads' HO463.out).2.1); (case side3 => exact kD_ (Kd.S_reads' HO_5.out).2.2); (case side4 => exact (Kd.S_reads' HO_5.out).2.1); rintro e w' ⟨rfl, ⟨nd, rfl⟩⟩))
          go_ret
          exact ⟨rb_, bw1_ HB.out GE444.out⟩
         ·rw [if_neg c42] at H
          exact absurd H (by simp)
        ·replace c41 := Bool.eq_false_iff.mpr c41
         subst c41
         rw [if_neg (show ¬ (false = true) by decide)] at H
         exact absurd H (by simp)
       ·replace c40 := Bool.eq_false_iff.mpr c40
        subst c40
        rw [if_neg (show ¬ (false = true) by decide)] at H
        exact absurd H (by simp)
   ·replace c8 := Bool.eq_false_iff.mpr c8
    subst c8
    rw [if_neg (show ¬ (false = true) by decide)] at H
    have H' := M_ H
    clear H
    go_enter Try.func19, Try.ntmps19
    go_wp2_with (first | ((with_reducible refine gate_callee (f := 69) rfl ?_); refine gl_ (some 19) Try.func69 #[.slice A0 l0.length c0] ?_; (with_reducible refine (spec_DrawSweepMagazine.calls k _ _ l0 t434 t435 t438 t441 _ ?side1 ?side2 A3.out).mono ?_); (case side1 => exact kD_ HR0.out); (case side2 => exact HC0.out); rintro e w52 ⟨v436, v439, v442, rfl, ho0, ho1, ho2, hb⟩; refine ⟨_, rfl, ?_⟩; have z_ := t4_ (Kd.R_lower ho0 (below_size (bw0_ HB.out))) (Kd.R_lower ho1 (below_size (bw0_ HB.out))) (Kd.S_lower ho2 (below_size (bw0_ HB.out))) (bS_ (bw0_ HB.out) hb); clear HB; obtain ⟨HO437, HO440, HO443, HB⟩ := z_; (try clear ho2 ho1 ho0 hb)) | ((with_reducible refine gate_dst (N := 3) rfl ?_); refine be_ 3 #[.string (⟨#[]⟩ : ByteArray), .slice none 0 0, .slice none 0 0] 25 ?_; intro gb444 hg w53 hbox hb; have z_ := t6_ (rB_ (kR_ HO437.out) hb) (rB_ (kR_ HO440.out) hb) (sB_ (kS_ HO443.out) hb) (bS_ (bw0_ HB.out) hb) hbox (gv_ hg (bw0_ HB.out) : w.heap.size ≤ gb444); (try clear HO443 HO440 HO437); clear HB; obtain ⟨HO437, HO440, HO443, HB, BK444, GE444⟩ := z_; clear hb hbox hg; have hcz54_0 := cz_ BK444.out 0 (.string (⟨#[]⟩ : ByteArray)); have hcz54_1 := cz_ BK444.out 1 (.slice none 0 0); have hcz54_2 := cz_ BK444.out 2 (.slice none 0 0); have hfz54_0 := fz_ BK444.out 0; have hfz54_1 := fz_ BK444.out 1; have hfz54_2 := fz_ BK444.out 2; obtain ⟨Ao55, co55, eo55⟩ := Kd.R_slice HO437.out; subst eo55; obtain ⟨Ao56, co56, eo56⟩ := Kd.R_slice HO440.out; subst eo56; obtain ⟨Ao57, co57, eo57⟩ := Kd.S_slice HO443.out; subst eo57) | ((with_reducible refine gate_callee (f := 66) rfl ?_); refine gl_ (some 25) Try.func66 #[.agg #[.string t434, .slice Ao55 t435.length co55, .slice Ao56 t438.length co56], .slice Ao57 t441.length co57] ?_; (with_reducible refine (impl_SweepMagazine.calls k t434 _ _ t435 _ _ t438 _ _ t441 t445 t448 false _ ?side1 ?side2 ?side3 ?side4 ?side5 ?side6 A4.out).mono ?_); (case side1 => refine (Kd.R_reads' (e := 3) (base := w.heap.size) (ok := fun k_ => some k_ ≠ (.slice Ao56 t438.length co56 : Value).ownBlock) (n := t435.length) (c := co55) ?_).2.2; exact (by refine kR_ ?_; exact (fR3_ HO437.out BK444.out))); (case side2 => exact (Kd.R_reads' HO437.out).2.1); (case side3 => refine (Kd.R_reads' (e := 3) (base := w.heap.size) (ok := fun k_ => some k_ ≠ (.slice Ao55 t435.length co55 : Value).ownBlock) (n := t438.length) (c := co56) ?_).2.2; exact (by refine kR_ ?_; exact (fR3_ HO440.out BK444.out))); (case side4 => exact (Kd.R_reads' HO440.out).2.1); (case side5 => refine (Kd.S_reads' (e := 34) (base := w.heap.size) (ok := fun k_ => True) (n := t441.length) (c := co57) ?_).2.2; exact (by refine kS_ ?_; exact (fS3_ HO443.out BK444.out))); (case side6 => exact (Kd.S_reads' HO443.out).2.1); rintro e w58 ⟨v446, rfl, ho0, hb⟩; refine ⟨_, rfl, ?_⟩; have z_ := t5_ (rB_ (by refine kR_ ?_; exact (fR3_ HO437.out BK444.out)) hb) (rB_ (by refine kR_ ?_; exact (fR3_ HO440.out BK444.out)) hb) (Kd.S_elder' (by refine kS_ ?_; exact (fS3_ HO443.out BK444.out)) (Kd.S_base ho0) hb) (bB_ (g := gb444) (o := .cells #[.string t434, .slice Ao55 t435.length co55, .slice Ao56 t438.length co56] 25 (0, 0)) (by refine bk_ ?_; refine blk_put (cs := #[.string t434, .slice Ao55 t435.length co55, .slice none 0 0]) ?_ 2 _ rfl; refine bk_ ?_; refine blk_put (cs := #[.string t434, .slice none 0 0, .slice none 0 0]) ?_ 1 _ rfl; refine bk_ ?_; refine blk_put (cs := #[.string (⟨#[]⟩ : ByteArray), .slice none 0 0, .slice none 0 0]) ?_ 0 _ rfl; refine bk_ ?_; exact BK444.out) hb) (bS_ (bw1_ HB.out GE444.out) hb); (try clear BK444 HO443 HO440 HO437); clear HB; obtain ⟨HO437, HO440, HO443, BK444, HB⟩ := z_; (try clear ho0 hb); have hcz59_0 := cz_ BK444.out 0 (.string t434); have hcz59_1 := cz_ BK444.out 1 (.slice Ao55 t435.length co55); have hcz59_2 := cz_ BK444.out 2 (.slice Ao56 t438.length co56); have hfz59_0 := fz_ BK444.out 0; have hfz59_1 := fz_ BK444.out 1; have hfz59_2 := fz_ BK444.out 2) | ((with_reducible refine gate_callee (f := 22) rfl ?_); refine gl_ (some 31) Try.func22 #[.agg #[.string t434, .slice Ao55 t435.length co55, .slice Ao56 t438.length co56], .slice Ao57 t441.length co57] ?_; (with_reducible refine (spec_MagazineOk.calls k t434 _ _ t435 _ _ t438 _ _ t441 true _ ?side1 ?side2 ?side3 ?side4 ?side5 ?side6 A5.out).mono ?_); (case side1 => exact kD_ (Kd.R_reads' HO437.out).2.2); (case side2 => exact (Kd.R_reads' HO437.out).2.1); (case side3 => exact kD_ (Kd.R_reads' HO440.out).2.2); (case side4 => exact (Kd.R_reads' HO440.out).2.1); (case side5 => exact kD_ (Kd.S_reads' HO443.out).2.2); (case side6 => exact (Kd.S_reads' HO443.out).2.1); rintro e w60 ⟨rfl, hb⟩; refine ⟨_, rfl, ?_⟩; have z_ := t5_ (rB_ (kR_ HO437.out) hb) (rB_ (kR_ HO440.out) hb) (sB_ (kS_ HO443.out) hb) (bB_ (bk_ BK444.out) hb) (bS_ (bw1_ HB.out GE444.out) hb); (try clear BK444 HO447 HO443 HO440 HO437); clear HB; obtain ⟨HO437, HO440, HO443, BK444, HB⟩ := z_; (try clear hb); have hcz61_0 := cz_ BK444.out 0 (.string t434); have hcz61_1 := cz_ BK444.out 1 (.slice Ao55 t435.length co55); have hcz61_2 := cz_ BK444.out 2 (.slice Ao56 t438.length co56); have hfz61_0 := fz_ BK444.out 0; have hfz61_1 := fz_ BK444.out 1; have hfz61_2 := fz_ BK444.out 2) | ((with_reducible refine gate_callee (f := 27) rfl ?_); refine gl_ (some 47) Try.func27 #[.agg #[.string t434, .slice Ao55 t435.length co55, .slice Ao56 t438.length co56], .slice Ao57 t441.length co57] ?_; (with_reducible refine (impl_KindCounts.calls k t434 _ _ t435 _ _ t438 _ _ t441 t452 _ ?side1 ?side2 ?side3 ?side4 ?side5 ?side6 A7.out).mono ?_); (case side1 => exact kD_ (Kd.R_reads' HO437.out).2.2); (case side2 => exact (Kd.R_reads' HO437.out).2.1); (case side3 => exact kD_ (Kd.R_reads' HO440.out).2.2); (case side4 => exact (Kd.R_reads' HO440.out).2.1); (case side5 => exact kD_ (Kd.S_reads' HO443.out).2.2); (case side6 => exact (Kd.S_reads' HO443.out).2.1); rintro e w62 ⟨v453, rfl, ho0, hb⟩; refine ⟨_, rfl, ?_⟩; have z_ := t6_ (Kd.R_elder' (kR_ HO437.out) (Kd.R_base ho0) hb) (Kd.R_elder' (kR_ HO440.out) (Kd.R_base ho0) hb) (sB_ (kS_ HO443.out) hb) (Kd.R_lower (Kd.R_new' (Kd.R_new' ho0 (Kd.R_lt (kR_ HO437.out))) (Kd.R_lt (kR_ HO440.out))) (below_size (bw1_ HB.out GE444.out))) (bB_ (bk_ BK444.out) hb) (bS_ (bw1_ HB.out GE444.out) hb); (try clear BK444 HO447 HO443 HO440 HO437); clear HB; obtain ⟨HO437, HO440, HO443, HO454, BK444, HB⟩ := z_; (try clear ho0 hb); obtain ⟨Ao63, co63, eo63⟩ := Kd.R_slice HO454.out; subst eo63))
    go_loopg [52] k (fun kq v52 w' => ∃ (x52_1 : Int), v52 = .int .i64 x52_1 ∧ Aside0 (laws_FnSwept.l0 kq t452 (t452.length : Int) x52_1 = some r) ∧ Aside0 (kq ≤ k) ∧ Aside0 (Kd.R (Kd.int .i64) 3 w' w.heap.size (fun k_ => some k_ ≠ ((.slice Ao55 t435.length co55) : Value).ownBlock ∧ some k_ ≠ ((.slice Ao56 t438.length co56) : Value).ownBlock) (.slice Ao63 t452.length co63) t452) ∧ Aside0 (Kd.R (Kd.int .i64) 3 w' w.heap.size (fun k_ => some k_ ≠ ((.slice Ao63 t452.length co63) : Value).ownBlock ∧ some k_ ≠ ((.slice Ao56 t438.length co56) : Value).ownBlock) (.slice Ao55 t435.length co55) t435) ∧ Aside0 (Kd.R (Kd.int .i64) 3 w' w.heap.size (fun k_ => some k_ ≠ ((.slice Ao63 t452.length co63) : Value).ownBlock ∧ some k_ ≠ ((.slice Ao55 t435.length co55) : Value).ownBlock) (.slice Ao56 t438.length co56) t438) ∧ Aside0 (w'.heap[gb444]? = some (.cells #[.string t434, (.slice Ao55 t435.length co55), (.slice Ao56 t438.length co56)] 25 (0, 0))) ∧ Aside0 (Below w.heap.size w w'))
    case atStart => exact ⟨(0), (by first | rfl | (simp; done) | (simp [*]; done)), H', ⟨Nat.le_refl _⟩, ⟨by refine kR_ ?_; exact Kd.R_mono HO454.out (fun _ hk => ⟨hk.1.2, hk.2⟩)⟩, ⟨by refine kR_ ?_; exact Kd.R_mono HO437.out (fun _ hk => ⟨hk.2, hk.1⟩)⟩, ⟨by refine kR_ ?_; exact Kd.R_mono HO440.out (fun _ hk => ⟨hk.2, hk.1⟩)⟩, ⟨by refine bk_ ?_; exact BK444.out⟩, ⟨bw1_ HB.out GE444.out⟩⟩
    case round =>
     clear H'
     (try clear p6 p2 hfz61_2 hfz61_1 hfz61_0 hfz59_2 hfz59_1 hfz59_0 hfz54_2 hfz54_1 hfz54_0 hfz47_2 hfz47_1 hfz47_0 hfz44_2 hfz44_1 hfz44_0 hfz19_2 hfz19_1 hfz19_0 hfz17_2 hfz17_1 hfz17_0 hfz12_2 hfz12_1 hfz12_0 hcz61_2 hcz61_1 hcz61_0 hcz59_2 hcz59_1 hcz59_0 hcz54_2 hcz54_1 hcz54_0 hcz47_2 hcz47_1 hcz47_0 hcz44_2 hcz44_1 hcz44_0 hcz19_2 hcz19_1 hcz19_0 hcz17_2 hcz17_1 hcz17_0 hcz12_2 hcz12_1 hcz12_0 c49 c47 c44 c42b1 c42b0 c42 c41 c40 c36 c27 c26b1 c26b0 c26 c24b1 c24b0 c24 c22 c19 c8 p6 c6 c4 c3 p2 c2b1 c2b0 c2 c1)
     obtain ⟨x52_1, rfl, HA, HK1, HO_50, HO_445001, HO_445002, BK444, HB⟩ := hrel
     cases gk with
     | zero => exact absurd HA.out (by simp [laws_FnSwept.l0])
     | succ k1 =>
      have H := HA.out
      clear HA
      simp only [laws_FnSwept.l0] at H
      by_cases c64 : x52_1 < (t452.length : Int)
      ·rw [if_pos c64] at H
       have c64b0 := dt_ c64
       clear c64
       by_cases c65 : 0 ≤ x52_1
       ·rw [if_pos c65] at H
        have c65b0 := dt_ c65
        clear c65
        by_cases c66 : x52_1 < (t452.length : Int)
        ·rw [if_pos c66] at H
         have c66b0 := dt_ c66
         clear c66
         by_cases c67 : (rd t452 x52_1) > 20
         ·rw [if_pos c67] at H
          have c67b0 : decide (20 < (rd t452 x52_1)) = true := dt_ c67
          clear c67
          obtain rfl := Option.some.inj H
          have p455 : 0 ≤ (x52_1 : Int) := od_ as_
          have q455 : x52_1 < (t452.length : Int) := od_ as_
          obtain ⟨ad455, e455, hx455_0⟩ := Kd.at_int (Kd.R_reads' HO_50.out).2.2 x52_1 p455 q455
          cases e455
          replace p455 := eq_true p455
          replace q455 := eq_true q455
          go_wp2
          go_ret
          exact ⟨rb_, bw1_ HB.out GE444.out⟩
         ·rw [if_neg c67] at H
          have c67b0 : decide (20 < (rd t452 x52_1)) = false := decide_eq_false c67
          clear c67
          have H' := M_ H
          clear H
          have p455 : 0 ≤ (x52_1 : Int) := od_ as_
          have q455 : x52_1 < (t452.length : Int) := od_ as_
          obtain ⟨ad455, e455, hx455_0⟩ := Kd.at_int (Kd.R_reads' HO_50.out).2.2 x52_1 p455 q455
          cases e455
          replace p455 := eq_true p455
          replace q455 := eq_true q455
          go_wp2
          go_roundg k1
          case measure => have := HK1.out; omega
          case rel => exact ⟨(wrap64 (x52_1 + 1)), (by first | rfl | (simp; done) | (simp [*]; done)), H', ⟨by have := HK1.out; omega⟩, ⟨by refine kR_ ?_; exact HO_50.out⟩, ⟨by refine kR_ ?_; exact HO_445001.out⟩, ⟨by refine kR_ ?_; exact HO_445002.out⟩, ⟨by refine bk_ ?_; exact BK444.out⟩, ⟨bw1_ HB.out GE444.out⟩⟩
        ·rw [if_neg c66] at H
         exact absurd H (by simp)
       ·rw [if_neg c65] at H
        exact absurd H (by simp)
      ·rw [if_neg c64] at H
       exact absurd H (by simp)
  ·replace c6 := Bool.eq_false_iff.mpr c6
   subst c6
   rw [if_neg (show ¬ (false = true) by decide)] at H
   by_cases c68 : t449 = true
   ·subst c68
    rw [if_pos rfl] at H
    exact absurd H (by simp)
   ·replace c68 := Bool.eq_false_iff.mpr c68
    subst c68
    rw [if_neg (show ¬ (false = true) by decide)] at H
    by_cases c69 : t448 = 0
    ·rw [if_pos c69] at H
     have c69b0 := beq_iff_eq.mpr c69
     have c69b1 := bne_eq_false_iff_eq.mpr c69
     clear c69
     replace H := bs_ H
     obtain ⟨t451, A700, H⟩ := H
     (try dsimp only at H)
     have A70 := M_ A700
     clear A700
     obtain rfl := Option.some.inj H
     go_enter Try.func19, Try.ntmps19
     go_wp2_with (first | ((with_reducible refine gate_callee (f := 69) rfl ?_); refine gl_ (some 19) Try.func69 #[.slice A0 l0.length c0] ?_; (with_reducible refine (spec_DrawSweepMagazine.calls k _ _ l0 t434 t435 t438 t441 _ ?side1 ?side2 A3.out).mono ?_); (case side1 => exact kD_ HR0.out); (case side2 => exact HC0.out); rintro e w71 ⟨v436, v439, v442, rfl, ho0, ho1, ho2, hb⟩; refine ⟨_, rfl, ?_⟩; have z_ := t4_ (Kd.R_lower ho0 (below_size (bw0_ HB.out))) (Kd.R_lower ho1 (below_size (bw0_ HB.out))) (Kd.S_lower ho2 (below_size (bw0_ HB.out))) (bS_ (bw0_ HB.out) hb); clear HB; obtain ⟨HO437, HO440, HO443, HB⟩ := z_; (try clear ho2 ho1 ho0 hb)) | ((with_reducible refine gate_dst (N := 3) rfl ?_); refine be_ 3 #[.string (⟨#[]⟩ : ByteArray), .slice none 0 0, .slice none 0 0] 25 ?_; intro gb444 hg w72 hbox hb; have z_ := t6_ (rB_ (kR_ HO437.out) hb) (rB_ (kR_ HO440.out) hb) (sB_ (kS_ HO443.out) hb) (bS_ (bw0_ HB.out) hb) hbox (gv_ hg (bw0_ HB.out) : w.heap.size ≤ gb444); (try clear HO443 HO440 HO437); clear HB; obtain ⟨HO437, HO440, HO443, HB, BK444, GE444⟩ := z_; clear hb hbox hg; have hcz73_0 := cz_ BK444.out 0 (.string (⟨#[]⟩ : ByteArray)); have hcz73_1 := cz_ BK444.out 1 (.slice none 0 0); have hcz73_2 := cz_ BK444.out 2 (.slice none 0 0); have hfz73_0 := fz_ BK444.out 0; have hfz73_1 := fz_ BK444.out 1; have hfz73_2 := fz_ BK444.out 2; obtain ⟨Ao74, co74, eo74⟩ := Kd.R_slice HO437.out; subst eo74; obtain ⟨Ao75, co75, eo75⟩ := Kd.R_slice HO440.out; subst eo75; obtain ⟨Ao76, co76, eo76⟩ := Kd.S_slice HO443.out; subst eo76) | ((with_reducible refine gate_callee (f := 66) rfl ?_); refine gl_ (some 25) Try.func66 #[.agg #[.string t434, .slice Ao74 t435.length co74, .slice Ao75 t438.length co75], .slice Ao76 t441.length co76] ?_; (with_reducible refine (impl_SweepMagazine.calls k t434 _ _ t435 _ _ t438 _ _ t441 t445 t448 false _ ?side1 ?side2 ?side3 ?side4 ?side5 ?side6 A4.out).mono ?_); (case side1 => refine (Kd.R_reads' (e := 3) (base := w.heap.size) (ok := fun k_ => some k_ ≠ (.slice Ao75 t438.length co75 : Value).ownBlock) (n := t435.length) (c := co74) ?_).2.2; exact (by refine kR_ ?_; exact (fR3_ HO437.out BK444.out))); (case side2 => exact (Kd.R_reads' HO437.out).2.1); (case side3 => refine (Kd.R_reads' (e := 3) (base := w.heap.size) (ok := fun k_ => some k_ ≠ (.slice Ao74 t435.length co74 : Value).ownBlock) (n := t438.length) (c := co75) ?_).2.2; exact (by refine kR_ ?_; exact (fR3_ HO440.out BK444.out))); (case side4 => exact (Kd.R_reads' HO440.out).2.1); (case side5 => refine (Kd.S_reads' (e := 34) (base := w.heap.size) (ok := fun k_ => True) (n := t441.length) (c := co76) ?_).2.2; exact (by refine kS_ ?_; exact (fS3_ HO443.out BK444.out))); (case side6 => exact (Kd.S_reads' HO443.out).2.1); rintro e w77 ⟨v446, rfl, ho0, hb⟩; refine ⟨_, rfl, ?_⟩; have z_ := t5_ (rB_ (by refine kR_ ?_; exact (fR3_ HO437.out BK444.out)) hb) (rB_ (by refine kR_ ?_; exact (fR3_ HO440.out BK444.out)) hb) (Kd.S_elder' (by refine kS_ ?_; exact (fS3_ HO443.out BK444.out)) (Kd.S_base ho0) hb) (bB_ (g := gb444) (o := .cells #[.string t434, .slice Ao74 t435.length co74, .slice Ao75 t438.length co75] 25 (0, 0)) (by refine bk_ ?_; refine blk_put (cs := #[.string t434, .slice Ao74 t435.length co74, .slice none 0 0]) ?_ 2 _ rfl; refine bk_ ?_; refine blk_put (cs := #[.string t434, .slice none 0 0, .slice none 0 0]) ?_ 1 _ rfl; refine bk_ ?_; refine blk_put (cs := #[.string (⟨#[]⟩ : ByteArray), .slice none 0 0, .slice none 0 0]) ?_ 0 _ rfl; refine bk_ ?_; exact BK444.out) hb) (bS_ (bw1_ HB.out GE444.out) hb); (try clear BK444 HO443 HO440 HO437); clear HB; obtain ⟨HO437, HO440, HO443, BK444, HB⟩ := z_; (try clear ho0 hb); have hcz78_0 := cz_ BK444.out 0 (.string t434); have hcz78_1 := cz_ BK444.out 1 (.slice Ao74 t435.length co74); have hcz78_2 := cz_ BK444.out 2 (.slice Ao75 t438.length co75); have hfz78_0 := fz_ BK444.out 0; have hfz78_1 := fz_ BK444.out 1; have hfz78_2 := fz_ BK444.out 2) | ((with_reducible refine gate_callee (f := 22) rfl ?_); refine gl_ (some 31) Try.func22 #[.agg #[.string t434, .slice Ao74 t435.length co74, .slice Ao75 t438.length co75], .slice Ao76 t441.length co76] ?_; (with_reducible refine (spec_MagazineOk.calls k t434 _ _ t435 _ _ t438 _ _ t441 false _ ?side1 ?side2 ?side3 ?side4 ?side5 ?side6 A5.out).mono ?_); (case side1 => exact kD_ (Kd.R_reads' HO437.out).2.2); (case side2 => exact (Kd.R_reads' HO437.out).2.1); (case side3 => exact kD_ (Kd.R_reads' HO440.out).2.2); (case side4 => exact (Kd.R_reads' HO440.out).2.1); (case side5 => exact kD_ (Kd.S_reads' HO443.out).2.2); (case side6 => exact (Kd.S_reads' HO443.out).2.1); rintro e w79 ⟨rfl, hb⟩; refine ⟨_, rfl, ?_⟩; have z_ := t5_ (rB_ (kR_ HO437.out) hb) (rB_ (kR_ HO440.out) hb) (sB_ (kS_ HO443.out) hb) (bB_ (bk_ BK444.out) hb) (bS_ (bw1_ HB.out GE444.out) hb); (try clear BK444 HO447 HO443 HO440 HO437); clear HB; obtain ⟨HO437, HO440, HO443, BK444, HB⟩ := z_; (try clear hb); have hcz80_0 := cz_ BK444.out 0 (.string t434); have hcz80_1 := cz_ BK444.out 1 (.slice Ao74 t435.length co74); have hcz80_2 := cz_ BK444.out 2 (.slice Ao75 t438.length co75); have hfz80_0 := fz_ BK444.out 0; have hfz80_1 := fz_ BK444.out 1; have hfz80_2 := fz_ BK444.out 2) | (go_at_call 47; (with_reducible refine (impl_CountStrays.calls k t434 _ _ t435 _ _ t438 _ _ t441 t451 _ ?side1 ?side2 ?side3 ?side4 ?side5 ?side6 A70.out).mono ?_); (case side1 => exact kD_ (Kd.R_reads' HO437.out).2.2); (case side2 => exact (Kd.R_reads' HO437.out).2.1); (case side3 => exact kD_ (Kd.R_reads' HO440.out).2.2); (case side4 => exact (Kd.R_reads' HO440.out).2.1); (case side5 => exact kD_ (Kd.S_reads' HO443.out).2.2); (case side6 => exact (Kd.S_reads' HO443.out).2.1); rintro e w81 ⟨rfl, hb⟩; have n5_ := M_ (bS_ (bw1_ HB.out GE444.out) hb); (try clear BK444 HO447 HO443 HO440 HO437); clear HB; have HB := n5_; clear n5_; (try clear hb)))
     go_ret
     exact ⟨rb_, bw1_ HB.out GE444.out⟩
    ·rw [if_neg c69] at H
     exact absurd H (by simp)

/-- THE ONE PURE STATEMENT of laws_FnSwept: yours. -/
def laws_FnSwept.Pure : Prop := ∀ (l0 : List Int), l0.length ≤ maxLen → l0.length * 1 ≤ 140737488351232 → (∀ x ∈ l0, (Lit.int .u8 x).wf = true) → ∃ k, laws_FnSwept.f k l0 = some true
theorem laws_FnSwept.walk (P : laws_FnSwept.Pure) (a0 : Option Addr) (len0 cap0 : Nat) (z0 : List Int) (w : World) (w0 : (a0 = none ∧ len0 = 0 ∧ cap0 = 0 ∧ z0 = []) ∨ ∃ x, a0 = some x ∧ len0 ≤ cap0 ∧ cap0 ≤ maxLen ∧ z0.length = cap0 ∧ (∀ i, i < z0.length → w.cell? (x.add i) = some (.int .u8 (z0.getD i 0))) ∧ ∀ n ∈ z0, (Lit.int .u8 n).wf = true) (y0 : len0 * 1 ≤ 140737488351232) :
    Calls Try.prog 19 #[.slice a0 len0 cap0] w fun e w' => e = .returned (.bool true) ∧ Below w.heap.size w w' := by
 obtain ⟨l0, rfl, hr0, hm0, hw0, hc0⟩ := ReadsInt.ofRowC w0
 obtain ⟨k, h⟩ := P l0 hm0 y0 hw0
 refine (laws_FnSwept.calls k _ _ l0 true w (Kd.C_of_reads (d := (0 : Int)) (h1 := fun _ => rfl) hr0) hc0 h).mono ?_
 rintro e w' ⟨rfl, hd⟩
 exact ⟨rfl, hd⟩

end Go.Proofs.Ytilbngklgjjblaa.Q
