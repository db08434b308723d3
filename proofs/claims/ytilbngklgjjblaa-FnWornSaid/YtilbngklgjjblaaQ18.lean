/- Contracts of Go functions over this translation. Conditions: those that each theorem names. -/
import Derived.Test.YtilbngklgjjblaaQ0
import Derived.Test.YtilbngklgjjblaaQ3
import Derived.Test.YtilbngklgjjblaaQ6
import Derived.Test.YtilbngklgjjblaaQ7
import Derived.Test.YtilbngklgjjblaaQ16
import Derived.Test.YtilbngklgjjblaaQ17
namespace Go.Proofs.Ytilbngklgjjblaa.Q
open Go.RowKit Go.Proofs.YtilbngklgjjblaaW.PrintWords Go.Proofs.YtilbngklgjjblaaW.PrintLast Go.Proofs.YtilbngklgjjblaaW.PrintMore
attribute [local go_sem] max2_int min2_int max_two min_two max_three min_three max_four min_four
set_option linter.unusedVariables false
set_option linter.unusedSimpArgs false

def laws_FnWorn.j0 : Nat → List (List (S30)) → Int → Int → Int → List (List (S30)) → Bool → ByteArray → List Int → List Int → Option (Bool)
  | 0, _, _, _, _, _, _, _, _, _ => none
  | k + 1, x4, x5, x6, x7, x8, x120, x507000, x507001, x507002 => if x120 = true then (none) else (if 0 ≤ x5 then (if x5 < (x4.length : Int) then (if 0 ≤ x6 then (if x6 < ((rd_L2 x4 x5).length : Int) then (if x5 < (x8.length : Int) then (if x6 < ((rd_L2 x8 x5).length : Int) then (if 0 ≤ ((rd_T30 (rd_L2 x4 x5) x6).f0) then (if ((rd_T30 (rd_L2 x4 x5) x6).f0) < (x507002.length : Int) then (if ((rd_T30 (rd_L2 x4 x5) x6).f1) = (rd x507002 ((rd_T30 (rd_L2 x4 x5) x6).f0)) then (if ((rd_T30 (rd_L2 x8 x5) x6).f0) = ((rd_T30 (rd_L2 x4 x5) x6).f0) then (if 0 ≤ x7 then (if ((rd_T30 (rd_L2 x8 x5) x6).f1) = (wrap64 (((rd_T30 (rd_L2 x4 x5) x6).f1) - (shl .i64 1 x7))) then ((impl_CountWorn.f k x507000 x507001 x507002 x8).bind fun t533 => ((impl_CountWorn.f k x507000 x507001 x507002 x4).bind fun t534 => (some (t533 == (wrap64 (t534 + 1)))))) else (none)) else (none)) else (none)) else (if ((rd_T30 (rd_L2 x8 x5) x6).f0) = ((rd_T30 (rd_L2 x4 x5) x6).f0) then (if 0 ≤ x7 then (if ((rd_T30 (rd_L2 x8 x5) x6).f1) = (wrap64 (((rd_T30 (rd_L2 x4 x5) x6).f1) - (shl .i64 1 x7))) then ((impl_CountWorn.f k x507000 x507001 x507002 x8).bind fun t535 => ((impl_CountWorn.f k x507000 x507001 x507002 x4).bind fun t536 => (some (t535 == (wrap64 (t536 + 0)))))) else (none)) else (none)) else (none))) else (none)) else (none)) else (none)) else (none)) else (none)) else (none)) else (none)) else (none))
def laws_FnWorn.f (k : Nat) (l0 : List Int) : Option (Bool) := if (l0.length : Int) > 1048576 then (some true) else ((spec_DrawWearMatrix.f k l0).bind fun bt493 => ((impl_WearMatrix.f k bt493.1 bt493.2.1 bt493.2.2.1 bt493.2.2.2.1 bt493.2.2.2.2.1 bt493.2.2.2.2.2.1 bt493.2.2.2.2.2.2).bind fun bt507 => (if bt507.2 = true then (if (bt507.1.length : Int) = (bt493.2.2.2.1.length : Int) then (if 0 ≤ bt493.2.2.2.2.1 then (if bt493.2.2.2.2.1 < (bt507.1.length : Int) then (if bt493.2.2.2.2.1 < (bt493.2.2.2.1.length : Int) then (if ((rd_L2 bt507.1 bt493.2.2.2.2.1).length : Int) = ((rd_L2 bt493.2.2.2.1 bt493.2.2.2.2.1).length : Int) then ((impl_KindCounts.f k bt493.1 bt493.2.1 bt493.2.2.1 bt507.1).bind fun t517 => ((impl_KindCounts.f k bt493.1 bt493.2.1 bt493.2.2.1 bt493.2.2.2.1).bind fun t520 => ((laws_ints.f k t517 t520).bind fun t523 => (if t523 = true then ((impl_CountStrays.f k bt493.1 bt493.2.1 bt493.2.2.1 bt507.1).bind fun t524 => ((impl_CountStrays.f k bt493.1 bt493.2.1 bt493.2.2.1 bt493.2.2.2.1).bind fun t525 => (laws_FnWorn.j0 k bt493.2.2.2.1 bt493.2.2.2.2.1 bt493.2.2.2.2.2.1 bt493.2.2.2.2.2.2 bt507.1 (t524 != t525) bt493.1 bt493.2.1 bt493.2.2.1))) else (none))))) else (none)) else (none)) else (none)) else (none)) else (none)) else (none))))
theorem laws_FnWorn.mono_l : ∀ k, (∀ y0 y1 y2 y3 y4 y5 y6 y7 y8, LeO (laws_FnWorn.j0 k y0 y1 y2 y3 y4 y5 y6 y7 y8) (laws_FnWorn.j0 (k + 1) y0 y1 y2 y3 y4 y5 y6 y7 y8))
  | 0 => fun _ _ _ _ _ _ _ _ _ r h => by simp [laws_FnWorn.j0] at h
  | k + 1 => by
    have ih0 := laws_FnWorn.mono_l k
    · intro y0 y1 y2 y3 y4 y5 y6 y7 y8
      unfold laws_FnWorn.j0
      repeat' first | (with_reducible first | exact ih0 _ _ _ _ _ _ _ _ _ | exact impl_CountStrays.mono _ _ _ _ _ | exact impl_CountWorn.mono _ _ _ _ _ | exact impl_KindCounts.mono _ _ _ _ _ | exact impl_WearMatrix.mono _ _ _ _ _ _ _ _ | exact laws_ints.mono _ _ _ | exact spec_DrawWearMatrix.mono _ _ | exact spec_MagazineOk.mono _ _ _ _ _ | exact LeO.refl _ | exact LeO.none _ | refine LeO.ite ?_ ?_ | refine LeO.bind ?_ (fun _ => ?_)) | exact ih0 _ _ _ _ _ _ _ _ _ | exact impl_CountStrays.mono _ _ _ _ _ | exact impl_CountWorn.mono _ _ _ _ _ | exact impl_KindCounts.mono _ _ _ _ _ | exact impl_WearMatrix.mono _ _ _ _ _ _ _ _ | exact laws_ints.mono _ _ _ | exact spec_DrawWearMatrix.mono _ _ | exact spec_MagazineOk.mono _ _ _ _ _ | exact LeO.none _ | refine LeO.ite ?_ ?_ | refine LeO.bind ?_ (fun _ => ?_)
theorem laws_FnWorn.mono : ∀ a0 k, LeO (laws_FnWorn.f k a0) (laws_FnWorn.f (k + 1) a0) := by
 intro a0 k
 have ih0 := laws_FnWorn.mono_l k
 unfold laws_FnWorn.f
 repeat' first | (with_reducible first | exact ih0 _ _ _ _ _ _ _ _ _ | exact impl_CountStrays.mono _ _ _ _ _ | exact impl_CountWorn.mono _ _ _ _ _ | exact impl_KindCounts.mono _ _ _ _ _ | exact impl_WearMatrix.mono _ _ _ _ _ _ _ _ | exact laws_ints.mono _ _ _ | exact spec_DrawWearMatrix.mono _ _ | exact spec_MagazineOk.mono _ _ _ _ _ | exact LeO.refl _ | exact LeO.none _ | refine LeO.ite ?_ ?_ | refine LeO.bind ?_ (fun _ => ?_)) | exact ih0 _ _ _ _ _ _ _ _ _ | exact impl_CountStrays.mono _ _ _ _ _ | exact impl_CountWorn.mono _ _ _ _ _ | exact impl_KindCounts.mono _ _ _ _ _ | exact impl_WearMatrix.mono _ _ _ _ _ _ _ _ | exact laws_ints.mono _ _ _ | exact spec_DrawWearMatrix.mono _ _ | exact spec_MagazineOk.mono _ _ _ _ _ | exact LeO.none _ | refine LeO.ite ?_ ?_ | refine LeO.bind ?_ (fun _ => ?_)
def laws_FnWorn.T7 : Bool × List (List Nat × List Nat) := (true, [([], []), ([0], [0]), ([], []), ([2], [2]), ([1, 3], [1, 3]), ([4], [4]), ([5], [5]), ([5], [5]), ([6, 7, 5], [5, 6, 7]), ([8, 5], [5, 8]), ([9, 5], [5, 9]), ([5], [5]), ([5], [5]), ([11, 12, 5], [5, 11, 12]), ([13, 5], [5, 13]), ([14, 5], [5, 14]), ([10, 15, 5], [5, 10, 15]), ([5, 16], [5, 16]), ([17, 5], [17]), ([18], [18]), ([18], [18]), ([19, 20, 18, 18], [18, 19, 20]), ([18], [18]), ([18], [18]), ([22, 23, 21, 18], [18, 22, 23]), ([21, 24, 24, 18], [18, 21, 24]), ([25, 18], [18, 25]), ([18, 26], [18, 26]), ([27, 25], [27]), ([28], [28]), ([28], [28]), ([29, 30, 28, 28], [28, 29, 30]), ([28], [28]), ([28], [28]), ([32, 33, 31, 28], [28, 32, 33]), ([31, 34, 28], [28, 31, 34]), ([28, 35], [28, 35])])
def laws_FnWorn.B7 : List Nat := [0, 1, 0, 4, 15, 31, 63, 63, 255, 511, 1023, 63, 63, 6207, 14399, 30783, 65535, 131071, 262143, 524287, 524287, 2097151, 524287, 524287, 16777215, 33554431, 67108863, 134217727, 268435455, 536870911, 536870911, 2147483647, 536870911, 536870911, 17179869183, 34359738367, 68719476735]
theorem laws_FnWorn.tab7 : rtab .any (opsOf Try.f15 7) = laws_FnWorn.T7 := by kernel_rfl
theorem laws_FnWorn.bits7 : waitsOk laws_FnWorn.T7.2 laws_FnWorn.B7 = true := by kernel_rfl
def laws_FnWorn.T12 : Bool × List (List Nat × List Nat) := (true, [([], []), ([0], [0]), ([], []), ([2], [2]), ([], []), ([4], [4]), ([3, 5], [3, 5]), ([6], [6]), ([1, 7], [1, 7])])
def laws_FnWorn.B12 : List Nat := [0, 1, 0, 4, 0, 16, 60, 124, 255]
theorem laws_FnWorn.tab12 : rtab .any (opsOf Try.f15 12) = laws_FnWorn.T12 := by kernel_rfl
theorem laws_FnWorn.bits12 : waitsOk laws_FnWorn.T12.2 laws_FnWorn.B12 = true := by kernel_rfl
def laws_FnWorn.T14 : Bool × List (List Nat × List Nat) := (true, [([], []), ([0], [0]), ([], []), ([2], [2]), ([1, 3], [1, 3]), ([4], [4]), ([5], [5]), ([6, 5], [5, 6]), ([5], [5]), ([8, 5], [5, 8]), ([5], [5]), ([10, 5], [5, 10]), ([9, 11, 5], [5, 9, 11]), ([7, 12, 5], [5, 7, 12]), ([5, 13], [5, 13]), ([14, 5], [14]), ([15], [15]), ([15], [15]), ([16, 17, 15, 15], [15, 16, 17]), ([15], [15]), ([15], [15]), ([19, 20, 18, 15], [15, 19, 20]), ([15], [15]), ([21, 22, 15], [15, 21, 22]), ([18, 23, 15], [15, 18, 23]), ([15, 24], [15, 24]), ([25, 21, 0, 1, 2, 3, 4, 5, 6, 7, 8, 9, 10, 11, 12, 13, 14, 15, 16, 17, 18, 19, 20, 21, 22, 23, 24, 25], [25])])
def laws_FnWorn.B14 : List Nat := [0, 1, 0, 4, 15, 31, 63, 127, 63, 319, 63, 1087, 3903, 8191, 16383, 32767, 65535, 65535, 262143, 65535, 65535, 2097151, 65535, 8388607, 16777215, 33554431, 67108863]
theorem laws_FnWorn.tab14 : rtab .any (opsOf Try.f15 14) = laws_FnWorn.T14 := by kernel_rfl
theorem laws_FnWorn.bits14 : waitsOk laws_FnWorn.T14.2 laws_FnWorn.B14 = true := by kernel_rfl
set_option maxHeartbeats 8000000 in
set_option maxRecDepth 100000 in
theorem laws_FnWorn.calls (k : Nat) (A0 : Option Addr) (c0 : Nat) (l0 : List Int) (r : Bool) (w : World) (hr0 : Kd.C (Kd.int .u8) w A0 l0.length l0) (hc0 : l0.length ≤ c0) (h : laws_FnWorn.f k l0 = some r) :
    Calls Try.prog 15 #[.slice A0 l0.length c0] w fun e w' => e = .returned (.bool r) ∧ Below w.heap.size w w' := by
 have hu25 := Try.underlying25
 have hu30 := Try.underlying30
 have HR0 := M_ hr0
 have HC0 := M_ hc0
 clear hr0 hc0
 have HB := M_ (Below.refl w.heap.size w)
 have H : (if (l0.length : Int) > 1048576 then (some true) else ((spec_DrawWearMatrix.f k l0).bind fun bt493 => ((impl_WearMatrix.f k bt493.1 bt493.2.1 bt493.2.2.1 bt493.2.2.2.1 bt493.2.2.2.2.1 bt493.2.2.2.2.2.1 bt493.2.2.2.2.2.2).bind fun bt507 => (if bt507.2 = true then (if (bt507.1.length : Int) = (bt493.2.2.2.1.length : Int) then (if 0 ≤ bt493.2.2.2.2.1 then (if bt493.2.2.2.2.1 < (bt507.1.length : Int) then (if bt493.2.2.2.2.1 < (bt493.2.2.2.1.length : Int) then (if ((rd_L2 bt507.1 bt493.2.2.2.2.1).length : Int) = ((rd_L2 bt493.2.2.2.1 bt493.2.2.2.2.1).length : Int) then ((impl_KindCounts.f k bt493.1 bt493.2.1 bt493.2.2.1 bt507.1).bind fun t517 => ((impl_KindCounts.f k bt493.1 bt493.2.1 bt493.2.2.1 bt493.2.2.2.1).bind fun t520 => ((laws_ints.f k t517 t520).bind fun t523 => (if t523 = true then ((impl_CountStrays.f k bt493.1 bt493.2.1 bt493.2.2.1 bt507.1).bind fun t524 => ((impl_CountStrays.f k bt493.1 bt493.2.1 bt493.2.2.1 bt493.2.2.2.1).bind fun t525 => (laws_FnWorn.j0 k bt493.2.2.2.1 bt493.2.2.2.2.1 bt493.2.2.2.2.2.1 bt493.2.2.2.2.2.2 bt507.1 (t524 != t525) bt493.1 bt493.2.1 bt493.2.2.1))) else (none))))) else (none)) else (none)) else (none)) else (none)) else (none)) else (none))))) = some r := h
 clear h
 by_cases c2 : (l0.length : Int) > 1048576
 ·rw [if_pos c2] at H
  have c2b0 : decide (1048576 < (l0.length : Int)) = true := dt_ c2
  have c2b1 : decide (1048576 < l0.length) = true := dt_ (by omega)
  clear c2
  obtain rfl := Option.some.inj H
  go_enter Try.func15, Try.ntmps15
  go_wp2
  go_ret
  exact ⟨rb_, bw0_ HB.out⟩
 ·rw [if_neg c2] at H
  have c2b0 : decide (1048576 < (l0.length : Int)) = false := decide_eq_false c2
  have c2b1 : decide (1048576 < l0.length) = false := decide_eq_false (by omega)
  clear c2
  replace H := bs_ H
  obtain ⟨⟨t493, t494, t497, t500, t503, t504, t505⟩, A30, H⟩ := H
  dsimp only at H
  have A3 := M_ A30
  clear A30
  replace H := bs_ H
  obtain ⟨⟨t507, t510⟩, A40, H⟩ := H
  dsimp only at H
  have A4 := M_ A40
  clear A40
  by_cases c5 : t510 = true
  ·subst c5
   rw [if_pos rfl] at H
   have HC6 := M_ H
   clear H
   go_enter Try.func15, Try.ntmps15
   go_upto_region 7 with (first | ((with_reducible refine gate_callee (f := 63) rfl ?_); refine gl_ (some 18) Try.func63 #[.slice A0 l0.length c0] ?_; (with_reducible refine (spec_DrawWearMatrix.calls k _ _ l0 t493 t494 t497 t500 t503 t504 t505 _ ?side1 ?side2 A3.out).mono ?_); (case side1 => exact kD_ HR0.out); (case side2 => exact HC0.out); rintro e w7 ⟨v495, v498, v501, rfl, ho0, ho1, ho2, hb⟩; refine ⟨_, rfl, ?_⟩; have z_ := t4_ (Kd.R_lower ho0 (below_size (bw0_ HB.out))) (Kd.R_lower ho1 (below_size (bw0_ HB.out))) (Kd.S_lower ho2 (below_size (bw0_ HB.out))) (bS_ (bw0_ HB.out) hb); clear HB; obtain ⟨HO496, HO499, HO502, HB⟩ := z_; (try clear ho2 ho1 ho0 hb)) | ((with_reducible refine gate_dst (N := 3) rfl ?_); (try (refine gate_guard (by rfl) ?_; dsimp only)); refine be_ 3 #[.string (⟨#[]⟩ : ByteArray), .slice none 0 0, .slice none 0 0] 25 ?_; intro gb506 hg w8 hbox hb; have z_ := t6_ (rB_ (kR_ HO496.out) hb) (rB_ (kR_ HO499.out) hb) (sB_ (kS_ HO502.out) hb) (bS_ (bw0_ HB.out) hb) hbox (gv_ hg (bw0_ HB.out) : w.heap.size ≤ gb506); clear HB HO502 HO499 HO496; obtain ⟨HO496, HO499, HO502, HB, BK506, GE506⟩ := z_; clear hb hbox hg; have hcz9_0 := cz_ BK506.out 0 (.string (⟨#[]⟩ : ByteArray)); have hcz9_1 := cz_ BK506.out 1 (.slice none 0 0); have hcz9_2 := cz_ BK506.out 2 (.slice none 0 0); have hfz9_0 := fz_ BK506.out 0; have hfz9_1 := fz_ BK506.out 1; have hfz9_2 := fz_ BK506.out 2; obtain ⟨Ao10, co10, eo10⟩ := Kd.R_slice HO496.out; subst eo10; obtain ⟨Ao11, co11, eo11⟩ := Kd.R_slice HO499.out; subst eo11; obtain ⟨Ao12, co12, eo12⟩ := Kd.S_slice HO502.out; subst eo12) | ((with_reducible refine gate_callee (f := 64) rfl ?_); refine gl_ (some 30) Try.func64 #[.agg #[.string t493, .slice Ao10 t494.length co10, .slice Ao11 t497.length co11], .slice Ao12 t500.length co12, .int .i64 t503, .int .i64 t504, .int .i64 t505] ?_; (with_reducible refine (impl_WearMatrix.calls k t493 _ _ t494 _ _ t497 _ _ t500 t503 t504 t505 t507 true _ ?side1 ?side2 ?side3 ?side4 ?side5 ?side6 A4.out).mono ?_); (case side1 => refine (Kd.R_reads' (e := 3) (base := w.heap.size) (ok := fun k_ => some k_ ≠ (.slice Ao11 t497.length co11 : Value).ownBlock) (n := t494.length) (c := co10) ?_).2.2; exact (by refine kR_ ?_; exact (fR3_ HO496.out BK506.out))); (case side2 => exact (Kd.R_reads' HO496.out).2.1); (case side3 => refine (Kd.R_reads' (e := 3) (base := w.heap.size) (ok := fun k_ => some k_ ≠ (.slice Ao10 t494.length co10 : Value).ownBlock) (n := t497.length) (c := co11) ?_).2.2; exact (by refine kR_ ?_; exact (fR3_ HO499.out BK506.out))); (case side4 => exact (Kd.R_reads' HO499.out).2.1); (case side5 => refine (Kd.S_reads' (e := 34) (base := w.heap.size) (ok := fun k_ => True) (n := t500.length) (c := co12) ?_).2.2; exact (by refine kS_ ?_; exact (fS3_ HO502.out BK506.out))); (case side6 => exact (Kd.S_reads' HO502.out).2.1); rintro e w13 ⟨v508, rfl, ho0, hb⟩; refine ⟨_, rfl, ?_⟩; have z_ := t6_ (rB_ (by refine kR_ ?_; exact (fR3_ HO496.out BK506.out)) hb) (rB_ (by refine kR_ ?_; exact (fR3_ HO499.out BK506.out)) hb) (Kd.S_elder' (by refine kS_ ?_; exact (fS3_ HO502.out BK506.out)) (Kd.S_base ho0) hb) (Kd.S_lower (Kd.S_new' ho0 (Kd.S_lt (by refine kS_ ?_; exact (fS3_ HO502.out BK506.out)))) (below_size (bw1_ HB.out GE506.out))) (bB_ (g := gb506) (o := .cells #[.string t493, .slice Ao10 t494.length co10, .slice Ao11 t497.length co11] 25 (0, 0)) (by refine bk_ ?_; refine blk_put (cs := #[.string t493, .slice Ao10 t494.length co10, .slice none 0 0]) ?_ 2 _ rfl; refine bk_ ?_; refine blk_put (cs := #[.string t493, .slice none 0 0, .slice none 0 0]) ?_ 1 _ rfl; refine bk_ ?_; refine blk_put (cs := #[.string (⟨#[]⟩ : ByteArray), .slice none 0 0, .slice none 0 0]) ?_ 0 _ rfl; refine bk_ ?_; exact BK506.out) hb) (bS_ (bw1_ HB.out GE506.out) hb); clear HB BK506 HO502 HO499 HO496; obtain ⟨HO496, HO499, HO502, HO509, BK506, HB⟩ := z_; (try clear ho0 hb)))
   (try simp only [Act.put, lA_, lB_, lC_])
   go_cut [120] (fun v120 wc => ∃ (kq : Nat) (x120_5 : Bool), v120 = .bool x120_5 ∧ Aside0 (laws_FnWorn.j0 kq t500 t503 t504 t505 t507 x120_5 t493 t494 t497 = some r) ∧ Aside0 (kq ≤ k) ∧ Aside0 (Kd.S (Kd.slice 30 k30) 34 wc w.heap.size (fun k_ => some k_ ≠ (v508 : Value).ownBlock) (.slice Ao12 t500.length co12) t500) ∧ Aside0 (Kd.S (Kd.slice 30 k30) 34 wc w.heap.size (fun k_ => some k_ ≠ ((.slice Ao12 t500.length co12) : Value).ownBlock) v508 t507) ∧ Aside0 (Kd.R (Kd.int .i64) 3 wc w.heap.size (fun k_ => some k_ ≠ ((.slice Ao11 t497.length co11) : Value).ownBlock) (.slice Ao10 t494.length co10) t494) ∧ Aside0 (Kd.R (Kd.int .i64) 3 wc w.heap.size (fun k_ => some k_ ≠ ((.slice Ao10 t494.length co10) : Value).ownBlock) (.slice Ao11 t497.length co11) t497) ∧ Aside0 (wc.heap[gb506]? = some (.cells #[.string t493, (.slice Ao10 t494.length co10), (.slice Ao11 t497.length co11)] 25 (0, 0))) ∧ Aside0 (Below w.heap.size w wc))
   case first =>
    have H := HC6.out
    clear HC6
    by_cases c14 : (t507.length : Int) = (t500.length : Int)
    ·rw [if_pos c14] at H
     have c14b0 := beq_iff_eq.mpr c14
     have c14b1 := bne_eq_false_iff_eq.mpr c14
     have c14b2 : (t507.length == t500.length) = true := by first | simpa using c14 | (simp at c14 ⊢; omega)
     clear c14
     (first | rw [c14b0] | (simp only [i64_w, i32_w]; rw [c14b0]) | skip)
     by_cases c15 : 0 ≤ t503
     ·rw [if_pos c15] at H
      have c15b0 := dt_ c15
      clear c15
      by_cases c16 : t503 < (t507.length : Int)
      ·rw [if_pos c16] at H
       have c16b0 := dt_ c16
       clear c16
       by_cases c17 : t503 < (t500.length : Int)
       ·rw [if_pos c17] at H
        have c17b0 := dt_ c17
        clear c17
        by_cases c18 : ((rd_L2 t507 t503).length : Int) = ((rd_L2 t500 t503).length : Int)
        ·rw [if_pos c18] at H
         have c18b0 := beq_iff_eq.mpr c18
         have c18b1 := bne_eq_false_iff_eq.mpr c18
         have c18b2 : ((rd_L2 t507 t503).length == (rd_L2 t500 t503).length) = true := by first | simpa using c18 | (simp at c18 ⊢; omega)
         clear c18
         replace H := bs_ H
         obtain ⟨t517, A190, H⟩ := H
         (try dsimp only at H)
         have A19 := M_ A190
         clear A190
         replace H := bs_ H
         obtain ⟨t520, A200, H⟩ := H
         (try dsimp only at H)
         have A20 := M_ A200
         clear A200
         replace H := bs_ H
         obtain ⟨t523, A210, H⟩ := H
         (try dsimp only at H)
         have A21 := M_ A210
         clear A210
         by_cases c22 : t523 = true
         ·subst c22
          rw [if_pos rfl] at H
          replace H := bs_ H
          obtain ⟨t524, A230, H⟩ := H
          (try dsimp only at H)
          have A23 := M_ A230
          clear A230
          replace H := bs_ H
          obtain ⟨t525, A240, H⟩ := H
          (try dsimp only at H)
          have A24 := M_ A240
          clear A240
          have H' := M_ H
          clear H
          try go_wp2
          have z_ := t6_ (Kd.R_drew HO496.out) (Kd.R_drew HO499.out) (Kd.S_drew HO502.out) (Kd.S_drew HO509.out) (blk_drew BK506.out) (below_drew1 HB.out)
          clear HB BK506 HO509 HO502 HO499 HO496
          obtain ⟨HO496, HO499, HO502, HO509, BK506, HB⟩ := z_
          obtain ⟨Ao26, co26, eo26⟩ := Kd.S_slice HO509.out
          (first | subst eo26 | (injection eo26 with f1_ f2_ f3_; have f4_ := f1_.symm; have f5_ := f3_.symm; clear f1_ f2_ f3_; subst f4_; subst f5_))
          have p515 : 0 ≤ (t503 : Int) := od_ as_
          have q515 : t503 < (t507.length : Int) := od_ as_
          obtain ⟨ad515, A515_0, c515_0, e515, hx515_0, hl515_0, hi515_0⟩ := at_L2 (Kd.S_reads' HO509.out).2.2 t503 p515 q515
          cases e515
          obtain ⟨ce515, hce515, hMe515, hcc515⟩ := Kd.S_get HO509.out [] t503 p515 (by first | exact q515 | exact od_ as_ | (have e_ := (Kd.S_reads' HO509.out).1; omega))
          obtain ⟨ve515_0, rfl, ge515_0⟩ := hMe515
          have hv515_0 := hcc515 0 _ rfl
          rw [Nat.add_zero, show ((Kd.slice 30 k30)).sz = 1 from rfl, Nat.mul_one] at hv515_0
          replace hv515_0 := Option.some.inj (hv515_0.symm.trans hx515_0)
          rw [hv515_0] at ge515_0
          have HL515_0 := M_ (show Kd.R k30 30 _ _ _ _ (rd_L2 t507 t503) from ge515_0)
          clear hce515 hcc515 ge515_0 hv515_0
          have HR515_0 := M_ hi515_0
          have HC515_0 := M_ hl515_0
          clear hi515_0 hl515_0
          replace p515 := eq_true p515
          replace q515 := eq_true q515
          have p516 : 0 ≤ (t503 : Int) := od_ as_
          have q516 : t503 < (t500.length : Int) := od_ as_
          obtain ⟨ad516, A516_0, c516_0, e516, hx516_0, hl516_0, hi516_0⟩ := at_L2 (Kd.S_reads' HO502.out).2.2 t503 p516 q516
          cases e516
          obtain ⟨ce516, hce516, hMe516, hcc516⟩ := Kd.S_get HO502.out [] t503 p516 (by first | exact q516 | exact od_ as_ | (have e_ := (Kd.S_reads' HO502.out).1; omega))
          obtain ⟨ve516_0, rfl, ge516_0⟩ := hMe516
          have hv516_0 := hcc516 0 _ rfl
          rw [Nat.add_zero, show ((Kd.slice 30 k30)).sz = 1 from rfl, Nat.mul_one] at hv516_0
          replace hv516_0 := Option.some.inj (hv516_0.symm.trans hx516_0)
          rw [hv516_0] at ge516_0
          have HL516_0 := M_ (show Kd.R k30 30 _ _ _ _ (rd_L2 t500 t503) from ge516_0)
          clear hce516 hcc516 ge516_0 hv516_0
          have HR516_0 := M_ hi516_0
          have HC516_0 := M_ hl516_0
          clear hi516_0 hl516_0
          replace p516 := eq_true p516
          replace q516 := eq_true q516
          refine start_ (n := 37) (S := fun w' => w'.cell? ⟨gb506, 0, none⟩ = some (.string t493) ∧ w'.cell? ⟨gb506, 1, none⟩ = some (.slice Ao10 t494.length co10) ∧ w'.cell? ⟨gb506, 2, none⟩ = some (.slice Ao11 t497.length co11) ∧ w'.cell? (ad515.add (t503).toNat) = some (.slice A515_0 (rd_L2 t507 t503).length c515_0) ∧ w'.cell? (ad516.add (t503).toNat) = some (.slice A516_0 (rd_L2 t500 t503).length c516_0)) (ds := []) (mk_ 37 0) (by kernel_rfl) rfl rfl ⟨(blk_cell BK506.out 0).trans rfl, (blk_cell BK506.out 1).trans rfl, (blk_cell BK506.out 2).trans rfl, hx515_0, hx516_0⟩ (fun hHeld => ?_); refine with_tabW laws_FnWorn.tab7 laws_FnWorn.bits7 (fun HT_ HW_ => ?_)
          generalize w13.drew = w25 at HO496 HO499 HO502 HO509 BK506 HB HL515_0 HL516_0 HR515_0 HR516_0 hx515_0 hx516_0 hHeld ⊢
          refine pu_ 0 (some 84) (mk_ 37 1) HT_.out ?_
          refine pu_ 1 (some 85) (mk_ 37 3) HT_.out ?_
          refine pu_ 2 (some 86) (mk_ 37 7) HT_.out ?_
          refine pu_ 3 (some 87) (mk_ 37 15) HT_.out ?_
          refine pu_ 4 (some 88) (mk_ 37 31) HT_.out ?_
          refine pu_ 5 (some 89) (mk_ 37 63) HT_.out ?_
          refine pu_ 6 (some 90) (mk_ 37 127) HT_.out ?_
          refine pu_ 7 (some 91) (mk_ 37 255) HT_.out ?_
          refine pu_ 8 (some 92) (mk_ 37 511) HT_.out ?_
          refine pu_ 11 (some 95) (mk_ 37 2559) HT_.out ?_
          refine pu_ 12 (some 96) (mk_ 37 6655) HT_.out ?_
          refine pu_ 13 (some 97) (mk_ 37 14847) HT_.out ?_
          refine ta_ 9 (some 93) (mk_ 37 15359) HT_.out HW_.out hHeld (hy := by rintro w' ⟨s0, s1, s2, s3, s4⟩; go_simp; with_reducible rfl) (h := ?_)
          refine pu_ 10 (some 94) (mk_ 37 16383) HT_.out ?_
          refine ta_ 14 (some 98) (mk_ 37 32767) HT_.out HW_.out hHeld (hy := by rintro w' ⟨s0, s1, s2, s3, s4⟩; go_simp; with_reducible rfl) (h := ?_)
          refine pu_ 15 (some 99) (mk_ 37 65535) HT_.out ?_
          refine pu_ 16 (some 100) (mk_ 37 131071) HT_.out ?_
          refine pu_ 17 (some 101) (mk_ 37 262143) HT_.out ?_
          refine pu_ 18 (some 102) (mk_ 37 524287) HT_.out ?_
          refine pu_ 20 (some 104) (mk_ 37 1572863) HT_.out ?_
          refine pu_ 23 (some 107) (mk_ 37 9961471) HT_.out ?_
          refine ta_ 19 (some 103) (mk_ 37 10485759) HT_.out HW_.out hHeld (hy := by rintro w' ⟨s0, s1, s2, s3, s4⟩; go_simp; with_reducible rfl) (h := ?_)
          refine ta_ 22 (some 106) (mk_ 37 14680063) HT_.out HW_.out hHeld (hy := by rintro w' ⟨s0, s1, s2, s3, s4⟩; go_simp; with_reducible rfl) (h := ?_)
          refine on_ 21 (some 105) (mk_ 37 16777215) HT_.out fun K hK => ?_
          refine goes_ Try.func27 (by kernel_rfl) rfl #[.agg #[.string t493, .slice Ao10 t494.length co10, .slice Ao11 t497.length co11], .slice (some ad515) t507.length co26] (by rfl) rfl rfl ar_ ?_
          with_reducible refine (impl_KindCounts.calls k t493 _ _ t494 _ _ t497 _ _ t507 t517 _ ?side1 ?side2 ?side3 ?side4 ?side5 ?side6 A19.out).mono ?_
          (case side1 => exact kD_ (Kd.R_reads' HO496.out).2.2)
          (case side2 => exact (Kd.R_reads' HO496.out).2.1)
          (case side3 => exact kD_ (Kd.R_reads' HO499.out).2.2)
          (case side4 => exact (Kd.R_reads' HO499.out).2.1)
          (case side5 => exact kD_ (Kd.S_reads' HO509.out).2.2)
          (case side6 => exact (Kd.S_reads' HO509.out).2.1)
          rintro e w27 ⟨v518, rfl, ho0, hb⟩
          have HS3_ := (hb.cell (World.block_lt_of_cell? _ _ (hHeld.2.2.2.1))).trans (hHeld.2.2.2.1)
          have HS4_ := (hb.cell (World.block_lt_of_cell? _ _ (hHeld.2.2.2.2))).trans (hHeld.2.2.2.2)
          refine ⟨_, rfl, ?_⟩
          have z_ := t7_ (Kd.R_elder' (kR_ HO496.out) (Kd.R_base ho0) hb) (Kd.R_elder' (kR_ HO499.out) (Kd.R_base ho0) hb) (sB_ (kS_ HO502.out) hb) (sB_ (kS_ HO509.out) hb) (Kd.R_lower (Kd.R_new' (Kd.R_new' ho0 (Kd.R_lt (kR_ HO496.out))) (Kd.R_lt (kR_ HO499.out))) (below_size (bw1_ HB.out GE506.out))) (bB_ (bk_ BK506.out) hb) (bS_ (bw1_ HB.out GE506.out) hb)
          clear HO509 HO502 HO499 HO496
          (try clear HL516_0 HL515_0)
          clear BK506
          (try clear HR516_0 HR515_0)
          clear HB
          obtain ⟨HO496, HO499, HO502, HO509, HO519, BK506, HB⟩ := z_
          (try clear ho0 hb)
          refine hK.out _ _ ⟨(blk_cell BK506.out 0).trans rfl, (blk_cell BK506.out 1).trans rfl, (blk_cell BK506.out 2).trans rfl, HS3_, HS4_⟩ (fun hHeld => ?_)
          clear hK K
          refine norm_ (a' := ?_) ?_ ?_
          rotate_left
          ·show Act.put _ (some 105) _ = _
           simp only [Act.put, lA_, lB_, lC_, i64_w, i32_w]
           rfl
          refine on_ 24 (some 108) (mk_ 37 33554431) HT_.out fun K hK => ?_
          refine goes_ Try.func27 (by kernel_rfl) rfl #[.agg #[.string t493, .slice Ao10 t494.length co10, .slice Ao11 t497.length co11], .slice (some ad516) t500.length co12] (by rfl) rfl rfl ar_ ?_
          with_reducible refine (impl_KindCounts.calls k t493 _ _ t494 _ _ t497 _ _ t500 t520 _ ?side1 ?side2 ?side3 ?side4 ?side5 ?side6 A20.out).mono ?_
          (case side1 => exact kD_ (Kd.R_reads' HO496.out).2.2)
          (case side2 => exact (Kd.R_reads' HO496.out).2.1)
          (case side3 => exact kD_ (Kd.R_reads' HO499.out).2.2)
          (case side4 => exact (Kd.R_reads' HO499.out).2.1)
          (case side5 => exact kD_ (Kd.S_reads' HO502.out).2.2)
          (case side6 => exact (Kd.S_reads' HO502.out).2.1)
          rintro e w28 ⟨v521, rfl, ho0, hb⟩
          have HS3_ := (hb.cell (World.block_lt_of_cell? _ _ (hHeld.2.2.2.1))).trans (hHeld.2.2.2.1)
          have HS4_ := (hb.cell (World.block_lt_of_cell? _ _ (hHeld.2.2.2.2))).trans (hHeld.2.2.2.2)
          refine ⟨_, rfl, ?_⟩
          have z_ := t8_ (Kd.R_elder' (kR_ HO496.out) (Kd.R_base ho0) hb) (Kd.R_elder' (kR_ HO499.out) (Kd.R_base ho0) hb) (sB_ (kS_ HO502.out) hb) (sB_ (kS_ HO509.out) hb) (Kd.R_elder' (kR_ HO519.out) (Kd.R_base ho0) hb) (Kd.R_lower (Kd.R_new' (Kd.R_new' (Kd.R_new' ho0 (Kd.R_lt (kR_ HO496.out))) (Kd.R_lt (kR_ HO499.out))) (Kd.R_lt (kR_ HO519.out))) (below_size (bw1_ HB.out GE506.out))) (bB_ (bk_ BK506.out) hb) (bS_ (bw1_ HB.out GE506.out) hb)
          clear HO509 HO502 HO499 HO496
          (try clear HO519 HL516_0 HL515_0)
          clear BK506
          (try clear HR516_0 HR515_0)
          clear HB
          obtain ⟨HO496, HO499, HO502, HO509, HO519, HO522, BK506, HB⟩ := z_
          (try clear ho0 hb)
          obtain ⟨Ao29, co29, eo29⟩ := Kd.R_slice HO519.out
          (first | subst eo29 | (injection eo29 with f1_ f2_ f3_; have f4_ := f1_.symm; have f5_ := f3_.symm; clear f1_ f2_ f3_; subst f4_; subst f5_))
          obtain ⟨Ao30, co30, eo30⟩ := Kd.R_slice HO522.out
          (first | subst eo30 | (injection eo30 with f1_ f2_ f3_; have f4_ := f1_.symm; have f5_ := f3_.symm; clear f1_ f2_ f3_; subst f4_; subst f5_))
          refine hK.out _ _ ⟨(blk_cell BK506.out 0).trans rfl, (blk_cell BK506.out 1).trans rfl, (blk_cell BK506.out 2).trans rfl, HS3_, HS4_⟩ (fun hHeld => ?_)
          clear hK K
          refine norm_ (a' := ?_) ?_ ?_
          rotate_left
          ·show Act.put _ (some 108) _ = _
           simp only [Act.put, lA_, lB_, lC_, i64_w, i32_w]
           rfl
          refine on_ 25 (some 109) (mk_ 37 67108863) HT_.out fun K hK => ?_
          refine goes_ Try.func26 (by kernel_rfl) rfl #[.slice Ao29 t517.length co29, .slice Ao30 t520.length co30] (by rfl) rfl rfl ar_ ?_
          with_reducible refine (laws_ints.calls k _ _ t517 _ _ t520 true _ ?side1 ?side2 ?side3 ?side4 A21.out).mono ?_
          (case side1 => exact kD_ (Kd.R_reads' HO519.out).2.2)
          (case side2 => exact (Kd.R_reads' HO519.out).2.1)
          (case side3 => exact kD_ (Kd.R_reads' HO522.out).2.2)
          (case side4 => exact (Kd.R_reads' HO522.out).2.1)
          rintro e w' ⟨rfl, ⟨nd, rfl⟩⟩
          refine ⟨_, rfl, ?_⟩
          refine hK.out _ _ ⟨(blk_cell BK506.out 0).trans rfl, (blk_cell BK506.out 1).trans rfl, (blk_cell BK506.out 2).trans rfl, hHeld.2.2.2.1, hHeld.2.2.2.2⟩ (fun hHeld => ?_)
          clear hK K
          refine norm_ (a' := ?_) ?_ ?_
          rotate_left
          ·show Act.put _ (some 109) _ = _
           simp only [Act.put, lA_, lB_, lC_, i64_w, i32_w]
           rfl
          refine pu_ 26 (some 110) (mk_ 37 134217727) HT_.out ?_
          refine pu_ 27 (some 111) (mk_ 37 268435455) HT_.out ?_
          refine pu_ 28 (some 112) (mk_ 37 536870911) HT_.out ?_
          refine pu_ 30 (some 114) (mk_ 37 1610612735) HT_.out ?_
          refine pu_ 33 (some 117) (mk_ 37 10200547327) HT_.out ?_
          refine ta_ 29 (some 113) (mk_ 37 10737418239) HT_.out HW_.out hHeld (hy := by rintro w' ⟨s0, s1, s2, s3, s4⟩; go_simp; with_reducible rfl) (h := ?_)
          refine ta_ 32 (some 116) (mk_ 37 15032385535) HT_.out HW_.out hHeld (hy := by rintro w' ⟨s0, s1, s2, s3, s4⟩; go_simp; with_reducible rfl) (h := ?_)
          refine on_ 31 (some 115) (mk_ 37 17179869183) HT_.out fun K hK => ?_
          refine goes_ Try.func47 (by kernel_rfl) rfl #[.agg #[.string t493, .slice Ao10 t494.length co10, .slice Ao11 t497.length co11], .slice (some ad515) t507.length co26] (by rfl) rfl rfl ar_ ?_
          with_reducible refine (impl_CountStrays.calls k t493 _ _ t494 _ _ t497 _ _ t507 t524 _ ?side1 ?side2 ?side3 ?side4 ?side5 ?side6 A23.out).mono ?_
          (case side1 => exact kD_ (Kd.R_reads' HO496.out).2.2)
          (case side2 => exact (Kd.R_reads' HO496.out).2.1)
          (case side3 => exact kD_ (Kd.R_reads' HO499.out).2.2)
          (case side4 => exact (Kd.R_reads' HO499.out).2.1)
          (case side5 => exact kD_ (Kd.S_reads' HO509.out).2.2)
          (case side6 => exact (Kd.S_reads' HO509.out).2.1)
          rintro e w31 ⟨rfl, hb⟩
          have HS3_ := (hb.cell (World.block_lt_of_cell? _ _ (hHeld.2.2.2.1))).trans (hHeld.2.2.2.1)
          have HS4_ := (hb.cell (World.block_lt_of_cell? _ _ (hHeld.2.2.2.2))).trans (hHeld.2.2.2.2)
          refine ⟨_, rfl, ?_⟩
          have z_ := t6_ (rB_ (kR_ HO496.out) hb) (rB_ (kR_ HO499.out) hb) (sB_ (kS_ HO502.out) hb) (sB_ (kS_ HO509.out) hb) (bB_ (bk_ BK506.out) hb) (bS_ (bw1_ HB.out GE506.out) hb)
          clear HO509 HO502 HO499 HO496
          (try clear HO522 HO519 HL516_0 HL515_0)
          clear BK506
          (try clear HR516_0 HR515_0)
          clear HB
          obtain ⟨HO496, HO499, HO502, HO509, BK506, HB⟩ := z_
          (try clear hb)
          refine hK.out _ _ ⟨(blk_cell BK506.out 0).trans rfl, (blk_cell BK506.out 1).trans rfl, (blk_cell BK506.out 2).trans rfl, HS3_, HS4_⟩ (fun hHeld => ?_)
          clear hK K
          refine norm_ (a' := ?_) ?_ ?_
          rotate_left
          ·show Act.put _ (some 115) _ = _
           simp only [Act.put, lA_, lB_, lC_, i64_w, i32_w]
           rfl
          refine on_ 34 (some 118) (mk_ 37 34359738367) HT_.out fun K hK => ?_
          refine goes_ Try.func47 (by kernel_rfl) rfl #[.agg #[.string t493, .slice Ao10 t494.length co10, .slice Ao11 t497.length co11], .slice (some ad516) t500.length co12] (by rfl) rfl rfl ar_ ?_
          with_reducible refine (impl_CountStrays.calls k t493 _ _ t494 _ _ t497 _ _ t500 t525 _ ?side1 ?side2 ?side3 ?side4 ?side5 ?side6 A24.out).mono ?_
          (case side1 => exact kD_ (Kd.R_reads' HO496.out).2.2)
          (case side2 => exact (Kd.R_reads' HO496.out).2.1)
          (case side3 => exact kD_ (Kd.R_reads' HO499.out).2.2)
          (case side4 => exact (Kd.R_reads' HO499.out).2.1)
          (case side5 => exact kD_ (Kd.S_reads' HO502.out).2.2)
          (case side6 => exact (Kd.S_reads' HO502.out).2.1)
          rintro e w32 ⟨rfl, hb⟩
          have HS3_ := (hb.cell (World.block_lt_of_cell? _ _ (hHeld.2.2.2.1))).trans (hHeld.2.2.2.1)
          have HS4_ := (hb.cell (World.block_lt_of_cell? _ _ (hHeld.2.2.2.2))).trans (hHeld.2.2.2.2)
          refine ⟨_, rfl, ?_⟩
          have z_ := t6_ (rB_ (kR_ HO496.out) hb) (rB_ (kR_ HO499.out) hb) (sB_ (kS_ HO502.out) hb) (sB_ (kS_ HO509.out) hb) (bB_ (bk_ BK506.out) hb) (bS_ (bw1_ HB.out GE506.out) hb)
          clear HO509 HO502 HO499 HO496
          (try clear HO522 HO519 HL516_0 HL515_0)
          clear BK506
          (try clear HR516_0 HR515_0)
          clear HB
          obtain ⟨HO496, HO499, HO502, HO509, BK506, HB⟩ := z_
          (try clear hb)
          refine hK.out _ _ ⟨(blk_cell BK506.out 0).trans rfl, (blk_cell BK506.out 1).trans rfl, (blk_cell BK506.out 2).trans rfl, HS3_, HS4_⟩ (fun hHeld => ?_)
          clear hK K
          refine norm_ (a' := ?_) ?_ ?_
          rotate_left
          ·show Act.put _ (some 118) _ = _
           simp only [Act.put, lA_, lB_, lC_, i64_w, i32_w]
           rfl
          refine pu_ 35 (some 119) (mk_ 37 68719476735) HT_.out ?_
          refine pu_ 36 (some 120) (mk_ 37 137438953471) HT_.out ?_
          refine done_ (done_of HT_.out (by kernel_rfl)) ?_
          try go_wp2
          go_meet
          case rel => exact ⟨_, ((t524 != t525)), (by first | rfl | (simp; done) | (simp [*]; done)), H', ⟨by first | omega | exact Nat.le_refl _⟩, ⟨by refine kS_ ?_; exact Kd.S_mono HO502.out (fun _ hk => hk.2)⟩, ⟨by refine kS_ ?_; exact Kd.S_mono HO509.out (fun _ hk => hk.2)⟩, ⟨by refine kR_ ?_; exact Kd.R_mono HO496.out (fun _ hk => hk.1.1)⟩, ⟨by refine kR_ ?_; exact Kd.R_mono HO499.out (fun _ hk => hk.1.1)⟩, ⟨by refine bk_ ?_; exact BK506.out⟩, ⟨bw1_ HB.out GE506.out⟩⟩
         ·replace c22 := Bool.eq_false_iff.mpr c22
          subst c22
          rw [if_neg (show ¬ (false = true) by decide)] at H
          exact absurd H (by simp)
        ·rw [if_neg c18] at H
         exact absurd H (by simp)
       ·rw [if_neg c17] at H
        exact absurd H (by simp)
      ·rw [if_neg c16] at H
       exact absurd H (by simp)
     ·rw [if_neg c15] at H
      exact absurd H (by simp)
    ·rw [if_neg c14] at H
     exact absurd H (by simp)
   case rest =>
    clear HC6
    (try clear q516 q515 p516 p515 hx516_0 hx515_0 c27 c26 c22 c18 c17 c16 c15 c14 hx5 q5 p5 c5 c4 p2 c2 c1)
    obtain ⟨kq, x120_5, rfl, HA, HJ5, HO_4, HO_8, HO_507001, HO_507002, BK506, HB⟩ := hcut
    cases kq with
    | zero => exact absurd HA.out (by simp [laws_FnWorn.j0])
    | succ kj5 =>
     have H := HA.out
     clear HA
     simp only [laws_FnWorn.j0] at H
     by_cases c33 : x120_5 = true
     ·subst c33
      rw [if_pos rfl] at H
      exact absurd H (by simp)
     ·replace c33 := Bool.eq_false_iff.mpr c33
      subst c33
      rw [if_neg (show ¬ (false = true) by decide)] at H
      by_cases c34 : 0 ≤ t503
      ·rw [if_pos c34] at H
       have c34b0 := dt_ c34
       clear c34
       by_cases c35 : t503 < (t500.length : Int)
       ·rw [if_pos c35] at H
        have c35b0 := dt_ c35
        clear c35
        by_cases c36 : 0 ≤ t504
        ·rw [if_pos c36] at H
         have c36b0 := dt_ c36
         clear c36
         by_cases c37 : t504 < ((rd_L2 t500 t503).length : Int)
         ·rw [if_pos c37] at H
          have c37b0 := dt_ c37
          clear c37
          by_cases c38 : t503 < (t507.length : Int)
          ·rw [if_pos c38] at H
           have c38b0 := dt_ c38
           clear c38
           by_cases c39 : t504 < ((rd_L2 t507 t503).length : Int)
           ·rw [if_pos c39] at H
            have c39b0 := dt_ c39
            clear c39
            by_cases c40 : 0 ≤ ((rd_T30 (rd_L2 t500 t503) t504).f0)
            ·rw [if_pos c40] at H
             have c40b0 := dt_ c40
             clear c40
             by_cases c41 : ((rd_T30 (rd_L2 t500 t503) t504).f0) < (t497.length : Int)
             ·rw [if_pos c41] at H
              have c41b0 := dt_ c41
              clear c41
              by_cases c42 : ((rd_T30 (rd_L2 t500 t503) t504).f1) = (rd t497 ((rd_T30 (rd_L2 t500 t503) t504).f0))
              ·rw [if_pos c42] at H
               have c42b0 := beq_iff_eq.mpr c42
               have c42b1 := bne_eq_false_iff_eq.mpr c42
               clear c42
               by_cases c43 : ((rd_T30 (rd_L2 t507 t503) t504).f0) = ((rd_T30 (rd_L2 t500 t503) t504).f0)
               ·rw [if_pos c43] at H
                have c43b0 := beq_iff_eq.mpr c43
                have c43b1 := bne_eq_false_iff_eq.mpr c43
                clear c43
                by_cases c44 : 0 ≤ t505
                ·rw [if_pos c44] at H
                 have c44b0 := eq_true c44
                 have c44b1 := dt_ c44
                 clear c44
                 obtain ⟨ji45, hji45⟩ : ∃ j_ : Int, (shl .i64 1 t505) = j_ := ⟨_, rfl⟩
                 replace H : (if ((rd_T30 (rd_L2 t507 t503) t504).f1) = (wrap64 (((rd_T30 (rd_L2 t500 t503) t504).f1) - (ji45))) then ((impl_CountWorn.f kj5 t493 t494 t497 t507).bind fun t533 => ((impl_CountWorn.f kj5 t493 t494 t497 t500).bind fun t534 => (some (t533 == (wrap64 (t534 + 1)))))) else (none)) = some r := by first | (rw [hji45] at H; exact H) | (simp only [hji45] at H ⊢; exact H)
                 have hji45_ : (IntKind.i64.wrap (1 * 2 ^ min t505.toNat 64)) = ji45 := hji45
                 have hji45z : t505 ≤ 64 → (IntKind.i64.wrap (1 * 2 ^ t505.toNat)) = ji45 := shl_small hji45
                 have hji45u : (IntKind.i64.wrap (2 ^ min t505.toNat 64)) = ji45 := by have h_ := hji45_; rw [Int.one_mul] at h_; exact h_
                 have hji45v : t505 ≤ 64 → (IntKind.i64.wrap (2 ^ t505.toNat)) = ji45 := fun hle_ => by have h_ := hji45z hle_; rw [Int.one_mul] at h_; exact h_
                 have hji45y : (wrap64 (1 * 2 ^ min t505.toNat 64)) = ji45 := (i64_w _).symm.trans hji45_
                 have hji45x : t505 ≤ 64 → (wrap64 (1 * 2 ^ t505.toNat)) = ji45 := fun h_ => (i64_w _).symm.trans (hji45z h_)
                 by_cases c46 : ((rd_T30 (rd_L2 t507 t503) t504).f1) = (wrap64 (((rd_T30 (rd_L2 t500 t503) t504).f1) - (ji45)))
                 ·rw [if_pos c46] at H
                  have c46b0 := beq_iff_eq.mpr c46
                  have c46b1 := bne_eq_false_iff_eq.mpr c46
                  clear c46
                  replace H := bs_ H
                  obtain ⟨t533, A470, H⟩ := H
                  (try dsimp only at H)
                  have A47 := M_ A470
                  clear A470
                  replace H := bs_ H
                  obtain ⟨t534, A480, H⟩ := H
                  (try dsimp only at H)
                  have A48 := M_ A480
                  clear A480
                  obtain rfl := Option.some.inj H
                  have p526 : 0 ≤ (t503 : Int) := od_ as_
                  have q526 : t503 < (t500.length : Int) := od_ as_
                  obtain ⟨ad526, A526_0, c526_0, e526, hx526_0, hl526_0, hi526_0⟩ := at_L2 (Kd.S_reads' HO_4.out).2.2 t503 p526 q526
                  cases e526
                  obtain ⟨ce526, hce526, hMe526, hcc526⟩ := Kd.S_get HO_4.out [] t503 p526 (by first | exact q526 | exact od_ as_ | (have e_ := (Kd.S_reads' HO_4.out).1; omega))
                  obtain ⟨ve526_0, rfl, ge526_0⟩ := hMe526
                  have hv526_0 := hcc526 0 _ rfl
                  rw [Nat.add_zero, show ((Kd.slice 30 k30)).sz = 1 from rfl, Nat.mul_one] at hv526_0
                  replace hv526_0 := Option.some.inj (hv526_0.symm.trans hx526_0)
                  rw [hv526_0] at ge526_0
                  have HL526_0 := M_ (show Kd.R k30 30 _ _ _ _ (rd_L2 t500 t503) from ge526_0)
                  clear hce526 hcc526 ge526_0 hv526_0
                  have HR526_0 := M_ hi526_0
                  have HC526_0 := M_ hl526_0
                  clear hi526_0 hl526_0
                  replace p526 := eq_true p526
                  replace q526 := eq_true q526
                  have p527 : 0 ≤ (t504 : Int) := od_ as_
                  have q527 : t504 < ((rd_L2 t500 t503).length : Int) := od_ as_
                  obtain ⟨ad527, e527, hx527_0, hx527_1⟩ := at_T30 (kE_ HR526_0.out) t504 p527 q527
                  cases e527
                  replace p527 := eq_true p527
                  replace q527 := eq_true q527
                  try go_wp2_with (first | ((with_reducible refine gate_dst (N := 10) rfl ?_); (try (refine gate_guard (by rfl) ?_; dsimp only)); refine be_ 10 #[.int .i64 0, .int .i64 0] 30 ?_; intro gb528 hg w49 hbox hb; have z_ := t10_ (sB_ (Kd.S_elderB (kS_ HO_4.out) gb528 (Nat.le_of_eq hg.symm)) hb) (sB_ (Kd.S_elderB (kS_ HO_8.out) gb528 (Nat.le_of_eq hg.symm)) hb) (rB_ (kR_ HO_507001.out) hb) (rB_ (kR_ HO_507002.out) hb) (rB_ (Kd.R_elderB (kR_ HL526_0.out) gb528 (Nat.le_of_eq hg.symm)) hb) (bB_ (bk_ BK506.out) hb) (bS_ (bw1_ HB.out GE506.out) hb) hbox (gv_ hg (bw1_ HB.out GE506.out) : w.heap.size ≤ gb528) (by rw [hg]; exact Nat.ne_of_lt (blk_lt (bk_ BK506.out)) : gb506 ≠ gb528); (try clear HL526_0 HO_507002 HO_507001 HO_8 HO_4); clear BK506; (try clear HR526_0); clear HB; obtain ⟨HO_4, HO_8, HO_507001, HO_507002, HL526_0, BK506, HB, BK528, GE528, NB506_528⟩ := z_; have NB528_506 := M_ NB506_528.out.symm; clear hb hbox hg; have hnb50 := NB528_506.out; have hnc50 := NB506_528.out; have hcz51_0 := cz_ BK528.out 0 (.int .i64 0); have hcz51_1 := cz_ BK528.out 1 (.int .i64 0); have hfz51_0 := fz_ BK528.out 0; have hfz51_1 := fz_ BK528.out 1) | ((with_reducible refine gate_store (t := 30) (p := 10) rfl ?_); refine store_event (t := 30) (p := 10) (v := ?vo_w52) (w1 := ((w49.setCell ⟨gb528, 0, none⟩ (.int .i64 ((rd_T30 (rd_L2 t500 t503) t504).f0))).setCell ⟨gb528, 1, none⟩ (.int .i64 ((rd_T30 (rd_L2 t500 t503) t504).f1)))) ?hg ?ho ?hn ?hr ?_; (case ho => rfl); (case hg => rfl); (case hn => rfl); (case hr => first | (go_simp; done) | (go_simp; rfl)); intro w52 hw; have n0_ : Aside0 (Kd.S (Kd.slice 30 k30) 34 w52 w.heap.size (fun k_ => some k_ ≠ (v508 : Value).ownBlock ∧ k_ ≠ gb528) (.slice (some ad526) t500.length co12) t500) := ⟨(by rw [hw]; exact (by refine kS_ ?_; exact Kd.S_mono (Kd.S_far (p := ⟨gb528, 1, none⟩) (Kd.S_far (p := ⟨gb528, 0, none⟩) (Kd.S_mono HO_4.out (fun k_ hk => (⟨hk, hk.2⟩ : _ ∧ k_ ≠ gb528))) (fun _ hk => hk.2) (.int .i64 ((rd_T30 (rd_L2 t500 t503) t504).f0))) (fun _ hk => hk.2) (.int .i64 ((rd_T30 (rd_L2 t500 t503) t504).f1))) (fun _ hk => ⟨hk.1.1, hk.1.2⟩)))⟩; have n1_ : Aside0 (Kd.S (Kd.slice 30 k30) 34 w52 w.heap.size (fun k_ => some k_ ≠ (.slice (some ad526) t500.length co12 : Value).ownBlock ∧ k_ ≠ gb528) v508 t507) := ⟨(by rw [hw]; exact (by refine kS_ ?_; exact Kd.S_mono (Kd.S_far (p := ⟨gb528, 1, none⟩) (Kd.S_far (p := ⟨gb528, 0, none⟩) (Kd.S_mono HO_8.out (fun k_ hk => (⟨hk, hk.2⟩ : _ ∧ k_ ≠ gb528))) (fun _ hk => hk.2) (.int .i64 ((rd_T30 (rd_L2 t500 t503) t504).f0))) (fun _ hk => hk.2) (.int .i64 ((rd_T30 (rd_L2 t500 t503) t504).f1))) (fun _ hk => ⟨hk.1.1, hk.1.2⟩)))⟩; have n2_ : Aside0 (Kd.R (Kd.int .i64) 3 w52 w.heap.size (fun k_ => some k_ ≠ (.slice Ao11 t497.length co11 : Value).ownBlock) (.slice Ao10 t494.length co10) t494) := ⟨(by rw [hw]; exact (by refine kR_ ?_; exact Kd.R_mono (Kd.R_far (p := ⟨gb528, 1, none⟩) (Kd.R_far (p := ⟨gb528, 0, none⟩) (Kd.R_types HO_507001.out BK528.out (by decide)) (fun _ hk => hk.2) (.int .i64 ((rd_T30 (rd_L2 t500 t503) t504).f0))) (fun _ hk => hk.2) (.int .i64 ((rd_T30 (rd_L2 t500 t503) t504).f1))) (fun _ hk => hk.1)))⟩; have n3_ : Aside0 (Kd.R (Kd.int .i64) 3 w52 w.heap.size (fun k_ => some k_ ≠ (.slice Ao10 t494.length co10 : Value).ownBlock) (.slice Ao11 t497.length co11) t497) := ⟨(by rw [hw]; exact (by refine kR_ ?_; exact Kd.R_mono (Kd.R_far (p := ⟨gb528, 1, none⟩) (Kd.R_far (p := ⟨gb528, 0, none⟩) (Kd.R_types HO_507002.out BK528.out (by decide)) (fun _ hk => hk.2) (.int .i64 ((rd_T30 (rd_L2 t500 t503) t504).f0))) (fun _ hk => hk.2) (.int .i64 ((rd_T30 (rd_L2 t500 t503) t504).f1))) (fun _ hk => hk.1)))⟩; have n4_ : Aside0 (Kd.R k30 30 w52 w.heap.size (fun k_ => some k_ ≠ (.slice (some ad526) t500.length co12 : Value).ownBlock ∧ some k_ ≠ (v508 : Value).ownBlock ∧ k_ ≠ gb528) (.slice (some ad527) (rd_L2 t500 t503).length c526_0) (rd_L2 t500 t503)) := ⟨(by rw [hw]; exact (by refine kR_ ?_; exact Kd.R_mono (Kd.R_far (p := ⟨gb528, 1, none⟩) (Kd.R_far (p := ⟨gb528, 0, none⟩) (Kd.R_mono HL526_0.out (fun k_ hk => (⟨hk, hk.2⟩ : _ ∧ k_ ≠ gb528))) (fun _ hk => hk.2) (.int .i64 ((rd_T30 (rd_L2 t500 t503) t504).f0))) (fun _ hk => hk.2) (.int .i64 ((rd_T30 (rd_L2 t500 t503) t504).f1))) (fun _ hk => ⟨hk.1.1.2, ⟨hk.1.1.1, hk.1.2⟩⟩)))⟩; have n5_ : Aside0 (w52.heap[gb506]? = some (.cells #[.string t493, .slice Ao10 t494.length co10, .slice Ao11 t497.length co11] 25 (0, 0))) := ⟨(by rw [hw]; exact (by refine bk_ ?_; refine blk_far ?_ NB506_528.out _; refine bk_ ?_; refine blk_far ?_ NB506_528.out _; refine bk_ ?_; exact BK506.out))⟩; have n6_ : Aside0 (w52.heap[gb528]? = some (.cells #[.int .i64 ((rd_T30 (rd_L2 t500 t503) t504).f0), .int .i64 ((rd_T30 (rd_L2 t500 t503) t504).f1)] 30 (0, 0))) := ⟨(by rw [hw]; exact (by refine bk_ ?_; refine blk_put (cs := #[.int .i64 ((rd_T30 (rd_L2 t500 t503) t504).f0), .int .i64 0]) ?_ 1 _ rfl; refine bk_ ?_; refine blk_put (cs := #[.int .i64 0, .int .i64 0]) ?_ 0 _ rfl; refine bk_ ?_; exact BK528.out))⟩; have n7_ : Aside0 (Below w.heap.size w w52) := ⟨(by rw [hw]; exact (bw2_ HB.out GE506.out GE528.out))⟩; clear hw; (try clear HL526_0 HO_507002 HO_507001 HO_8 HO_4); clear HB BK528 BK506; have HO_4 := n0_; have HO_8 := n1_; have HO_507001 := n2_; have HO_507002 := n3_; have HL526_0 := n4_; have BK506 := n5_; have BK528 := n6_; have HB := n7_; clear n0_ n1_ n2_ n3_ n4_ n5_ n6_ n7_; obtain ⟨Ao53, co53, eo53⟩ := Kd.S_slice HO_8.out; subst eo53; have p529 : 0 ≤ (t503 : Int) := od_ as_; have q529 : t503 < (t507.length : Int) := od_ as_; obtain ⟨ad529, A529_0, c529_0, e529, hx529_0, hl529_0, hi529_0⟩ := at_L2 (Kd.S_reads' HO_8.out).2.2 t503 p529 q529; cases e529; obtain ⟨ce529, hce529, hMe529, hcc529⟩ := Kd.S_get HO_8.out [] t503 p529 (by first | exact q529 | exact od_ as_ | (have e_ := (Kd.S_reads' HO_8.out).1; omega)); obtain ⟨ve529_0, rfl, ge529_0⟩ := hMe529; have hv529_0 := hcc529 0 _ rfl; rw [Nat.add_zero, show ((Kd.slice 30 k30)).sz = 1 from rfl, Nat.mul_one] at hv529_0; replace hv529_0 := Option.some.inj (hv529_0.symm.trans hx529_0); rw [hv529_0] at ge529_0; have HL529_0 := M_ (show Kd.R k30 30 _ _ _ _ (rd_L2 t507 t503) from ge529_0); clear hce529 hcc529 ge529_0 hv529_0; have HR529_0 := M_ hi529_0; have HC529_0 := M_ hl529_0; clear hi529_0 hl529_0; replace p529 := eq_true p529; replace q529 := eq_true q529; have p530 : 0 ≤ (t504 : Int) := od_ as_; have q530 : t504 < ((rd_L2 t507 t503).length : Int) := od_ as_; obtain ⟨ad530, e530, hx530_0, hx530_1⟩ := at_T30 (kE_ HR529_0.out) t504 p530 q530; cases e530; replace p530 := eq_true p530; replace q530 := eq_true q530) | ((with_reducible refine gate_dst (N := 11) rfl ?_); (try (refine gate_guard (by rfl) ?_; dsimp only)); refine be_ 11 #[.int .i64 0, .int .i64 0] 30 ?_; intro gb531 hg w54 hbox hb; have z_ := t13_ (sB_ (Kd.S_elderB (kS_ HO_4.out) gb531 (Nat.le_of_eq hg.symm)) hb) (sB_ (Kd.S_elderB (kS_ HO_8.out) gb531 (Nat.le_of_eq hg.symm)) hb) (rB_ (kR_ HO_507001.out) hb) (rB_ (kR_ HO_507002.out) hb) (rB_ (Kd.R_elderB (kR_ HL526_0.out) gb531 (Nat.le_of_eq hg.symm)) hb) (rB_ (Kd.R_elderB (kR_ HL529_0.out) gb531 (Nat.le_of_eq hg.symm)) hb) (bB_ (bk_ BK506.out) hb) (bB_ (bk_ BK528.out) hb) (bS_ (bw2_ HB.out GE506.out GE528.out) hb) hbox (gv_ hg (bw2_ HB.out GE506.out GE528.out) : w.heap.size ≤ gb531) (by rw [hg]; exact Nat.ne_of_lt (blk_lt (bk_ BK506.out)) : gb506 ≠ gb531) (by rw [hg]; exact Nat.ne_of_lt (blk_lt (bk_ BK528.out)) : gb528 ≠ gb531); (try clear HL529_0 HL526_0 HO_507002 HO_507001 HO_8 HO_4); clear BK506; (try clear HR526_0); clear BK528; (try clear HR529_0); clear HB; obtain ⟨HO_4, HO_8, HO_507001, HO_507002, HL526_0, HL529_0, BK506, BK528, HB, BK531, GE531, NB506_531, NB528_531⟩ := z_; have NB531_506 := M_ NB506_531.out.symm; have NB531_528 := M_ NB528_531.out.symm; clear hb hbox hg; have hnb55 := NB531_506.out; have hnc55 := NB506_531.out; have hnb56 := NB531_528.out; have hnc56 := NB528_531.out; have hcz57_0 := cz_ BK531.out 0 (.int .i64 0); have hcz57_1 := cz_ BK531.out 1 (.int .i64 0); have hfz57_0 := fz_ BK531.out 0; have hfz57_1 := fz_ BK531.out 1))
                  have n0_ : Aside0 (Kd.S (Kd.slice 30 k30) 34 ((w54.setCell ⟨gb531, 0, none⟩ (.int .i64 ((rd_T30 (rd_L2 t507 t503) t504).f0))).setCell ⟨gb531, 1, none⟩ (.int .i64 ((rd_T30 (rd_L2 t507 t503) t504).f1))) w.heap.size (fun k_ => some k_ ≠ (.slice (some ad529) t507.length co53 : Value).ownBlock ∧ k_ ≠ gb528 ∧ k_ ≠ gb531) (.slice (some ad526) t500.length co12) t500) := ⟨by refine kS_ ?_; exact Kd.S_mono (Kd.S_far (p := ⟨gb531, 1, none⟩) (Kd.S_far (p := ⟨gb531, 0, none⟩) (Kd.S_mono HO_4.out (fun k_ hk => (⟨hk, hk.2⟩ : _ ∧ k_ ≠ gb531))) (fun _ hk => hk.2) (.int .i64 ((rd_T30 (rd_L2 t507 t503) t504).f0))) (fun _ hk => hk.2) (.int .i64 ((rd_T30 (rd_L2 t507 t503) t504).f1))) (fun _ hk => ⟨hk.1.1.1, ⟨hk.1.1.2, hk.1.2⟩⟩)⟩
                  have n1_ : Aside0 (Kd.S (Kd.slice 30 k30) 34 ((w54.setCell ⟨gb531, 0, none⟩ (.int .i64 ((rd_T30 (rd_L2 t507 t503) t504).f0))).setCell ⟨gb531, 1, none⟩ (.int .i64 ((rd_T30 (rd_L2 t507 t503) t504).f1))) w.heap.size (fun k_ => some k_ ≠ (.slice (some ad526) t500.length co12 : Value).ownBlock ∧ k_ ≠ gb528 ∧ k_ ≠ gb531) (.slice (some ad529) t507.length co53) t507) := ⟨by refine kS_ ?_; exact Kd.S_mono (Kd.S_far (p := ⟨gb531, 1, none⟩) (Kd.S_far (p := ⟨gb531, 0, none⟩) (Kd.S_mono HO_8.out (fun k_ hk => (⟨hk, hk.2⟩ : _ ∧ k_ ≠ gb531))) (fun _ hk => hk.2) (.int .i64 ((rd_T30 (rd_L2 t507 t503) t504).f0))) (fun _ hk => hk.2) (.int .i64 ((rd_T30 (rd_L2 t507 t503) t504).f1))) (fun _ hk => ⟨hk.1.1.1, ⟨hk.1.1.2, hk.1.2⟩⟩)⟩
                  have n2_ : Aside0 (Kd.R (Kd.int .i64) 3 ((w54.setCell ⟨gb531, 0, none⟩ (.int .i64 ((rd_T30 (rd_L2 t507 t503) t504).f0))).setCell ⟨gb531, 1, none⟩ (.int .i64 ((rd_T30 (rd_L2 t507 t503) t504).f1))) w.heap.size (fun k_ => some k_ ≠ (.slice Ao11 t497.length co11 : Value).ownBlock) (.slice Ao10 t494.length co10) t494) := ⟨by refine kR_ ?_; exact Kd.R_mono (Kd.R_far (p := ⟨gb531, 1, none⟩) (Kd.R_far (p := ⟨gb531, 0, none⟩) (Kd.R_types HO_507001.out BK531.out (by decide)) (fun _ hk => hk.2) (.int .i64 ((rd_T30 (rd_L2 t507 t503) t504).f0))) (fun _ hk => hk.2) (.int .i64 ((rd_T30 (rd_L2 t507 t503) t504).f1))) (fun _ hk => hk.1)⟩
                  have n3_ : Aside0 (Kd.R (Kd.int .i64) 3 ((w54.setCell ⟨gb531, 0, none⟩ (.int .i64 ((rd_T30 (rd_L2 t507 t503) t504).f0))).setCell ⟨gb531, 1, none⟩ (.int .i64 ((rd_T30 (rd_L2 t507 t503) t504).f1))) w.heap.size (fun k_ => some k_ ≠ (.slice Ao10 t494.length co10 : Value).ownBlock) (.slice Ao11 t497.length co11) t497) := ⟨by refine kR_ ?_; exact Kd.R_mono (Kd.R_far (p := ⟨gb531, 1, none⟩) (Kd.R_far (p := ⟨gb531, 0, none⟩) (Kd.R_types HO_507002.out BK531.out (by decide)) (fun _ hk => hk.2) (.int .i64 ((rd_T30 (rd_L2 t507 t503) t504).f0))) (fun _ hk => hk.2) (.int .i64 ((rd_T30 (rd_L2 t507 t503) t504).f1))) (fun _ hk => hk.1)⟩
                  have n4_ : Aside0 (Kd.R k30 30 ((w54.setCell ⟨gb531, 0, none⟩ (.int .i64 ((rd_T30 (rd_L2 t507 t503) t504).f0))).setCell ⟨gb531, 1, none⟩ (.int .i64 ((rd_T30 (rd_L2 t507 t503) t504).f1))) w.heap.size (fun k_ => some k_ ≠ (.slice (some ad526) t500.length co12 : Value).ownBlock ∧ some k_ ≠ (.slice (some ad529) t507.length co53 : Value).ownBlock ∧ k_ ≠ gb528 ∧ k_ ≠ gb531) (.slice (some ad527) (rd_L2 t500 t503).length c526_0) (rd_L2 t500 t503)) := ⟨by refine kR_ ?_; exact Kd.R_mono (Kd.R_far (p := ⟨gb531, 1, none⟩) (Kd.R_far (p := ⟨gb531, 0, none⟩) (Kd.R_mono HL526_0.out (fun k_ hk => (⟨hk, hk.2⟩ : _ ∧ k_ ≠ gb531))) (fun _ hk => hk.2) (.int .i64 ((rd_T30 (rd_L2 t507 t503) t504).f0))) (fun _ hk => hk.2) (.int .i64 ((rd_T30 (rd_L2 t507 t503) t504).f1))) (fun _ hk => ⟨hk.1.1.1, ⟨hk.1.1.2.1, ⟨hk.1.1.2.2, hk.1.2⟩⟩⟩)⟩
                  have n5_ : Aside0 (Kd.R k30 30 ((w54.setCell ⟨gb531, 0, none⟩ (.int .i64 ((rd_T30 (rd_L2 t507 t503) t504).f0))).setCell ⟨gb531, 1, none⟩ (.int .i64 ((rd_T30 (rd_L2 t507 t503) t504).f1))) w.heap.size (fun k_ => some k_ ≠ (.slice (some ad526) t500.length co12 : Value).ownBlock ∧ some k_ ≠ (.slice (some ad529) t507.length co53 : Value).ownBlock ∧ k_ ≠ gb528 ∧ k_ ≠ gb531) (.slice (some ad530) (rd_L2 t507 t503).length c529_0) (rd_L2 t507 t503)) := ⟨by refine kR_ ?_; exact Kd.R_mono (Kd.R_far (p := ⟨gb531, 1, none⟩) (Kd.R_far (p := ⟨gb531, 0, none⟩) (Kd.R_mono HL529_0.out (fun k_ hk => (⟨hk, hk.2⟩ : _ ∧ k_ ≠ gb531))) (fun _ hk => hk.2) (.int .i64 ((rd_T30 (rd_L2 t507 t503) t504).f0))) (fun _ hk => hk.2) (.int .i64 ((rd_T30 (rd_L2 t507 t503) t504).f1))) (fun _ hk => ⟨hk.1.1.1.1, ⟨hk.1.1.2, ⟨hk.1.1.1.2, hk.1.2⟩⟩⟩)⟩
                  have n6_ : Aside0 (((w54.setCell ⟨gb531, 0, none⟩ (.int .i64 ((rd_T30 (rd_L2 t507 t503) t504).f0))).setCell ⟨gb531, 1, none⟩ (.int .i64 ((rd_T30 (rd_L2 t507 t503) t504).f1))).heap[gb506]? = some (.cells #[.string t493, .slice Ao10 t494.length co10, .slice Ao11 t497.length co11] 25 (0, 0))) := ⟨by refine bk_ ?_; refine blk_far ?_ NB506_531.out _; refine bk_ ?_; refine blk_far ?_ NB506_531.out _; refine bk_ ?_; exact BK506.out⟩
                  have n7_ : Aside0 (((w54.setCell ⟨gb531, 0, none⟩ (.int .i64 ((rd_T30 (rd_L2 t507 t503) t504).f0))).setCell ⟨gb531, 1, none⟩ (.int .i64 ((rd_T30 (rd_L2 t507 t503) t504).f1))).heap[gb528]? = some (.cells #[.int .i64 ((rd_T30 (rd_L2 t500 t503) t504).f0), .int .i64 ((rd_T30 (rd_L2 t500 t503) t504).f1)] 30 (0, 0))) := ⟨by refine bk_ ?_; refine blk_far ?_ NB528_531.out _; refine bk_ ?_; refine blk_far ?_ NB528_531.out _; refine bk_ ?_; exact BK528.out⟩
                  have n8_ : Aside0 (((w54.setCell ⟨gb531, 0, none⟩ (.int .i64 ((rd_T30 (rd_L2 t507 t503) t504).f0))).setCell ⟨gb531, 1, none⟩ (.int .i64 ((rd_T30 (rd_L2 t507 t503) t504).f1))).heap[gb531]? = some (.cells #[.int .i64 ((rd_T30 (rd_L2 t507 t503) t504).f0), .int .i64 ((rd_T30 (rd_L2 t507 t503) t504).f1)] 30 (0, 0))) := ⟨by refine bk_ ?_; refine blk_put (cs := #[.int .i64 ((rd_T30 (rd_L2 t507 t503) t504).f0), .int .i64 0]) ?_ 1 _ rfl; refine bk_ ?_; refine blk_put (cs := #[.int .i64 0, .int .i64 0]) ?_ 0 _ rfl; refine bk_ ?_; exact BK531.out⟩
                  have n9_ : Aside0 (Below w.heap.size w ((w54.setCell ⟨gb531, 0, none⟩ (.int .i64 ((rd_T30 (rd_L2 t507 t503) t504).f0))).setCell ⟨gb531, 1, none⟩ (.int .i64 ((rd_T30 (rd_L2 t507 t503) t504).f1)))) := ⟨bw3_ HB.out GE506.out GE528.out GE531.out⟩
                  (try clear HB BK531 BK528 BK506 HL529_0 HL526_0 HO_507002 HO_507001 HO_8 HO_4)
                  generalize ((w54.setCell ⟨gb531, 0, none⟩ (.int .i64 ((rd_T30 (rd_L2 t507 t503) t504).f0))).setCell ⟨gb531, 1, none⟩ (.int .i64 ((rd_T30 (rd_L2 t507 t503) t504).f1))) = w58 at n0_ n1_ n2_ n3_ n4_ n5_ n6_ n7_ n8_ n9_ ⊢
                  have HO_4 := n0_
                  have HO_8 := n1_
                  have HO_507001 := n2_
                  have HO_507002 := n3_
                  have HL526_0 := n4_
                  have HL529_0 := n5_
                  have BK506 := n6_
                  have BK528 := n7_
                  have BK531 := n8_
                  have HB := n9_
                  clear n0_ n1_ n2_ n3_ n4_ n5_ n6_ n7_ n8_ n9_
                  have z_ := t8_ (Kd.S_drew HO_4.out) (Kd.S_drew HO_8.out) (Kd.R_drew HO_507001.out) (Kd.R_drew HO_507002.out) (blk_drew BK506.out) (blk_drew BK528.out) (blk_drew BK531.out) (below_drew1 HB.out)
                  (try clear HL529_0 HL526_0 HO_507002 HO_507001 HO_8 HO_4)
                  clear HB BK531 BK528 BK506
                  obtain ⟨HO_4, HO_8, HO_507001, HO_507002, BK506, BK528, BK531, HB⟩ := z_
                  have p532 : 0 ≤ (((rd_T30 (rd_L2 t500 t503) t504).f0) : Int) := od_ as_
                  have q532 : ((rd_T30 (rd_L2 t500 t503) t504).f0) < (t497.length : Int) := od_ as_
                  obtain ⟨ad532, e532, hx532_0⟩ := Kd.at_int (Kd.R_reads' HO_507002.out).2.2 ((rd_T30 (rd_L2 t500 t503) t504).f0) p532 q532
                  cases e532
                  replace p532 := eq_true p532
                  replace q532 := eq_true q532
                  refine start_ (n := 9) (S := fun w' => w'.cell? ⟨gb528, 0, none⟩ = some (.int .i64 ((rd_T30 (rd_L2 t500 t503) t504).f0)) ∧ w'.cell? ⟨gb528, 1, none⟩ = some (.int .i64 ((rd_T30 (rd_L2 t500 t503) t504).f1)) ∧ w'.cell? ⟨gb506, 0, none⟩ = some (.string t493) ∧ w'.cell? ⟨gb506, 1, none⟩ = some (.slice Ao10 t494.length co10) ∧ w'.cell? ⟨gb506, 2, none⟩ = some (.slice (some ad532) t497.length co11) ∧ w'.cell? (ad532.add (((rd_T30 (rd_L2 t500 t503) t504).f0)).toNat) = some (.int .i64 (rd t497 ((rd_T30 (rd_L2 t500 t503) t504).f0)))) (ds := []) (mk_ 9 0) (by kernel_rfl) rfl rfl ⟨(blk_cell BK528.out 0).trans rfl, (blk_cell BK528.out 1).trans rfl, (blk_cell BK506.out 0).trans rfl, (blk_cell BK506.out 1).trans rfl, (blk_cell BK506.out 2).trans rfl, hx532_0⟩ (fun hHeld => ?_); refine with_tabW laws_FnWorn.tab12 laws_FnWorn.bits12 (fun HT_ HW_ => ?_)
                  generalize w58.drew = w59 at HO_4 HO_8 HO_507001 HO_507002 BK506 BK528 BK531 HB hx532_0 hHeld ⊢
                  refine pu_ 0 (some 135) (mk_ 9 1) HT_.out ?_
                  refine pu_ 2 (some 137) (mk_ 9 5) HT_.out ?_
                  refine pu_ 4 (some 139) (mk_ 9 21) HT_.out ?_
                  refine ta_ 1 (some 136) (mk_ 9 23) HT_.out HW_.out hHeld (hy := by rintro w' ⟨s0, s1, s2, s3, s4, s5⟩; go_simp; with_reducible rfl) (h := ?_)
                  refine ta_ 3 (some 138) (mk_ 9 31) HT_.out HW_.out hHeld (hy := by rintro w' ⟨s0, s1, s2, s3, s4, s5⟩; go_simp; with_reducible rfl) (h := ?_)
                  refine ta_ 5 (some 140) (mk_ 9 63) HT_.out HW_.out hHeld (hy := by rintro w' ⟨s0, s1, s2, s3, s4, s5⟩; go_simp; with_reducible rfl) (h := ?_)
                  refine pu_ 6 (some 141) (mk_ 9 127) HT_.out ?_
                  refine ta_ 7 (some 142) (mk_ 9 255) HT_.out HW_.out hHeld (hy := by rintro w' ⟨s0, s1, s2, s3, s4, s5⟩; go_simp; with_reducible rfl) (h := ?_)
                  refine pu_ 8 (some 143) (mk_ 9 511) HT_.out ?_
                  refine done_ (done_of HT_.out (by kernel_rfl)) ?_
                  try go_wp2
                  have z_ := t8_ (Kd.S_drew HO_4.out) (Kd.S_drew HO_8.out) (Kd.R_drew HO_507001.out) (Kd.R_drew HO_507002.out) (blk_drew BK506.out) (blk_drew BK528.out) (blk_drew BK531.out) (below_drew1 HB.out)
                  (try clear HL529_0 HL526_0 HO_507002 HO_507001 HO_8 HO_4)
                  clear HB BK531 BK528 BK506
                  obtain ⟨HO_4, HO_8, HO_507001, HO_507002, BK506, BK528, BK531, HB⟩ := z_
                  refine start_ (n := 27) (S := fun w' => w'.cell? ⟨gb531, 0, none⟩ = some (.int .i64 ((rd_T30 (rd_L2 t507 t503) t504).f0)) ∧ w'.cell? ⟨gb531, 1, none⟩ = some (.int .i64 ((rd_T30 (rd_L2 t507 t503) t504).f1)) ∧ w'.cell? ⟨gb528, 0, none⟩ = some (.int .i64 ((rd_T30 (rd_L2 t500 t503) t504).f0)) ∧ w'.cell? ⟨gb528, 1, none⟩ = some (.int .i64 ((rd_T30 (rd_L2 t500 t503) t504).f1)) ∧ w'.cell? ⟨gb506, 0, none⟩ = some (.string t493) ∧ w'.cell? ⟨gb506, 1, none⟩ = some (.slice Ao10 t494.length co10) ∧ w'.cell? ⟨gb506, 2, none⟩ = some (.slice (some ad532) t497.length co11)) (ds := []) (mk_ 27 0) (by kernel_rfl) rfl rfl ⟨(blk_cell BK531.out 0).trans rfl, (blk_cell BK531.out 1).trans rfl, (blk_cell BK528.out 0).trans rfl, (blk_cell BK528.out 1).trans rfl, (blk_cell BK506.out 0).trans rfl, (blk_cell BK506.out 1).trans rfl, (blk_cell BK506.out 2).trans rfl⟩ (fun hHeld => ?_); refine with_tabW laws_FnWorn.tab14 laws_FnWorn.bits14 (fun HT_ HW_ => ?_)
                  generalize w59.drew = w60 at HO_4 HO_8 HO_507001 HO_507002 BK506 BK528 BK531 HB hHeld ⊢
                  refine pu_ 0 (some 144) (mk_ 27 1) HT_.out ?_
                  refine pu_ 2 (some 146) (mk_ 27 5) HT_.out ?_
                  refine ta_ 1 (some 145) (mk_ 27 7) HT_.out HW_.out hHeld (hy := by rintro w' ⟨s0, s1, s2, s3, s4, s5, s6⟩; go_simp; with_reducible rfl) (h := ?_)
                  refine ta_ 3 (some 147) (mk_ 27 15) HT_.out HW_.out hHeld (hy := by rintro w' ⟨s0, s1, s2, s3, s4, s5, s6⟩; go_simp; with_reducible rfl) (h := ?_)
                  refine pu_ 4 (some 148) (mk_ 27 31) HT_.out ?_
                  refine pu_ 5 (some 149) (mk_ 27 63) HT_.out ?_
                  refine pu_ 6 (some 150) (mk_ 27 127) HT_.out ?_
                  refine pu_ 8 (some 152) (mk_ 27 383) HT_.out ?_
                  refine pu_ 10 (some 154) (mk_ 27 1407) HT_.out ?_
                  refine pu_ 11 (some 155) (mk_ 27 3455) HT_.out ?_
                  refine ta_ 7 (some 151) (mk_ 27 3583) HT_.out HW_.out hHeld (hy := by rintro w' ⟨s0, s1, s2, s3, s4, s5, s6⟩; go_simp; with_reducible rfl) (h := ?_)
                  refine ta_ 9 (some 153) (mk_ 27 4095) HT_.out HW_.out hHeld (hy := by rintro w' ⟨s0, s1, s2, s3, s4, s5, s6⟩; go_simp; with_reducible rfl) (h := ?_)
                  refine pu_ 12 (some 156) (mk_ 27 8191) HT_.out ?_
                  refine pu_ 13 (some 157) (mk_ 27 16383) HT_.out ?_
                  refine pu_ 14 (some 158) (mk_ 27 32767) HT_.out ?_
                  refine pu_ 15 (some 159) (mk_ 27 65535) HT_.out ?_
                  refine pu_ 17 (some 161) (mk_ 27 196607) HT_.out ?_
                  refine pu_ 20 (some 164) (mk_ 27 1245183) HT_.out ?_
                  refine pu_ 22 (some 166) (mk_ 27 5439487) HT_.out ?_
                  refine ta_ 16 (some 160) (mk_ 27 5505023) HT_.out HW_.out hHeld (hy := by rintro w' ⟨s0, s1, s2, s3, s4, s5, s6⟩; go_simp; with_reducible rfl) (h := ?_)
                  refine ta_ 19 (some 163) (mk_ 27 6029311) HT_.out HW_.out hHeld (hy := by rintro w' ⟨s0, s1, s2, s3, s4, s5, s6⟩; go_simp; with_reducible rfl) (h := ?_)
                  refine on_ 18 (some 162) (mk_ 27 6291455) HT_.out fun K hK => ?_
                  refine goes_ Try.func49 (by kernel_rfl) rfl #[.agg #[.string t493, .slice Ao10 t494.length co10, .slice (some ad532) t497.length co11], .slice (some ad529) t507.length co53] (by rfl) rfl rfl ar_ ?_
                  with_reducible refine (impl_CountWorn.calls kj5 t493 _ _ t494 _ _ t497 _ _ t507 t533 _ ?side1 ?side2 ?side3 ?side4 ?side5 ?side6 A47.out).mono ?_
                  (case side1 => exact kD_ (Kd.R_reads' HO_507001.out).2.2)
                  (case side2 => exact (Kd.R_reads' HO_507001.out).2.1)
                  (case side3 => exact kD_ (Kd.R_reads' HO_507002.out).2.2)
                  (case side4 => exact (Kd.R_reads' HO_507002.out).2.1)
                  (case side5 => exact kD_ (Kd.S_reads' HO_8.out).2.2)
                  (case side6 => exact (Kd.S_reads' HO_8.out).2.1)
                  rintro e w61 ⟨rfl, hb⟩
                  refine ⟨_, rfl, ?_⟩
                  have z_ := t8_ (sB_ (kS_ HO_4.out) hb) (sB_ (kS_ HO_8.out) hb) (rB_ (kR_ HO_507001.out) hb) (rB_ (kR_ HO_507002.out) hb) (bB_ (bk_ BK506.out) hb) (bB_ (bk_ BK528.out) hb) (bB_ (bk_ BK531.out) hb) (bS_ (bw3_ HB.out GE506.out GE528.out GE531.out) hb)
                  (try clear HL529_0 HL526_0 HO_507002 HO_507001 HO_8 HO_4)
                  clear HB BK531 BK528 BK506
                  obtain ⟨HO_4, HO_8, HO_507001, HO_507002, BK506, BK528, BK531, HB⟩ := z_
                  (try clear hb)
                  refine hK.out _ _ ⟨(blk_cell BK531.out 0).trans rfl, (blk_cell BK531.out 1).trans rfl, (blk_cell BK528.out 0).trans rfl, (blk_cell BK528.out 1).trans rfl, (blk_cell BK506.out 0).trans rfl, (blk_cell BK506.out 1).trans rfl, (blk_cell BK506.out 2).trans rfl⟩ (fun hHeld => ?_)
                  clear hK K
                  refine norm_ (a' := ?_) ?_ ?_
                  rotate_left
                  ·show Act.put _ (some 162) _ = _
                   simp only [Act.put, lA_, lB_, lC_, i64_w, i32_w]
                   rfl
                  refine on_ 21 (some 165) (mk_ 27 8388607) HT_.out fun K hK => ?_
                  refine goes_ Try.func49 (by kernel_rfl) rfl #[.agg #[.string t493, .slice Ao10 t494.length co10, .slice (some ad532) t497.length co11], .slice (some ad526) t500.length co12] (by rfl) rfl rfl ar_ ?_
                  with_reducible refine (impl_CountWorn.calls kj5 t493 _ _ t494 _ _ t497 _ _ t500 t534 _ ?side1 ?side2 ?side3 ?side4 ?side5 ?side6 A48.out).mono ?_
                  (case side1 => exact kD_ (Kd.R_reads' HO_507001.out).2.2)
                  (case side2 => exact (Kd.R_reads' HO_507001.out).2.1)
                  (case side3 => exact kD_ (Kd.R_reads' HO_507002.out).2.2)
                  (case side4 => exact (Kd.R_reads' HO_507002.out).2.1)
                  (case side5 => exact kD_ (Kd.S_reads' HO_4.out).2.2)
                  (case side6 => exact (Kd.S_reads' HO_4.out).2.1)
                  rintro e w62 ⟨rfl, hb⟩
                  refine ⟨_, rfl, ?_⟩
                  have z_ := t8_ (sB_ (kS_ HO_4.out) hb) (sB_ (kS_ HO_8.out) hb) (rB_ (kR_ HO_507001.out) hb) (rB_ (kR_ HO_507002.out) hb) (bB_ (bk_ BK506.out) hb) (bB_ (bk_ BK528.out) hb) (bB_ (bk_ BK531.out) hb) (bS_ (bw3_ HB.out GE506.out GE528.out GE531.out) hb)
                  (try clear HL529_0 HL526_0 HO_507002 HO_507001 HO_8 HO_4)
                  clear HB BK531 BK528 BK506
                  obtain ⟨HO_4, HO_8, HO_507001, HO_507002, BK506, BK528, BK531, HB⟩ := z_
                  (try clear hb)
                  refine hK.out _ _ ⟨(blk_cell BK531.out 0).trans rfl, (blk_cell BK531.out 1).trans rfl, (blk_cell BK528.out 0).trans rfl, (blk_cell BK528.out 1).trans rfl, (blk_cell BK506.out 0).trans rfl, (blk_cell BK506.out 1).trans rfl, (blk_cell BK506.out 2).trans rfl⟩ (fun hHeld => ?_)
                  clear hK K
                  refine norm_ (a' := ?_) ?_ ?_
                  rotate_left
                  ·show Act.put _ (some 165) _ = _
                   simp only [Act.put, lA_, lB_, lC_, i64_w, i32_w]
                   rfl
                  refine pu_ 23 (some 167) (mk_ 27 16777215) HT_.out ?_
                  refine pu_ 24 (some 168) (mk_ 27 33554431) HT_.out ?_
                  refine pu_ 25 (some 169) (mk_ 27 67108863) HT_.out ?_
                  refine pu_ 26 (some 2) (mk_ 27 134217727) HT_.out ?_
                  refine done_ (done_of HT_.out (by kernel_rfl)) ?_
                  try go_wp2
                  go_ret
                  exact ⟨by first | rfl | (simp only [i64_w, i32_w]; rfl) | (simp only [i64_w, i32_w, wrap64_zero, Int.sub_zero, Int.add_zero, Int.mul_zero, Int.zero_mul]; rfl) | (simp [errW_none, errW_some] <;> rfl) | (simp only [← hji45]; first | rfl | (simp [errW_none, errW_some] <;> rfl)) | (simp [*, errW_none, errW_some] <;> rfl), bw3_ HB.out GE506.out GE528.out GE531.out⟩
                 ·rw [if_neg c46] at H
                  exact absurd H (by simp)
                ·rw [if_neg c44] at H
                 exact absurd H (by simp)
               ·rw [if_neg c43] at H
                exact absurd H (by simp)
              ·rw [if_neg c42] at H
               have c42b0 : (((rd_T30 (rd_L2 t500 t503) t504).f1) == (rd t497 ((rd_T30 (rd_L2 t500 t503) t504).f0))) = false := beq_eq_false_iff_ne.mpr c42
               have c42b1 : (((rd_T30 (rd_L2 t500 t503) t504).f1) != (rd t497 ((rd_T30 (rd_L2 t500 t503) t504).f0))) = true := bne_iff_ne.mpr c42
               by_cases c63 : ((rd_T30 (rd_L2 t507 t503) t504).f0) = ((rd_T30 (rd_L2 t500 t503) t504).f0)
               ·rw [if_pos c63] at H
                have c63b0 := beq_iff_eq.mpr c63
                have c63b1 := bne_eq_false_iff_eq.mpr c63
                clear c63
                by_cases c64 : 0 ≤ t505
                ·rw [if_pos c64] at H
                 have c64b0 := eq_true c64
                 have c64b1 := dt_ c64
                 clear c64
                 obtain ⟨ji65, hji65⟩ : ∃ j_ : Int, (shl .i64 1 t505) = j_ := ⟨_, rfl⟩
                 replace H : (if ((rd_T30 (rd_L2 t507 t503) t504).f1) = (wrap64 (((rd_T30 (rd_L2 t500 t503) t504).f1) - (ji65))) then ((impl_CountWorn.f kj5 t493 t494 t497 t507).bind fun t535 => ((impl_CountWorn.f kj5 t493 t494 t497 t500).bind fun t536 => (some (t535 == (wrap64 (t536 + 0)))))) else (none)) = some r := by first | (rw [hji65] at H; exact H) | (simp only [hji65] at H ⊢; exact H)
                 have hji65_ : (IntKind.i64.wrap (1 * 2 ^ min t505.toNat 64)) = ji65 := hji65
                 have hji65z : t505 ≤ 64 → (IntKind.i64.wrap (1 * 2 ^ t505.toNat)) = ji65 := shl_small hji65
                 have hji65u : (IntKind.i64.wrap (2 ^ min t505.toNat 64)) = ji65 := by have h_ := hji65_; rw [Int.one_mul] at h_; exact h_
                 have hji65v : t505 ≤ 64 → (IntKind.i64.wrap (2 ^ t505.toNat)) = ji65 := fun hle_ => by have h_ := hji65z hle_; rw [Int.one_mul] at h_; exact h_
                 have hji65y : (wrap64 (1 * 2 ^ min t505.toNat 64)) = ji65 := (i64_w _).symm.trans hji65_
                 have hji65x : t505 ≤ 64 → (wrap64 (1 * 2 ^ t505.toNat)) = ji65 := fun h_ => (i64_w _).symm.trans (hji65z h_)
                 by_cases c66 : ((rd_T30 (rd_L2 t507 t503) t504).f1) = (wrap64 (((rd_T30 (rd_L2 t500 t503) t504).f1) - (ji65)))
                 ·rw [if_pos c66] at H
                  have c66b0 := beq_iff_eq.mpr c66
                  have c66b1 := bne_eq_false_iff_eq.mpr c66
                  clear c66
                  replace H := bs_ H
                  obtain ⟨t535, A670, H⟩ := H
                  (try dsimp only at H)
                  have A67 := M_ A670
                  clear A670
                  replace H := bs_ H
                  obtain ⟨t536, A680, H⟩ := H
                  (try dsimp only at H)
                  have A68 := M_ A680
                  clear A680
                  obtain rfl := Option.some.inj H
                  have p526 : 0 ≤ (t503 : Int) := od_ as_
                  have q526 : t503 < (t500.length : Int) := od_ as_
                  obtain ⟨ad526, A526_0, c526_0, e526, hx526_0, hl526_0, hi526_0⟩ := at_L2 (Kd.S_reads' HO_4.out).2.2 t503 p526 q526
                  cases e526
                  obtain ⟨ce526, hce526, hMe526, hcc526⟩ := Kd.S_get HO_4.out [] t503 p526 (by first | exact q526 | exact od_ as_ | (have e_ := (Kd.S_reads' HO_4.out).1; omega))
                  obtain ⟨ve526_0, rfl, ge526_0⟩ := hMe526
                  have hv526_0 := hcc526 0 _ rfl
                  rw [Nat.add_zero, show ((Kd.slice 30 k30)).sz = 1 from rfl, Nat.mul_one] at hv526_0
                  replace hv526_0 := Option.some.inj (hv526_0.symm.trans hx526_0)
                  rw [hv526_0] at ge526_0
                  have HL526_0 := M_ (show Kd.R k30 30 _ _ _ _ (rd_L2 t500 t503) from ge526_0)
                  clear hce526 hcc526 ge526_0 hv526_0
                  have HR526_0 := M_ hi526_0
                  have HC526_0 := M_ hl526_0
                  clear hi526_0 hl526_0
                  replace p526 := eq_true p526
                  replace q526 := eq_true q526
                  have p527 : 0 ≤ (t504 : Int) := od_ as_
                  have q527 : t504 < ((rd_L2 t500 t503).length : Int) := od_ as_
                  obtain ⟨ad527, e527, hx527_0, hx527_1⟩ := at_T30 (kE_ HR526_0.out) t504 p527 q527
                  cases e527
                  replace p527 := eq_true p527
                  replace q527 := eq_true q527
                  try go_wp2_with (first | ((with_reducible refine gate_dst (N := 10) rfl ?_); (try (refine gate_guard (by rfl) ?_; dsimp only)); refine be_ 10 #[.int .i64 0, .int .i64 0] 30 ?_; intro gb528 hg w69 hbox hb; have z_ := t10_ (sB_ (Kd.S_elderB (kS_ HO_4.out) gb528 (Nat.le_of_eq hg.symm)) hb) (sB_ (Kd.S_elderB (kS_ HO_8.out) gb528 (Nat.le_of_eq hg.symm)) hb) (rB_ (kR_ HO_507001.out) hb) (rB_ (kR_ HO_507002.out) hb) (rB_ (Kd.R_elderB (kR_ HL526_0.out) gb528 (Nat.le_of_eq hg.symm)) hb) (bB_ (bk_ BK506.out) hb) (bS_ (bw1_ HB.out GE506.out) hb) hbox (gv_ hg (bw1_ HB.out GE506.out) : w.heap.size ≤ gb528) (by rw [hg]; exact Nat.ne_of_lt (blk_lt (bk_ BK506.out)) : gb506 ≠ gb528); (try clear HL526_0 HO_507002 HO_507001 HO_8 HO_4); clear BK506; (try clear HR526_0); clear HB; obtain ⟨HO_4, HO_8, HO_507001, HO_507002, HL526_0, BK506, HB, BK528, GE528, NB506_528⟩ := z_; have NB528_506 := M_ NB506_528.out.symm; clear hb hbox hg; have hnb70 := NB528_506.out; have hnc70 := NB506_528.out; have hcz71_0 := cz_ BK528.out 0 (.int .i64 0); have hcz71_1 := cz_ BK528.out 1 (.int .i64 0); have hfz71_0 := fz_ BK528.out 0; have hfz71_1 := fz_ BK528.out 1) | ((with_reducible refine gate_store (t := 30) (p := 10) rfl ?_); refine store_event (t := 30) (p := 10) (v := ?vo_w72) (w1 := ((w69.setCell ⟨gb528, 0, none⟩ (.int .i64 ((rd_T30 (rd_L2 t500 t503) t504).f0))).setCell ⟨gb528, 1, none⟩ (.int .i64 ((rd_T30 (rd_L2 t500 t503) t504).f1)))) ?hg ?ho ?hn ?hr ?_; (case ho => rfl); (case hg => rfl); (case hn => rfl); (case hr => first | (go_simp; done) | (go_simp; rfl)); intro w72 hw; have n0_ : Aside0 (Kd.S (Kd.slice 30 k30) 34 w72 w.heap.size (fun k_ => some k_ ≠ (v508 : Value).ownBlock ∧ k_ ≠ gb528) (.slice (some ad526) t500.length co12) t500) := ⟨(by rw [hw]; exact (by refine kS_ ?_; exact Kd.S_mono (Kd.S_far (p := ⟨gb528, 1, none⟩) (Kd.S_far (p := ⟨gb528, 0, none⟩) (Kd.S_mono HO_4.out (fun k_ hk => (⟨hk, hk.2⟩ : _ ∧ k_ ≠ gb528))) (fun _ hk => hk.2) (.int .i64 ((rd_T30 (rd_L2 t500 t503) t504).f0))) (fun _ hk => hk.2) (.int .i64 ((rd_T30 (rd_L2 t500 t503) t504).f1))) (fun _ hk => ⟨hk.1.1, hk.1.2⟩)))⟩; have n1_ : Aside0 (Kd.S (Kd.slice 30 k30) 34 w72 w.heap.size (fun k_ => some k_ ≠ (.slice (some ad526) t500.length co12 : Value).ownBlock ∧ k_ ≠ gb528) v508 t507) := ⟨(by rw [hw]; exact (by refine kS_ ?_; exact Kd.S_mono (Kd.S_far (p := ⟨gb528, 1, none⟩) (Kd.S_far (p := ⟨gb528, 0, none⟩) (Kd.S_mono HO_8.out (fun k_ hk => (⟨hk, hk.2⟩ : _ ∧ k_ ≠ gb528))) (fun _ hk => hk.2) (.int .i64 ((rd_T30 (rd_L2 t500 t503) t504).f0))) (fun _ hk => hk.2) (.int .i64 ((rd_T30 (rd_L2 t500 t503) t504).f1))) (fun _ hk => ⟨hk.1.1, hk.1.2⟩)))⟩; have n2_ : Aside0 (Kd.R (Kd.int .i64) 3 w72 w.heap.size (fun k_ => some k_ ≠ (.slice Ao11 t497.length co11 : Value).ownBlock) (.slice Ao10 t494.length co10) t494) := ⟨(by rw [hw]; exact (by refine kR_ ?_; exact Kd.R_mono (Kd.R_far (p := ⟨gb528, 1, none⟩) (Kd.R_far (p := ⟨gb528, 0, none⟩) (Kd.R_types HO_507001.out BK528.out (by decide)) (fun _ hk => hk.2) (.int .i64 ((rd_T30 (rd_L2 t500 t503) t504).f0))) (fun _ hk => hk.2) (.int .i64 ((rd_T30 (rd_L2 t500 t503) t504).f1))) (fun _ hk => hk.1)))⟩; have n3_ : Aside0 (Kd.R (Kd.int .i64) 3 w72 w.heap.size (fun k_ => some k_ ≠ (.slice Ao10 t494.length co10 : Value).ownBlock) (.slice Ao11 t497.length co11) t497) := ⟨(by rw [hw]; exact (by refine kR_ ?_; exact Kd.R_mono (Kd.R_far (p := ⟨gb528, 1, none⟩) (Kd.R_far (p := ⟨gb528, 0, none⟩) (Kd.R_types HO_507002.out BK528.out (by decide)) (fun _ hk => hk.2) (.int .i64 ((rd_T30 (rd_L2 t500 t503) t504).f0))) (fun _ hk => hk.2) (.int .i64 ((rd_T30 (rd_L2 t500 t503) t504).f1))) (fun _ hk => hk.1)))⟩; have n4_ : Aside0 (Kd.R k30 30 w72 w.heap.size (fun k_ => some k_ ≠ (.slice (some ad526) t500.length co12 : Value).ownBlock ∧ some k_ ≠ (v508 : Value).ownBlock ∧ k_ ≠ gb528) (.slice (some ad527) (rd_L2 t500 t503).length c526_0) (rd_L2 t500 t503)) := ⟨(by rw [hw]; exact (by refine kR_ ?_; exact Kd.R_mono (Kd.R_far (p := ⟨gb528, 1, none⟩) (Kd.R_far (p := ⟨gb528, 0, none⟩) (Kd.R_mono HL526_0.out (fun k_ hk => (⟨hk, hk.2⟩ : _ ∧ k_ ≠ gb528))) (fun _ hk => hk.2) (.int .i64 ((rd_T30 (rd_L2 t500 t503) t504).f0))) (fun _ hk => hk.2) (.int .i64 ((rd_T30 (rd_L2 t500 t503) t504).f1))) (fun _ hk => ⟨hk.1.1.2, ⟨hk.1.1.1, hk.1.2⟩⟩)))⟩; have n5_ : Aside0 (w72.heap[gb506]? = some (.cells #[.string t493, .slice Ao10 t494.length co10, .slice Ao11 t497.length co11] 25 (0, 0))) := ⟨(by rw [hw]; exact (by refine bk_ ?_; refine blk_far ?_ NB506_528.out _; refine bk_ ?_; refine blk_far ?_ NB506_528.out _; refine bk_ ?_; exact BK506.out))⟩; have n6_ : Aside0 (w72.heap[gb528]? = some (.cells #[.int .i64 ((rd_T30 (rd_L2 t500 t503) t504).f0), .int .i64 ((rd_T30 (rd_L2 t500 t503) t504).f1)] 30 (0, 0))) := ⟨(by rw [hw]; exact (by refine bk_ ?_; refine blk_put (cs := #[.int .i64 ((rd_T30 (rd_L2 t500 t503) t504).f0), .int .i64 0]) ?_ 1 _ rfl; refine bk_ ?_; refine blk_put (cs := #[.int .i64 0, .int .i64 0]) ?_ 0 _ rfl; refine bk_ ?_; exact BK528.out))⟩; have n7_ : Aside0 (Below w.heap.size w w72) := ⟨(by rw [hw]; exact (bw2_ HB.out GE506.out GE528.out))⟩; clear hw; (try clear HL526_0 HO_507002 HO_507001 HO_8 HO_4); clear HB BK528 BK506; have HO_4 := n0_; have HO_8 := n1_; have HO_507001 := n2_; have HO_507002 := n3_; have HL526_0 := n4_; have BK506 := n5_; have BK528 := n6_; have HB := n7_; clear n0_ n1_ n2_ n3_ n4_ n5_ n6_ n7_; obtain ⟨Ao73, co73, eo73⟩ := Kd.S_slice HO_8.out; subst eo73; have p529 : 0 ≤ (t503 : Int) := od_ as_; have q529 : t503 < (t507.length : Int) := od_ as_; obtain ⟨ad529, A529_0, c529_0, e529, hx529_0, hl529_0, hi529_0⟩ := at_L2 (Kd.S_reads' HO_8.out).2.2 t503 p529 q529; cases e529; obtain ⟨ce529, hce529, hMe529, hcc529⟩ := Kd.S_get HO_8.out [] t503 p529 (by first | exact q529 | exact od_ as_ | (have e_ := (Kd.S_reads' HO_8.out).1; omega)); obtain ⟨ve529_0, rfl, ge529_0⟩ := hMe529; have hv529_0 := hcc529 0 _ rfl; rw [Nat.add_zero, show ((Kd.slice 30 k30)).sz = 1 from rfl, Nat.mul_one] at hv529_0; replace hv529_0 := Option.some.inj (hv529_0.symm.trans hx529_0); rw [hv529_0] at ge529_0; have HL529_0 := M_ (show Kd.R k30 30 _ _ _ _ (rd_L2 t507 t503) from ge529_0); clear hce529 hcc529 ge529_0 hv529_0; have HR529_0 := M_ hi529_0; have HC529_0 := M_ hl529_0; clear hi529_0 hl529_0; replace p529 := eq_true p529; replace q529 := eq_true q529; have p530 : 0 ≤ (t504 : Int) := od_ as_; have q530 : t504 < ((rd_L2 t507 t503).length : Int) := od_ as_; obtain ⟨ad530, e530, hx530_0, hx530_1⟩ := at_T30 (kE_ HR529_0.out) t504 p530 q530; cases e530; replace p530 := eq_true p530; replace q530 := eq_true q530) | ((with_reducible refine gate_dst (N := 11) rfl ?_); (try (refine gate_guard (by rfl) ?_; dsimp only)); refine be_ 11 #[.int .i64 0, .int .i64 0] 30 ?_; intro gb531 hg w74 hbox hb; have z_ := t13_ (sB_ (Kd.S_elderB (kS_ HO_4.out) gb531 (Nat.le_of_eq hg.symm)) hb) (sB_ (Kd.S_elderB (kS_ HO_8.out) gb531 (Nat.le_of_eq hg.symm)) hb) (rB_ (kR_ HO_507001.out) hb) (rB_ (kR_ HO_507002.out) hb) (rB_ (Kd.R_elderB (kR_ HL526_0.out) gb531 (Nat.le_of_eq hg.symm)) hb) (rB_ (Kd.R_elderB (kR_ HL529_0.out) gb531 (Nat.le_of_eq hg.symm)) hb) (bB_ (bk_ BK506.out) hb) (bB_ (bk_ BK528.out) hb) (bS_ (bw2_ HB.out GE506.out GE528.out) hb) hbox (gv_ hg (bw2_ HB.out GE506.out GE528.out) : w.heap.size ≤ gb531) (by rw [hg]; exact Nat.ne_of_lt (blk_lt (bk_ BK506.out)) : gb506 ≠ gb531) (by rw [hg]; exact Nat.ne_of_lt (blk_lt (bk_ BK528.out)) : gb528 ≠ gb531); (try clear HL529_0 HL526_0 HO_507002 HO_507001 HO_8 HO_4); clear BK506; (try clear HR526_0); clear BK528; (try clear HR529_0); clear HB; obtain ⟨HO_4, HO_8, HO_507001, HO_507002, HL526_0, HL529_0, BK506, BK528, HB, BK531, GE531, NB506_531, NB528_531⟩ := z_; have NB531_506 := M_ NB506_531.out.symm; have NB531_528 := M_ NB528_531.out.symm; clear hb hbox hg; have hnb75 := NB531_506.out; have hnc75 := NB506_531.out; have hnb76 := NB531_528.out; have hnc76 := NB528_531.out; have hcz77_0 := cz_ BK531.out 0 (.int .i64 0); have hcz77_1 := cz_ BK531.out 1 (.int .i64 0); have hfz77_0 := fz_ BK531.out 0; have hfz77_1 := fz_ BK531.out 1))
                  have n0_ : Aside0 (Kd.S (Kd.slice 30 k30) 34 ((w74.setCell ⟨gb531, 0, none⟩ (.int .i64 ((rd_T30 (rd_L2 t507 t503) t504).f0))).setCell ⟨gb531, 1, none⟩ (.int .i64 ((rd_T30 (rd_L2 t507 t503) t504).f1))) w.heap.size (fun k_ => some k_ ≠ (.slice (some ad529) t507.length co73 : Value).ownBlock ∧ k_ ≠ gb528 ∧ k_ ≠ gb531) (.slice (some ad526) t500.length co12) t500) := ⟨by refine kS_ ?_; exact Kd.S_mono (Kd.S_far (p := ⟨gb531, 1, none⟩) (Kd.S_far (p := ⟨gb531, 0, none⟩) (Kd.S_mono HO_4.out (fun k_ hk => (⟨hk, hk.2⟩ : _ ∧ k_ ≠ gb531))) (fun _ hk => hk.2) (.int .i64 ((rd_T30 (rd_L2 t507 t503) t504).f0))) (fun _ hk => hk.2) (.int .i64 ((rd_T30 (rd_L2 t507 t503) t504).f1))) (fun _ hk => ⟨hk.1.1.1, ⟨hk.1.1.2, hk.1.2⟩⟩)⟩
                  have n1_ : Aside0 (Kd.S (Kd.slice 30 k30) 34 ((w74.setCell ⟨gb531, 0, none⟩ (.int .i64 ((rd_T30 (rd_L2 t507 t503) t504).f0))).setCell ⟨gb531, 1, none⟩ (.int .i64 ((rd_T30 (rd_L2 t507 t503) t504).f1))) w.heap.size (fun k_ => some k_ ≠ (.slice (some ad526) t500.length co12 : Value).ownBlock ∧ k_ ≠ gb528 ∧ k_ ≠ gb531) (.slice (some ad529) t507.length co73) t507) := ⟨by refine kS_ ?_; exact Kd.S_mono (Kd.S_far (p := ⟨gb531, 1, none⟩) (Kd.S_far (p := ⟨gb531, 0, none⟩) (Kd.S_mono HO_8.out (fun k_ hk => (⟨hk, hk.2⟩ : _ ∧ k_ ≠ gb531))) (fun _ hk => hk.2) (.int .i64 ((rd_T30 (rd_L2 t507 t503) t504).f0))) (fun _ hk => hk.2) (.int .i64 ((rd_T30 (rd_L2 t507 t503) t504).f1))) (fun _ hk => ⟨hk.1.1.1, ⟨hk.1.1.2, hk.1.2⟩⟩)⟩
                  have n2_ : Aside0 (Kd.R (Kd.int .i64) 3 ((w74.setCell ⟨gb531, 0, none⟩ (.int .i64 ((rd_T30 (rd_L2 t507 t503) t504).f0))).setCell ⟨gb531, 1, none⟩ (.int .i64 ((rd_T30 (rd_L2 t507 t503) t504).f1))) w.heap.size (fun k_ => some k_ ≠ (.slice Ao11 t497.length co11 : Value).ownBlock) (.slice Ao10 t494.length co10) t494) := ⟨by refine kR_ ?_; exact Kd.R_mono (Kd.R_far (p := ⟨gb531, 1, none⟩) (Kd.R_far (p := ⟨gb531, 0, none⟩) (Kd.R_types HO_507001.out BK531.out (by decide)) (fun _ hk => hk.2) (.int .i64 ((rd_T30 (rd_L2 t507 t503) t504).f0))) (fun _ hk => hk.2) (.int .i64 ((rd_T30 (rd_L2 t507 t503) t504).f1))) (fun _ hk => hk.1)⟩
                  have n3_ : Aside0 (Kd.R (Kd.int .i64) 3 ((w74.setCell ⟨gb531, 0, none⟩ (.int .i64 ((rd_T30 (rd_L2 t507 t503) t504).f0))).setCell ⟨gb531, 1, none⟩ (.int .i64 ((rd_T30 (rd_L2 t507 t503) t504).f1))) w.heap.size (fun k_ => some k_ ≠ (.slice Ao10 t494.length co10 : Value).ownBlock) (.slice Ao11 t497.length co11) t497) := ⟨by refine kR_ ?_; exact Kd.R_mono (Kd.R_far (p := ⟨gb531, 1, none⟩) (Kd.R_far (p := ⟨gb531, 0, none⟩) (Kd.R_types HO_507002.out BK531.out (by decide)) (fun _ hk => hk.2) (.int .i64 ((rd_T30 (rd_L2 t507 t503) t504).f0))) (fun _ hk => hk.2) (.int .i64 ((rd_T30 (rd_L2 t507 t503) t504).f1))) (fun _ hk => hk.1)⟩
                  have n4_ : Aside0 (Kd.R k30 30 ((w74.setCell ⟨gb531, 0, none⟩ (.int .i64 ((rd_T30 (rd_L2 t507 t503) t504).f0))).setCell ⟨gb531, 1, none⟩ (.int .i64 ((rd_T30 (rd_L2 t507 t503) t504).f1))) w.heap.size (fun k_ => some k_ ≠ (.slice (some ad526) t500.length co12 : Value).ownBlock ∧ some k_ ≠ (.slice (some ad529) t507.length co73 : Value).ownBlock ∧ k_ ≠ gb528 ∧ k_ ≠ gb531) (.slice (some ad527) (rd_L2 t500 t503).length c526_0) (rd_L2 t500 t503)) := ⟨by refine kR_ ?_; exact Kd.R_mono (Kd.R_far (p := ⟨gb531, 1, none⟩) (Kd.R_far (p := ⟨gb531, 0, none⟩) (Kd.R_mono HL526_0.out (fun k_ hk => (⟨hk, hk.2⟩ : _ ∧ k_ ≠ gb531))) (fun _ hk => hk.2) (.int .i64 ((rd_T30 (rd_L2 t507 t503) t504).f0))) (fun _ hk => hk.2) (.int .i64 ((rd_T30 (rd_L2 t507 t503) t504).f1))) (fun _ hk => ⟨hk.1.1.1, ⟨hk.1.1.2.1, ⟨hk.1.1.2.2, hk.1.2⟩⟩⟩)⟩
                  have n5_ : Aside0 (Kd.R k30 30 ((w74.setCell ⟨gb531, 0, none⟩ (.int .i64 ((rd_T30 (rd_L2 t507 t503) t504).f0))).setCell ⟨gb531, 1, none⟩ (.int .i64 ((rd_T30 (rd_L2 t507 t503) t504).f1))) w.heap.size (fun k_ => some k_ ≠ (.slice (some ad526) t500.length co12 : Value).ownBlock ∧ some k_ ≠ (.slice (some ad529) t507.length co73 : Value).ownBlock ∧ k_ ≠ gb528 ∧ k_ ≠ gb531) (.slice (some ad530) (rd_L2 t507 t503).length c529_0) (rd_L2 t507 t503)) := ⟨by refine kR_ ?_; exact Kd.R_mono (Kd.R_far (p := ⟨gb531, 1, none⟩) (Kd.R_far (p := ⟨gb531, 0, none⟩) (Kd.R_mono HL529_0.out (fun k_ hk => (⟨hk, hk.2⟩ : _ ∧ k_ ≠ gb531))) (fun _ hk => hk.2) (.int .i64 ((rd_T30 (rd_L2 t507 t503) t504).f0))) (fun _ hk => hk.2) (.int .i64 ((rd_T30 (rd_L2 t507 t503) t504).f1))) (fun _ hk => ⟨hk.1.1.1.1, ⟨hk.1.1.2, ⟨hk.1.1.1.2, hk.1.2⟩⟩⟩)⟩
                  have n6_ : Aside0 (((w74.setCell ⟨gb531, 0, none⟩ (.int .i64 ((rd_T30 (rd_L2 t507 t503) t504).f0))).setCell ⟨gb531, 1, none⟩ (.int .i64 ((rd_T30 (rd_L2 t507 t503) t504).f1))).heap[gb506]? = some (.cells #[.string t493, .slice Ao10 t494.length co10, .slice Ao11 t497.length co11] 25 (0, 0))) := ⟨by refine bk_ ?_; refine blk_far ?_ NB506_531.out _; refine bk_ ?_; refine blk_far ?_ NB506_531.out _; refine bk_ ?_; exact BK506.out⟩
                  have n7_ : Aside0 (((w74.setCell ⟨gb531, 0, none⟩ (.int .i64 ((rd_T30 (rd_L2 t507 t503) t504).f0))).setCell ⟨gb531, 1, none⟩ (.int .i64 ((rd_T30 (rd_L2 t507 t503) t504).f1))).heap[gb528]? = some (.cells #[.int .i64 ((rd_T30 (rd_L2 t500 t503) t504).f0), .int .i64 ((rd_T30 (rd_L2 t500 t503) t504).f1)] 30 (0, 0))) := ⟨by refine bk_ ?_; refine blk_far ?_ NB528_531.out _; refine bk_ ?_; refine blk_far ?_ NB528_531.out _; refine bk_ ?_; exact BK528.out⟩
                  have n8_ : Aside0 (((w74.setCell ⟨gb531, 0, none⟩ (.int .i64 ((rd_T30 (rd_L2 t507 t503) t504).f0))).setCell ⟨gb531, 1, none⟩ (.int .i64 ((rd_T30 (rd_L2 t507 t503) t504).f1))).heap[gb531]? = some (.cells #[.int .i64 ((rd_T30 (rd_L2 t507 t503) t504).f0), .int .i64 ((rd_T30 (rd_L2 t507 t503) t504).f1)] 30 (0, 0))) := ⟨by refine bk_ ?_; refine blk_put (cs := #[.int .i64 ((rd_T30 (rd_L2 t507 t503) t504).f0), .int .i64 0]) ?_ 1 _ rfl; refine bk_ ?_; refine blk_put (cs := #[.int .i64 0, .int .i64 0]) ?_ 0 _ rfl; refine bk_ ?_; exact BK531.out⟩
                  have n9_ : Aside0 (Below w.heap.size w ((w74.setCell ⟨gb531, 0, none⟩ (.int .i64 ((rd_T30 (rd_L2 t507 t503) t504).f0))).setCell ⟨gb531, 1, none⟩ (.int .i64 ((rd_T30 (rd_L2 t507 t503) t504).f1)))) := ⟨bw3_ HB.out GE506.out GE528.out GE531.out⟩
                  (try clear HB BK531 BK528 BK506 HL529_0 HL526_0 HO_507002 HO_507001 HO_8 HO_4)
                  generalize ((w74.setCell ⟨gb531, 0, none⟩ (.int .i64 ((rd_T30 (rd_L2 t507 t503) t504).f0))).setCell ⟨gb531, 1, none⟩ (.int .i64 ((rd_T30 (rd_L2 t507 t503) t504).f1))) = w78 at n0_ n1_ n2_ n3_ n4_ n5_ n6_ n7_ n8_ n9_ ⊢
                  have HO_4 := n0_
                  have HO_8 := n1_
                  have HO_507001 := n2_
                  have HO_507002 := n3_
                  have HL526_0 := n4_
                  have HL529_0 := n5_
                  have BK506 := n6_
                  have BK528 := n7_
                  have BK531 := n8_
                  have HB := n9_
                  clear n0_ n1_ n2_ n3_ n4_ n5_ n6_ n7_ n8_ n9_
                  have z_ := t8_ (Kd.S_drew HO_4.out) (Kd.S_drew HO_8.out) (Kd.R_drew HO_507001.out) (Kd.R_drew HO_507002.out) (blk_drew BK506.out) (blk_drew BK528.out) (blk_drew BK531.out) (below_drew1 HB.out)
                  (try clear HL529_0 HL526_0 HO_507002 HO_507001 HO_8 HO_4)
                  clear HB BK531 BK528 BK506
                  obtain ⟨HO_4, HO_8, HO_507001, HO_507002, BK506, BK528, BK531, HB⟩ := z_
                  have p532 : 0 ≤ (((rd_T30 (rd_L2 t500 t503) t504).f0) : Int) := od_ as_
                  have q532 : ((rd_T30 (rd_L2 t500 t503) t504).f0) < (t497.length : Int) := od_ as_
                  obtain ⟨ad532, e532, hx532_0⟩ := Kd.at_int (Kd.R_reads' HO_507002.out).2.2 ((rd_T30 (rd_L2 t500 t503) t504).f0) p532 q532
                  cases e532
                  replace p532 := eq_true p532
                  replace q532 := eq_true q532
                  refine start_ (n := 9) (S := fun w' => w'.cell? ⟨gb528, 0, none⟩ = some (.int .i64 ((rd_T30 (rd_L2 t500 t503) t504).f0)) ∧ w'.cell? ⟨gb528, 1, none⟩ = some (.int .i64 ((rd_T30 (rd_L2 t500 t503) t504).f1)) ∧ w'.cell? ⟨gb506, 0, none⟩ = some (.string t493) ∧ w'.cell? ⟨gb506, 1, none⟩ = some (.slice Ao10 t494.length co10) ∧ w'.cell? ⟨gb506, 2, none⟩ = some (.slice (some ad532) t497.length co11) ∧ w'.cell? (ad532.add (((rd_T30 (rd_L2 t500 t503) t504).f0)).toNat) = some (.int .i64 (rd t497 ((rd_T30 (rd_L2 t500 t503) t504).f0)))) (ds := []) (mk_ 9 0) (by kernel_rfl) rfl rfl ⟨(blk_cell BK528.out 0).trans rfl, (blk_cell BK528.out 1).trans rfl, (blk_cell BK506.out 0).trans rfl, (blk_cell BK506.out 1).trans rfl, (blk_cell BK506.out 2).trans rfl, hx532_0⟩ (fun hHeld => ?_); refine with_tabW laws_FnWorn.tab12 laws_FnWorn.bits12 (fun HT_ HW_ => ?_)
                  generalize w78.drew = w79 at HO_4 HO_8 HO_507001 HO_507002 BK506 BK528 BK531 HB hx532_0 hHeld ⊢
                  refine pu_ 0 (some 135) (mk_ 9 1) HT_.out ?_
                  refine pu_ 2 (some 137) (mk_ 9 5) HT_.out ?_
                  refine pu_ 4 (some 139) (mk_ 9 21) HT_.out ?_
                  refine ta_ 1 (some 136) (mk_ 9 23) HT_.out HW_.out hHeld (hy := by rintro w' ⟨s0, s1, s2, s3, s4, s5⟩; go_simp; with_reducible rfl) (h := ?_)
                  refine ta_ 3 (some 138) (mk_ 9 31) HT_.out HW_.out hHeld (hy := by rintro w' ⟨s0, s1, s2, s3, s4, s5⟩; go_simp; with_reducible rfl) (h := ?_)
                  refine ta_ 5 (some 140) (mk_ 9 63) HT_.out HW_.out hHeld (hy := by rintro w' ⟨s0, s1, s2, s3, s4, s5⟩; go_simp; with_reducible rfl) (h := ?_)
                  refine pu_ 6 (some 141) (mk_ 9 127) HT_.out ?_
                  refine ta_ 7 (some 142) (mk_ 9 255) HT_.out HW_.out hHeld (hy := by rintro w' ⟨s0, s1, s2, s3, s4, s5⟩; go_simp; with_reducible rfl) (h := ?_)
                  refine pu_ 8 (some 143) (mk_ 9 511) HT_.out ?_
                  refine done_ (done_of HT_.out (by kernel_rfl)) ?_
                  try go_wp2
                  have z_ := t8_ (Kd.S_drew HO_4.out) (Kd.S_drew HO_8.out) (Kd.R_drew HO_507001.out) (Kd.R_drew HO_507002.out) (blk_drew BK506.out) (blk_drew BK528.out) (blk_drew BK531.out) (below_drew1 HB.out)
                  (try clear HL529_0 HL526_0 HO_507002 HO_507001 HO_8 HO_4)
                  clear HB BK531 BK528 BK506
                  obtain ⟨HO_4, HO_8, HO_507001, HO_507002, BK506, BK528, BK531, HB⟩ := z_
                  refine start_ (n := 27) (S := fun w' => w'.cell? ⟨gb531, 0, none⟩ = some (.int .i64 ((rd_T30 (rd_L2 t507 t503) t504).f0)) ∧ w'.cell? ⟨gb531, 1, none⟩ = some (.int .i64 ((rd_T30 (rd_L2 t507 t503) t504).f1)) ∧ w'.cell? ⟨gb528, 0, none⟩ = some (.int .i64 ((rd_T30 (rd_L2 t500 t503) t504).f0)) ∧ w'.cell? ⟨gb528, 1, none⟩ = some (.int .i64 ((rd_T30 (rd_L2 t500 t503) t504).f1)) ∧ w'.cell? ⟨gb506, 0, none⟩ = some (.string t493) ∧ w'.cell? ⟨gb506, 1, none⟩ = some (.slice Ao10 t494.length co10) ∧ w'.cell? ⟨gb506, 2, none⟩ = some (.slice (some ad532) t497.length co11)) (ds := []) (mk_ 27 0) (by kernel_rfl) rfl rfl ⟨(blk_cell BK531.out 0).trans rfl, (blk_cell BK531.out 1).trans rfl, (blk_cell BK528.out 0).trans rfl, (blk_cell BK528.out 1).trans rfl, (blk_cell BK506.out 0).trans rfl, (blk_cell BK506.out 1).trans rfl, (blk_cell BK506.out 2).trans rfl⟩ (fun hHeld => ?_); refine with_tabW laws_FnWorn.tab14 laws_FnWorn.bits14 (fun HT_ HW_ => ?_)
                  generalize w79.drew = w80 at HO_4 HO_8 HO_507001 HO_507002 BK506 BK528 BK531 HB hHeld ⊢
                  refine pu_ 0 (some 144) (mk_ 27 1) HT_.out ?_
                  refine pu_ 2 (some 146) (mk_ 27 5) HT_.out ?_
                  refine ta_ 1 (some 145) (mk_ 27 7) HT_.out HW_.out hHeld (hy := by rintro w' ⟨s0, s1, s2, s3, s4, s5, s6⟩; go_simp; with_reducible rfl) (h := ?_)
                  refine ta_ 3 (some 147) (mk_ 27 15) HT_.out HW_.out hHeld (hy := by rintro w' ⟨s0, s1, s2, s3, s4, s5, s6⟩; go_simp; with_reducible rfl) (h := ?_)
                  refine pu_ 4 (some 148) (mk_ 27 31) HT_.out ?_
                  refine pu_ 5 (some 149) (mk_ 27 63) HT_.out ?_
                  refine pu_ 6 (some 150) (mk_ 27 127) HT_.out ?_
                  refine pu_ 8 (some 152) (mk_ 27 383) HT_.out ?_
                  refine pu_ 10 (some 154) (mk_ 27 1407) HT_.out ?_
                  refine pu_ 11 (some 155) (mk_ 27 3455) HT_.out ?_
                  refine ta_ 7 (some 151) (mk_ 27 3583) HT_.out HW_.out hHeld (hy := by rintro w' ⟨s0, s1, s2, s3, s4, s5, s6⟩; go_simp; with_reducible rfl) (h := ?_)
                  refine ta_ 9 (some 153) (mk_ 27 4095) HT_.out HW_.out hHeld (hy := by rintro w' ⟨s0, s1, s2, s3, s4, s5, s6⟩; go_simp; with_reducible rfl) (h := ?_)
                  refine pu_ 12 (some 156) (mk_ 27 8191) HT_.out ?_
                  refine pu_ 13 (some 157) (mk_ 27 16383) HT_.out ?_
                  refine pu_ 14 (some 158) (mk_ 27 32767) HT_.out ?_
                  refine pu_ 15 (some 159) (mk_ 27 65535) HT_.out ?_
                  refine pu_ 17 (some 161) (mk_ 27 196607) HT_.out ?_
                  refine pu_ 20 (some 164) (mk_ 27 1245183) HT_.out ?_
                  refine pu_ 22 (some 166) (mk_ 27 5439487) HT_.out ?_
                  refine ta_ 16 (some 160) (mk_ 27 5505023) HT_.out HW_.out hHeld (hy := by rintro w' ⟨s0, s1, s2, s3, s4, s5, s6⟩; go_simp; with_reducible rfl) (h := ?_)
                  refine ta_ 19 (some 163) (mk_ 27 6029311) HT_.out HW_.out hHeld (hy := by rintro w' ⟨s0, s1, s2, s3, s4, s5, s6⟩; go_simp; with_reducible rfl) (h := ?_)
                  refine on_ 18 (some 162) (mk_ 27 6291455) HT_.out fun K hK => ?_
                  refine goes_ Try.func49 (by kernel_rfl) rfl #[.agg #[.string t493, .slice Ao10 t494.length co10, .slice (some ad532) t497.length co11], .slice (some ad529) t507.length co73] (by rfl) rfl rfl ar_ ?_
                  with_reducible refine (impl_CountWorn.calls kj5 t493 _ _ t494 _ _ t497 _ _ t507 t535 _ ?side1 ?side2 ?side3 ?side4 ?side5 ?side6 A67.out).mono ?_
                  (case side1 => exact kD_ (Kd.R_reads' HO_507001.out).2.2)
                  (case side2 => exact (Kd.R_reads' HO_507001.out).2.1)
                  (case side3 => exact kD_ (Kd.R_reads' HO_507002.out).2.2)
                  (case side4 => exact (Kd.R_reads' HO_507002.out).2.1)
                  (case side5 => exact kD_ (Kd.S_reads' HO_8.out).2.2)
                  (case side6 => exact (Kd.S_reads' HO_8.out).2.1)
                  rintro e w81 ⟨rfl, hb⟩
                  refine ⟨_, rfl, ?_⟩
                  have z_ := t7_ (sB_ (kS_ HO_4.out) hb) (rB_ (kR_ HO_507001.out) hb) (rB_ (kR_ HO_507002.out) hb) (bB_ (bk_ BK506.out) hb) (bB_ (bk_ BK528.out) hb) (bB_ (bk_ BK531.out) hb) (bS_ (bw3_ HB.out GE506.out GE528.out GE531.out) hb)
                  (try clear HL529_0 HL526_0 HO_507002 HO_507001 HO_8 HO_4)
                  clear HB BK531 BK528 BK506
                  obtain ⟨HO_4, HO_507001, HO_507002, BK506, BK528, BK531, HB⟩ := z_
                  (try clear hb)
                  refine hK.out _ _ ⟨(blk_cell BK531.out 0).trans rfl, (blk_cell BK531.out 1).trans rfl, (blk_cell BK528.out 0).trans rfl, (blk_cell BK528.out 1).trans rfl, (blk_cell BK506.out 0).trans rfl, (blk_cell BK506.out 1).trans rfl, (blk_cell BK506.out 2).trans rfl⟩ (fun hHeld => ?_)
                  clear hK K
                  refine norm_ (a' := ?_) ?_ ?_
                  rotate_left
                  ·show Act.put _ (some 162) _ = _
                   simp only [Act.put, lA_, lB_, lC_, i64_w, i32_w]
                   rfl
                  refine on_ 21 (some 165) (mk_ 27 8388607) HT_.out fun K hK => ?_
                  refine goes_ Try.func49 (by kernel_rfl) rfl #[.agg #[.string t493, .slice Ao10 t494.length co10, .slice (some ad532) t497.length co11], .slice (some ad526) t500.length co12] (by rfl) rfl rfl ar_ ?_
                  with_reducible refine (impl_CountWorn.calls kj5 t493 _ _ t494 _ _ t497 _ _ t500 t536 _ ?side1 ?side2 ?side3 ?side4 ?side5 ?side6 A68.out).mono ?_
                  (case side1 => exact kD_ (Kd.R_reads' HO_507001.out).2.2)
                  (case side2 => exact (Kd.R_reads' HO_507001.out).2.1)
                  (case side3 => exact kD_ (Kd.R_reads' HO_507002.out).2.2)
                  (case side4 => exact (Kd.R_reads' HO_507002.out).2.1)
                  (case side5 => exact kD_ (Kd.S_reads' HO_4.out).2.2)
                  (case side6 => exact (Kd.S_reads' HO_4.out).2.1)
                  rintro e w82 ⟨rfl, hb⟩
                  refine ⟨_, rfl, ?_⟩
                  have n6_ := M_ (bB_ (bk_ BK506.out) hb)
                  have n7_ := M_ (bB_ (bk_ BK528.out) hb)
                  have n8_ := M_ (bB_ (bk_ BK531.out) hb)
                  have n9_ := M_ (bS_ (bw3_ HB.out GE506.out GE528.out GE531.out) hb)
                  (try clear HL529_0 HL526_0 HO_507002 HO_507001 HO_8 HO_4)
                  clear HB BK531 BK528 BK506
                  have BK506 := n6_
                  have BK528 := n7_
                  have BK531 := n8_
                  have HB := n9_
                  clear n6_ n7_ n8_ n9_
                  (try clear hb)
                  refine hK.out _ _ ⟨(blk_cell BK531.out 0).trans rfl, (blk_cell BK531.out 1).trans rfl, (blk_cell BK528.out 0).trans rfl, (blk_cell BK528.out 1).trans rfl, (blk_cell BK506.out 0).trans rfl, (blk_cell BK506.out 1).trans rfl, (blk_cell BK506.out 2).trans rfl⟩ (fun hHeld => ?_)
                  clear hK K
                  refine norm_ (a' := ?_) ?_ ?_
                  rotate_left
                  ·show Act.put _ (some 165) _ = _
                   simp only [Act.put, lA_, lB_, lC_, i64_w, i32_w]
                   rfl
                  refine pu_ 23 (some 167) (mk_ 27 16777215) HT_.out ?_
                  refine pu_ 24 (some 168) (mk_ 27 33554431) HT_.out ?_
                  refine pu_ 25 (some 169) (mk_ 27 67108863) HT_.out ?_
                  refine pu_ 26 (some 2) (mk_ 27 134217727) HT_.out ?_
                  refine done_ (done_of HT_.out (by kernel_rfl)) ?_
                  try go_wp2
                  go_ret
                  exact ⟨by first | rfl | (simp only [i64_w, i32_w]; rfl) | (simp only [i64_w, i32_w, wrap64_zero, Int.sub_zero, Int.add_zero, Int.mul_zero, Int.zero_mul]; rfl) | (simp [errW_none, errW_some] <;> rfl) | (simp only [← hji65]; first | rfl | (simp [errW_none, errW_some] <;> rfl)) | (simp [*, errW_none, errW_some] <;> rfl), bw3_ HB.out GE506.out GE528.out GE531.out⟩
                 ·rw [if_neg c66] at H
                  exact absurd H (by simp)
                ·rw [if_neg c64] at H
                 exact absurd H (by simp)
               ·rw [if_neg c63] at H
                exact absurd H (by simp)
             ·rw [if_neg c41] at H
              exact absurd H (by simp)
            ·rw [if_neg c40] at H
             exact absurd H (by simp)
           ·rw [if_neg c39] at H
            exact absurd H (by simp)
          ·rw [if_neg c38] at H
           exact absurd H (by simp)
         ·rw [if_neg c37] at H
          exact absurd H (by simp)
        ·rw [if_neg c36] at H
         exact absurd H (by simp)
       ·rw [if_neg c35] at H
        exact absurd H (by simp)
      ·rw [if_neg c34] at H
       exact absurd H (by simp)
  ·replace c5 := Bool.eq_false_iff.mpr c5
   subst c5
   rw [if_neg (show ¬ (false = true) by decide)] at H
   exact absurd H (by simp)

/-- THE ONE PURE STATEMENT of laws_FnWorn: yours. -/
def laws_FnWorn.Pure : Prop := ∀ (l0 : List Int), l0.length ≤ maxLen → l0.length * 1 ≤ 140737488351232 → (∀ x ∈ l0, (Lit.int .u8 x).wf = true) → (∃ k, laws_FnWorn_f.f k l0 = some true) ∨ (∃ k, laws_FnWorn.f k l0 = some true)
theorem laws_FnWorn.walk (P : laws_FnWorn.Pure) (a0 : Option Addr) (len0 cap0 : Nat) (z0 : List Int) (w : World) (w0 : (a0 = none ∧ len0 = 0 ∧ cap0 = 0 ∧ z0 = []) ∨ ∃ x, a0 = some x ∧ len0 ≤ cap0 ∧ cap0 ≤ maxLen ∧ z0.length = cap0 ∧ (∀ i, i < z0.length → w.cell? (x.add i) = some (.int .u8 (z0.getD i 0))) ∧ ∀ n ∈ z0, (Lit.int .u8 n).wf = true) (y0 : len0 * 1 ≤ 140737488351232) :
    Calls Try.prog 15 #[.slice a0 len0 cap0] w fun e w' => e = .returned (.bool true) ∧ Below w.heap.size w w' := by
 obtain ⟨l0, rfl, hr0, hm0, hw0, hc0⟩ := ReadsInt.ofRowC w0
 rcases P l0 hm0 y0 hw0 with ⟨k, h⟩ | ⟨k, h⟩
 ·refine (laws_FnWorn_f.calls k _ _ l0 true w (Kd.C_of_reads (d := (0 : Int)) (h1 := fun _ => rfl) hr0) hc0 h).mono ?_
  rintro e w' ⟨rfl, hd⟩
  exact ⟨rfl, hd⟩
 ·refine (laws_FnWorn.calls k _ _ l0 true w (Kd.C_of_reads (d := (0 : Int)) (h1 := fun _ => rfl) hr0) hc0 h).mono ?_
  rintro e w' ⟨rfl, hd⟩
  exact ⟨rfl, hd⟩

end Go.Proofs.Ytilbngklgjjblaa.Q
