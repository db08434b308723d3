/- Contracts of Go functions over this translation. Conditions: those that each theorem names. -/
import Derived.Test.YtilbngklgjjblaaQ0
import Derived.Test.YtilbngklgjjblaaQ1
import Derived.Test.YtilbngklgjjblaaQ11
import Derived.Test.YtilbngklgjjblaaQ14
import Derived.Test.YtilbngklgjjblaaQ16
import Derived.Test.YtilbngklgjjblaaQ17
import Derived.Test.YtilbngklgjjblaaQ18
namespace Go.Proofs.Ytilbngklgjjblaa.Q
open Go.RowKit Go.Proofs.YtilbngklgjjblaaW.PrintWords Go.Proofs.YtilbngklgjjblaaW.PrintLast Go.Proofs.YtilbngklgjjblaaW.PrintMore
attribute [local go_sem] max2_int min2_int max_two min_two max_three min_three max_four min_four
set_option linter.unusedVariables false
set_option linter.unusedSimpArgs false

attribute [local go_sem high] eqA30
mutual
def laws_FnRound.j0 : Nat → List (List (S30)) → Int → List (List (S30)) → List (List (S30)) → Int → Bool → Int → Bool → ByteArray → List Int → List Int → Int → Int → Option (Bool)
  | 0, _, _, _, _, _, _, _, _, _, _, _, _, _ => none
  | k + 1, x4, x5, x6, x9, x10, x11, x12, x88, x506000, x506001, x506002, x513000, x513001 => if x88 = true then (none) else (if x11 = true then (if x10 = x12 then (if x513000 < 0 then (none) else (if x513000 ≥ (x4.length : Int) then (none) else (if 0 ≤ x513000 then (if x513000 < (x506002.length : Int) then (if x513001 = (rd x506002 x513000) then (if x10 = x513000 then (laws_FnRound.j1 k x4 x5 x9 x10 ((x9.length : Int) != (x4.length : Int)) x506000 x506001 x506002 x513000 x513001) else (none)) else (laws_FnRound.j1 k x4 x5 x9 x10 ((x9.length : Int) != (x4.length : Int)) x506000 x506001 x506002 x513000 x513001)) else (none)) else (none)))) else (none)) else (if 0 ≤ x12 then (if x12 < (x6.length : Int) then (some (((rd_L5 x6 x12).length : Int) == 20)) else (none)) else (none)))
def laws_FnRound.j1 : Nat → List (List (S30)) → Int → List (List (S30)) → Int → Bool → ByteArray → List Int → List Int → Int → Int → Option (Bool)
  | 0, _, _, _, _, _, _, _, _, _, _ => none
  | k + 1, x4, x5, x9, x10, x135, x506000, x506001, x506002, x513000, x513001 => if x135 = true then (none) else (if 0 ≤ x10 then (if x10 < (x9.length : Int) then (if ((rd_L5 x9 x10).length : Int) > 0 then (if 0 ≤ (wrap64 (((rd_L5 x9 x10).length : Int) - 1)) then (if (wrap64 (((rd_L5 x9 x10).length : Int) - 1)) < ((rd_L5 x9 x10).length : Int) then (if (((rd_T30 (rd_L5 x9 x10) (wrap64 (((rd_L5 x9 x10).length : Int) - 1))).f0) == x513000 && (((rd_T30 (rd_L5 x9 x10) (wrap64 (((rd_L5 x9 x10).length : Int) - 1))).f1) == x513001)) = true then (if 0 ≤ x5 then (if x5 < (x4.length : Int) then (if 0 < ((rd_L5 x4 x5).length : Int) then (if (((rd_T30 (rd_L5 x4 x5) 0).f0) == x513000 && (((rd_T30 (rd_L5 x4 x5) 0).f1) == x513001)) = true then ((impl_KindCounts.f k x506000 x506001 x506002 x9).bind fun t528 => ((impl_KindCounts.f k x506000 x506001 x506002 x4).bind fun t531 => ((laws_ints.f k t528 t531).bind fun t534 => (some t534)))) else (none)) else (none)) else (none)) else (none)) else (none)) else (none)) else (none)) else (none)) else (none)) else (none))
end
def laws_FnRound.f (k : Nat) (l0 : List Int) : Option (Bool) := if (l0.length : Int) > 1048576 then (some true) else ((spec_DrawTakeMatrix.f k l0).bind fun bt494 => ((impl_TakeMatrix.f k bt494.1 bt494.2.1 bt494.2.2.1 bt494.2.2.2.1 bt494.2.2.2.2).bind fun bt506 => (if bt506.2.2.2 = true then ((impl_DropMatrix.f k bt494.1 bt494.2.1 bt494.2.2.1 bt506.1 bt506.2.1 bt506.2.2.1).bind fun bt515 => ((impl_FallOf.f k bt494.2.2.1 bt506.2.2.1).bind fun t520 => ((impl_MatrixOk.f k bt494.1 bt494.2.1 bt494.2.2.1 bt506.2.1 bt506.2.2.1).bind fun t521 => (if t521 = true then (if (bt506.1.length : Int) = (bt494.2.2.2.1.length : Int) then (if t520 < 0 then (none) else (laws_FnRound.j0 k bt494.2.2.2.1 bt494.2.2.2.2 bt506.1 bt515.1 bt515.2.1 bt515.2.2 t520 (decide (t520 ≥ (bt494.2.2.2.1.length : Int))) bt494.1 bt494.2.1 bt494.2.2.1 bt506.2.1 bt506.2.2.1)) else (none)) else (none))))) else (none))))
theorem laws_FnRound.mono_l : ∀ k, (∀ y0 y1 y2 y3 y4 y5 y6 y7 y8 y9 y10 y11 y12, LeO (laws_FnRound.j0 k y0 y1 y2 y3 y4 y5 y6 y7 y8 y9 y10 y11 y12) (laws_FnRound.j0 (k + 1) y0 y1 y2 y3 y4 y5 y6 y7 y8 y9 y10 y11 y12)) ∧ (∀ y0 y1 y2 y3 y4 y5 y6 y7 y8 y9, LeO (laws_FnRound.j1 k y0 y1 y2 y3 y4 y5 y6 y7 y8 y9) (laws_FnRound.j1 (k + 1) y0 y1 y2 y3 y4 y5 y6 y7 y8 y9))
  | 0 => ⟨fun _ _ _ _ _ _ _ _ _ _ _ _ _ r h => by simp [laws_FnRound.j0] at h, fun _ _ _ _ _ _ _ _ _ _ r h => by simp [laws_FnRound.j1] at h⟩
  | k + 1 => by
    obtain ⟨ih0, ih1⟩ := laws_FnRound.mono_l k
    refine ⟨?_, ?_⟩ <;> intros <;> (first | unfold laws_FnRound.j0 | unfold laws_FnRound.j1) <;> repeat' first | (with_reducible first | exact ih0 _ _ _ _ _ _ _ _ _ _ _ _ _ | exact ih1 _ _ _ _ _ _ _ _ _ _ | exact impl_DropMatrix.mono _ _ _ _ _ _ _ | exact impl_FallOf.mono _ _ _ | exact impl_KindCounts.mono _ _ _ _ _ | exact impl_MatrixOk.mono _ _ _ _ _ _ | exact impl_TakeMatrix.mono _ _ _ _ _ _ | exact laws_ints.mono _ _ _ | exact spec_DrawTakeMatrix.mono _ _ | exact spec_MagazineOk.mono _ _ _ _ _ | exact LeO.refl _ | exact LeO.none _ | refine LeO.ite ?_ ?_ | refine LeO.bind ?_ (fun _ => ?_)) | exact ih0 _ _ _ _ _ _ _ _ _ _ _ _ _ | exact ih1 _ _ _ _ _ _ _ _ _ _ | exact impl_DropMatrix.mono _ _ _ _ _ _ _ | exact impl_FallOf.mono _ _ _ | exact impl_KindCounts.mono _ _ _ _ _ | exact impl_MatrixOk.mono _ _ _ _ _ _ | exact impl_TakeMatrix.mono _ _ _ _ _ _ | exact laws_ints.mono _ _ _ | exact spec_DrawTakeMatrix.mono _ _ | exact spec_MagazineOk.mono _ _ _ _ _ | exact LeO.none _ | refine LeO.ite ?_ ?_ | refine LeO.bind ?_ (fun _ => ?_)
theorem laws_FnRound.mono : ∀ a0 k, LeO (laws_FnRound.f k a0) (laws_FnRound.f (k + 1) a0) := by
 intro a0 k
 obtain ⟨ih0, ih1⟩ := laws_FnRound.mono_l k
 unfold laws_FnRound.f
 repeat' first | (with_reducible first | exact ih0 _ _ _ _ _ _ _ _ _ _ _ _ _ | exact ih1 _ _ _ _ _ _ _ _ _ _ | exact impl_DropMatrix.mono _ _ _ _ _ _ _ | exact impl_FallOf.mono _ _ _ | exact impl_KindCounts.mono _ _ _ _ _ | exact impl_MatrixOk.mono _ _ _ _ _ _ | exact impl_TakeMatrix.mono _ _ _ _ _ _ | exact laws_ints.mono _ _ _ | exact spec_DrawTakeMatrix.mono _ _ | exact spec_MagazineOk.mono _ _ _ _ _ | exact LeO.refl _ | exact LeO.none _ | refine LeO.ite ?_ ?_ | refine LeO.bind ?_ (fun _ => ?_)) | exact ih0 _ _ _ _ _ _ _ _ _ _ _ _ _ | exact ih1 _ _ _ _ _ _ _ _ _ _ | exact impl_DropMatrix.mono _ _ _ _ _ _ _ | exact impl_FallOf.mono _ _ _ | exact impl_KindCounts.mono _ _ _ _ _ | exact impl_MatrixOk.mono _ _ _ _ _ _ | exact impl_TakeMatrix.mono _ _ _ _ _ _ | exact laws_ints.mono _ _ _ | exact spec_DrawTakeMatrix.mono _ _ | exact spec_MagazineOk.mono _ _ _ _ _ | exact LeO.none _ | refine LeO.ite ?_ ?_ | refine LeO.bind ?_ (fun _ => ?_)
def laws_FnRound.T13 : Bool × List (List Nat × List Nat) := (true, [([], []), ([], []), ([0, 1], [0, 1]), ([2], [2]), ([3], [3]), ([4, 3], [3, 4]), ([5, 3], [3, 5]), ([3, 6], [3, 6]), ([7, 3], [7]), ([8], [8]), ([9, 8], [8, 9]), ([8], [8]), ([11, 8], [8, 11]), ([10, 12, 8], [8, 10, 12]), ([8, 13], [8, 13]), ([14, 8], [14]), ([15], [15]), ([16, 15], [15, 16]), ([15], [15]), ([18, 15], [15, 18]), ([15], [15]), ([20, 15], [15, 20]), ([19, 21, 15], [15, 19, 21]), ([22, 15], [15, 22]), ([17, 23, 15], [15, 17, 23]), ([24, 15, 15], [15, 24]), ([25], [25]), ([25], [25]), ([27, 25], [25, 27]), ([26, 28, 25], [25, 26, 28]), ([25, 29, 15], [15, 25, 29]), ([15, 30], [15, 30]), ([31, 25], [31]), ([32], [32]), ([33, 32], [32, 33]), ([32], [32]), ([35, 32], [32, 35]), ([34, 36, 32], [32, 34, 36]), ([32, 37], [32, 37])])
def laws_FnRound.B13 : List Nat := [0, 0, 3, 7, 15, 31, 63, 127, 255, 511, 1023, 511, 2559, 8191, 16383, 32767, 65535, 131071, 65535, 327679, 65535, 1114111, 3997695, 8191999, 16777215, 33554431, 67108863, 67108863, 201326591, 536870911, 1073741823, 2147483647, 4294967295, 8589934591, 17179869183, 8589934591, 42949672959, 137438953471, 274877906943]
theorem laws_FnRound.tab13 : rtab .any (opsOf Try.f3 13) = laws_FnRound.T13 := by kernel_rfl
theorem laws_FnRound.bits13 : waitsOk laws_FnRound.T13.2 laws_FnRound.B13 = true := by kernel_rfl
def laws_FnRound.T16 : Bool × List (List Nat × List Nat) := (true, [([], []), ([0], [0]), ([1], [1]), ([2], [2]), ([3], [3]), ([3], [3]), ([5, 3], [3, 5]), ([6, 3], [3, 6]), ([4, 7, 3], [3, 4, 7]), ([8, 3], [3, 8]), ([3], [3]), ([9, 10, 3], [3, 9, 10]), ([3, 11], [3, 11]), ([12, 3], [12]), ([13], [13]), ([13], [13]), ([14, 15, 13], [13, 14, 15]), ([16, 13], [13, 16]), ([17, 13], [13, 17]), ([18, 13], [13, 18]), ([13], [13]), ([19, 20, 13], [13, 19, 20]), ([13, 21], [13, 21]), ([22, 13], [22]), ([23], [23]), ([23], [23]), ([24, 25, 23, 23], [23, 24, 25]), ([23], [23]), ([23], [23]), ([27, 28, 26, 23], [23, 27, 28]), ([26, 29, 29, 23], [23, 26, 29]), ([23, 30], [23, 30]), ([31, 30, 0, 1, 2, 3, 4, 5, 6, 7, 8, 9, 10, 11, 12, 13, 14, 15, 16, 17, 18, 19, 20, 21, 22, 23, 24, 25, 26, 27, 28, 29, 30, 31], [31])])
def laws_FnRound.B16 : List Nat := [0, 1, 3, 7, 15, 15, 47, 111, 255, 511, 15, 2047, 4095, 8191, 16383, 16383, 65535, 131071, 262143, 524287, 16383, 2097151, 4194303, 8388607, 16777215, 16777215, 67108863, 16777215, 16777215, 536870911, 1073741823, 2147483647, 4294967295]
theorem laws_FnRound.tab16 : rtab .any (opsOf Try.f3 16) = laws_FnRound.T16 := by kernel_rfl
theorem laws_FnRound.bits16 : waitsOk laws_FnRound.T16.2 laws_FnRound.B16 = true := by kernel_rfl
set_option maxHeartbeats 8000000 in
set_option maxRecDepth 100000 in
theorem laws_FnRound.calls (k : Nat) (A0 : Option Addr) (c0 : Nat) (l0 : List Int) (r : Bool) (w : World) (hr0 : Kd.C (Kd.int .u8) w A0 l0.length l0) (hc0 : l0.length ≤ c0) (h : laws_FnRound.f k l0 = some r) :
    Calls Try.prog 3 #[.slice A0 l0.length c0] w fun e w' => e = .returned (.bool r) ∧ Below w.heap.size w w' := by
 have hu25 := Try.underlying25
 have hu30 := Try.underlying30
 have HR0 := M_ hr0
 have HC0 := M_ hc0
 clear hr0 hc0
 have HB := M_ (Below.refl w.heap.size w)
 have H : (if (l0.length : Int) > 1048576 then (some true) else ((spec_DrawTakeMatrix.f k l0).bind fun bt494 => ((impl_TakeMatrix.f k bt494.1 bt494.2.1 bt494.2.2.1 bt494.2.2.2.1 bt494.2.2.2.2).bind fun bt506 => (if bt506.2.2.2 = true then ((impl_DropMatrix.f k bt494.1 bt494.2.1 bt494.2.2.1 bt506.1 bt506.2.1 bt506.2.2.1).bind fun bt515 => ((impl_FallOf.f k bt494.2.2.1 bt506.2.2.1).bind fun t520 => ((impl_MatrixOk.f k bt494.1 bt494.2.1 bt494.2.2.1 bt506.2.1 bt506.2.2.1).bind fun t521 => (if t521 = true then (if (bt506.1.length : Int) = (bt494.2.2.2.1.length : Int) then (if t520 < 0 then (none) else (laws_FnRound.j0 k bt494.2.2.2.1 bt494.2.2.2.2 bt506.1 bt515.1 bt515.2.1 bt515.2.2 t520 (decide (t520 ≥ (bt494.2.2.2.1.length : Int))) bt494.1 bt494.2.1 bt494.2.2.1 bt506.2.1 bt506.2.2.1)) else (none)) else (none))))) else (none))))) = some r := h
 clear h
 by_cases c2 : (l0.length : Int) > 1048576
 ·rw [if_pos c2] at H
  have c2b0 : decide (1048576 < (l0.length : Int)) = true := dt_ c2
  have c2b1 : decide (1048576 < l0.length) = true := dt_ (by omega)
  clear c2
  obtain rfl := Option.some.inj H
  go_enter Try.func3, Try.ntmps3
  go_wp2
  go_ret
  exact ⟨rb_, bw0_ HB.out⟩
 ·rw [if_neg c2] at H
  have c2b0 : decide (1048576 < (l0.length : Int)) = false := decide_eq_false c2
  have c2b1 : decide (1048576 < l0.length) = false := decide_eq_false (by omega)
  clear c2
  replace H := bs_ H
  obtain ⟨⟨t494, t495, t498, t501, t504⟩, A30, H⟩ := H
  dsimp only at H
  have A3 := M_ A30
  clear A30
  replace H := bs_ H
  obtain ⟨⟨t506, t509, t510, t511⟩, A40, H⟩ := H
  dsimp only at H
  have A4 := M_ A40
  clear A40
  by_cases c5 : t511 = true
  ·subst c5
   rw [if_pos rfl] at H
   replace H := bs_ H
   obtain ⟨⟨t515, t518, t519⟩, A60, H⟩ := H
   dsimp only at H
   have A6 := M_ A60
   clear A60
   replace H := bs_ H
   obtain ⟨t520, A70, H⟩ := H
   (try dsimp only at H)
   have A7 := M_ A70
   clear A70
   have HC8 := M_ H
   clear H
   go_enter Try.func3, Try.ntmps3
   go_upto_region 9 with (first | ((with_reducible refine gate_callee (f := 20) rfl ?_); refine gl_ (some 19) Try.func20 #[.slice A0 l0.length c0] ?_; (with_reducible refine (spec_DrawTakeMatrix.calls k _ _ l0 t494 t495 t498 t501 t504 _ ?side1 ?side2 A3.out).mono ?_); (case side1 => exact kD_ HR0.out); (case side2 => exact HC0.out); rintro e w9 ⟨v496, v499, v502, rfl, ho0, ho1, ho2, hb⟩; refine ⟨_, rfl, ?_⟩; have z_ := t4_ (Kd.R_lower ho0 (below_size (bw0_ HB.out))) (Kd.R_lower ho1 (below_size (bw0_ HB.out))) (Kd.N_lower (Kd.N_mono (ok' := fun k_ => some k_ ≠ (v496 : Value).ownBlock ∧ some k_ ≠ (v499 : Value).ownBlock) (Kd.S_N (Kd.S_bound (Kd.S_apart' (Kd.S_apart' ho2 (Kd.R_typed ho0) (by decide)) (Kd.R_typed ho1) (by decide)))) (fun k_ hk_ => ⟨hk_.1.1.2, hk_.1.2⟩)) (below_size (bw0_ HB.out))) (bS_ (bw0_ HB.out) hb); clear HB; obtain ⟨HO497, HO500, HO503, HB⟩ := z_; (try clear ho2 ho1 ho0 hb)) | ((with_reducible refine gate_dst (N := 3) rfl ?_); (try (refine gate_guard (by rfl) ?_; dsimp only)); refine be_ 3 #[.string (⟨#[]⟩ : ByteArray), .slice none 0 0, .slice none 0 0] 25 ?_; intro gb505 hg w10 hbox hb; have z_ := t6_ (rB_ (kR_ HO497.out) hb) (rB_ (kR_ HO500.out) hb) (nB_ (Kd.N_elderB (kN_ HO503.out) gb505 (Nat.le_of_eq hg.symm)) hb) (bS_ (bw0_ HB.out) hb) hbox (gv_ hg (bw0_ HB.out) : w.heap.size ≤ gb505); clear HB HO503 HO500 HO497; obtain ⟨HO497, HO500, HO503, HB, BK505, GE505⟩ := z_; clear hb hbox hg; have hcz11_0 := cz_ BK505.out 0 (.string (⟨#[]⟩ : ByteArray)); have hcz11_1 := cz_ BK505.out 1 (.slice none 0 0); have hcz11_2 := cz_ BK505.out 2 (.slice none 0 0); have hfz11_0 := fz_ BK505.out 0; have hfz11_1 := fz_ BK505.out 1; have hfz11_2 := fz_ BK505.out 2; obtain ⟨Ao12, co12, eo12⟩ := Kd.R_slice HO497.out; subst eo12; obtain ⟨Ao13, co13, eo13⟩ := Kd.R_slice HO500.out; subst eo13; obtain ⟨Ao14, co14, eo14⟩ := Kd.N_slice HO503.out; subst eo14) | ((with_reducible refine gate_callee (f := 21) rfl ?_); refine gl_ (some 27) Try.func21 #[.agg #[.string t494, .slice Ao12 t495.length co12, .slice Ao13 t498.length co13], .slice Ao14 t501.length co14, .int .i64 t504] ?_; (with_reducible refine (impl_TakeMatrix.calls k t494 _ _ t495 _ _ t498 _ _ t501 t504 t506 t509 t510 true _ ?side1 ?side2 ?side3 ?side4 ?side5 ?side6 A4.out).mono ?_); (case side1 => refine (Kd.R_reads' (e := 3) (base := w.heap.size) (ok := fun k_ => some k_ ≠ (.slice Ao13 t498.length co13 : Value).ownBlock) (n := t495.length) (c := co12) ?_).2.2; exact (by refine kR_ ?_; exact (fR3_ HO497.out BK505.out))); (case side2 => exact (Kd.R_reads' HO497.out).2.1); (case side3 => refine (Kd.R_reads' (e := 3) (base := w.heap.size) (ok := fun k_ => some k_ ≠ (.slice Ao12 t495.length co12 : Value).ownBlock) (n := t498.length) (c := co13) ?_).2.2; exact (by refine kR_ ?_; exact (fR3_ HO500.out BK505.out))); (case side4 => exact (Kd.R_reads' HO500.out).2.1); (case side5 => refine (Kd.N_reads' (e := 34) (base := w.heap.size) (ok := fun k_ => ((some k_ ≠ (.slice Ao12 t495.length co12 : Value).ownBlock ∧ some k_ ≠ (.slice Ao13 t498.length co13 : Value).ownBlock) ∧ k_ ≠ gb505)) (n := t501.length) (c := co14) ?_).2.2; exact (by refine kN_ ?_; exact (Kd.N_mono (Kd.N_far (p := ⟨gb505, 2, none⟩) (Kd.N_far (p := ⟨gb505, 1, none⟩) (Kd.N_far (p := ⟨gb505, 0, none⟩) (Kd.N_mono HO503.out (fun k_ hk => (⟨hk, hk.2⟩ : _ ∧ k_ ≠ gb505))) (fun _ hk => hk.2) (.string t494)) (fun _ hk => hk.2) (.slice Ao12 t495.length co12)) (fun _ hk => hk.2) (.slice Ao13 t498.length co13)) (fun _ h_ => h_.1)))); (case side6 => exact (Kd.N_reads' HO503.out).2.1); rintro e w15 ⟨v507, rfl, ho0, hb⟩; refine ⟨_, rfl, ?_⟩; have z_ := t6_ (rB_ (by refine kR_ ?_; exact (fR3_ HO497.out BK505.out)) hb) (rB_ (by refine kR_ ?_; exact (fR3_ HO500.out BK505.out)) hb) (Kd.N_elder' (by refine kN_ ?_; exact (Kd.N_mono (Kd.N_far (p := ⟨gb505, 2, none⟩) (Kd.N_far (p := ⟨gb505, 1, none⟩) (Kd.N_far (p := ⟨gb505, 0, none⟩) (Kd.N_mono HO503.out (fun k_ hk => (⟨hk, hk.2⟩ : _ ∧ k_ ≠ gb505))) (fun _ hk => hk.2) (.string t494)) (fun _ hk => hk.2) (.slice Ao12 t495.length co12)) (fun _ hk => hk.2) (.slice Ao13 t498.length co13)) (fun _ h_ => h_.1))) (by first | exact Kd.N_base ho0 | exact Kd.S_base ho0) hb) (Kd.N_lower (Kd.N_mono (ok' := fun k_ => some k_ ≠ (.slice Ao12 t495.length co12 : Value).ownBlock ∧ some k_ ≠ (.slice Ao13 t498.length co13 : Value).ownBlock ∧ some k_ ≠ (.slice Ao14 t501.length co14 : Value).ownBlock ∧ k_ ≠ gb505) ho0 (fun k_ hk_ => ⟨(Kd.fresh' (Kd.R_lt (by refine kR_ ?_; exact (fR3_ HO497.out BK505.out))) k_ hk_), (Kd.fresh' (Kd.R_lt (by refine kR_ ?_; exact (fR3_ HO500.out BK505.out))) k_ hk_), (Kd.fresh' (Kd.N_lt (by refine kN_ ?_; exact (Kd.N_mono (Kd.N_far (p := ⟨gb505, 2, none⟩) (Kd.N_far (p := ⟨gb505, 1, none⟩) (Kd.N_far (p := ⟨gb505, 0, none⟩) (Kd.N_mono HO503.out (fun k_ hk => (⟨hk, hk.2⟩ : _ ∧ k_ ≠ gb505))) (fun _ hk => hk.2) (.string t494)) (fun _ hk => hk.2) (.slice Ao12 t495.length co12)) (fun _ hk => hk.2) (.slice Ao13 t498.length co13)) (fun _ h_ => h_.1)))) k_ hk_), (Kd.freshB (g := gb505) (o := .cells #[.string t494, .slice Ao12 t495.length co12, .slice Ao13 t498.length co13] 25 (0, 0)) (by refine bk_ ?_; refine blk_put (cs := #[.string t494, .slice Ao12 t495.length co12, .slice none 0 0]) ?_ 2 _ rfl; refine bk_ ?_; refine blk_put (cs := #[.string t494, .slice none 0 0, .slice none 0 0]) ?_ 1 _ rfl; refine bk_ ?_; refine blk_put (cs := #[.string (⟨#[]⟩ : ByteArray), .slice none 0 0, .slice none 0 0]) ?_ 0 _ rfl; refine bk_ ?_; exact BK505.out) k_ hk_)⟩)) (below_size (bw1_ HB.out GE505.out))) (bB_ (g := gb505) (o := .cells #[.string t494, .slice Ao12 t495.length co12, .slice Ao13 t498.length co13] 25 (0, 0)) (by refine bk_ ?_; refine blk_put (cs := #[.string t494, .slice Ao12 t495.length co12, .slice none 0 0]) ?_ 2 _ rfl; refine bk_ ?_; refine blk_put (cs := #[.string t494, .slice none 0 0, .slice none 0 0]) ?_ 1 _ rfl; refine bk_ ?_; refine blk_put (cs := #[.string (⟨#[]⟩ : ByteArray), .slice none 0 0, .slice none 0 0]) ?_ 0 _ rfl; refine bk_ ?_; exact BK505.out) hb) (bS_ (bw1_ HB.out GE505.out) hb); clear HB BK505 HO503 HO500 HO497; obtain ⟨HO497, HO500, HO503, HO508, BK505, HB⟩ := z_; (try clear ho0 hb)) | ((with_reducible refine gate_dst (N := 7) rfl ?_); (try (refine gate_guard (by rfl) ?_; dsimp only)); refine be_ 7 #[.int .i64 0, .int .i64 0] 30 ?_; intro gb512 hg w16 hbox hb; have z_ := t9_ (rB_ (kR_ HO497.out) hb) (rB_ (kR_ HO500.out) hb) (nB_ (Kd.N_elderB (kN_ HO503.out) gb512 (Nat.le_of_eq hg.symm)) hb) (nB_ (Kd.N_elderB (kN_ HO508.out) gb512 (Nat.le_of_eq hg.symm)) hb) (bB_ (bk_ BK505.out) hb) (bS_ (bw1_ HB.out GE505.out) hb) hbox (gv_ hg (bw1_ HB.out GE505.out) : w.heap.size ≤ gb512) (by rw [hg]; exact Nat.ne_of_lt (blk_lt (bk_ BK505.out)) : gb505 ≠ gb512); clear HB BK505 HO508 HO503 HO500 HO497; obtain ⟨HO497, HO500, HO503, HO508, BK505, HB, BK512, GE512, NB505_512⟩ := z_; have NB512_505 := M_ NB505_512.out.symm; clear hb hbox hg; have hnb17 := NB512_505.out; have hnc17 := NB505_512.out; have hcz18_0 := cz_ BK512.out 0 (.int .i64 0); have hcz18_1 := cz_ BK512.out 1 (.int .i64 0); have hfz18_0 := fz_ BK512.out 0; have hfz18_1 := fz_ BK512.out 1; have hcz19_0 := cz_ BK505.out 0 (.string t494); have hcz19_1 := cz_ BK505.out 1 (.slice Ao12 t495.length co12); have hcz19_2 := cz_ BK505.out 2 (.slice Ao13 t498.length co13); have hfz19_0 := fz_ BK505.out 0; have hfz19_1 := fz_ BK505.out 1; have hfz19_2 := fz_ BK505.out 2; obtain ⟨Ao20, co20, eo20⟩ := Kd.N_slice HO508.out; subst eo20) | ((with_reducible refine gate_callee (f := 23) rfl ?_); refine gl_ (some 59) Try.func23 #[.agg #[.string t494, .slice Ao12 t495.length co12, .slice Ao13 t498.length co13], .slice Ao20 t506.length co20, .agg #[.int .i64 t509, .int .i64 t510]] ?_; (with_reducible refine (impl_DropMatrix.calls k t494 _ _ t495 _ _ t498 _ _ t506 t509 t510 t515 t518 t519 _ ?side1 ?side2 ?side3 ?side4 ?side5 ?side6 A6.out).mono ?_); (case side1 => refine (Kd.R_reads' (e := 3) (base := w.heap.size) (ok := fun k_ => some k_ ≠ (.slice Ao13 t498.length co13 : Value).ownBlock) (n := t495.length) (c := co12) ?_).2.2; exact (by refine kR_ ?_; exact (fR2_ HO497.out BK512.out))); (case side2 => exact (Kd.R_reads' HO497.out).2.1); (case side3 => refine (Kd.R_reads' (e := 3) (base := w.heap.size) (ok := fun k_ => some k_ ≠ (.slice Ao12 t495.length co12 : Value).ownBlock) (n := t498.length) (c := co13) ?_).2.2; exact (by refine kR_ ?_; exact (fR2_ HO500.out BK512.out))); (case side4 => exact (Kd.R_reads' HO500.out).2.1); (case side5 => refine (Kd.N_reads' (e := 34) (base := w.heap.size) (ok := fun k_ => ((some k_ ≠ (.slice Ao12 t495.length co12 : Value).ownBlock ∧ (some k_ ≠ (.slice Ao13 t498.length co13 : Value).ownBlock ∧ (some k_ ≠ (.slice Ao14 t501.length co14 : Value).ownBlock ∧ k_ ≠ gb505))) ∧ k_ ≠ gb512)) (n := t506.length) (c := co20) ?_).2.2; exact (by refine kN_ ?_; exact (Kd.N_mono (Kd.N_far (p := ⟨gb512, 1, none⟩) (Kd.N_far (p := ⟨gb512, 0, none⟩) (Kd.N_mono HO508.out (fun k_ hk => (⟨hk, hk.2⟩ : _ ∧ k_ ≠ gb512))) (fun _ hk => hk.2) (.int .i64 t509)) (fun _ hk => hk.2) (.int .i64 t510)) (fun _ h_ => h_.1)))); (case side6 => exact (Kd.N_reads' HO508.out).2.1); rintro e w21 ⟨v516, rfl, ho0, hb⟩; refine ⟨_, rfl, ?_⟩; have z_ := t8_ (rB_ (by refine kR_ ?_; exact (fR2_ HO497.out BK512.out)) hb) (rB_ (by refine kR_ ?_; exact (fR2_ HO500.out BK512.out)) hb) (Kd.N_elder' (by refine kN_ ?_; exact (Kd.N_mono (Kd.N_far (p := ⟨gb512, 1, none⟩) (Kd.N_far (p := ⟨gb512, 0, none⟩) (Kd.N_mono HO503.out (fun k_ hk => (⟨hk, hk.2⟩ : _ ∧ k_ ≠ gb512))) (fun _ hk => hk.2) (.int .i64 t509)) (fun _ hk => hk.2) (.int .i64 t510)) (fun _ h_ => h_.1))) (by first | exact Kd.N_base ho0 | exact Kd.S_base ho0) hb) (Kd.N_elder' (by refine kN_ ?_; exact (Kd.N_mono (Kd.N_far (p := ⟨gb512, 1, none⟩) (Kd.N_far (p := ⟨gb512, 0, none⟩) (Kd.N_mono HO508.out (fun k_ hk => (⟨hk, hk.2⟩ : _ ∧ k_ ≠ gb512))) (fun _ hk => hk.2) (.int .i64 t509)) (fun _ hk => hk.2) (.int .i64 t510)) (fun _ h_ => h_.1))) (by first | exact Kd.N_base ho0 | exact Kd.S_base ho0) hb) (Kd.N_lower (Kd.N_mono (ok' := fun k_ => some k_ ≠ (.slice Ao12 t495.length co12 : Value).ownBlock ∧ some k_ ≠ (.slice Ao13 t498.length co13 : Value).ownBlock ∧ some k_ ≠ (.slice Ao14 t501.length co14 : Value).ownBlock ∧ some k_ ≠ (.slice Ao20 t506.length co20 : Value).ownBlock ∧ k_ ≠ gb505 ∧ k_ ≠ gb512) (Kd.S_N (Kd.S_bound ho0)) (fun k_ hk_ => ⟨(Kd.fresh' (Kd.R_lt (by refine kR_ ?_; exact (fR2_ HO497.out BK512.out))) k_ hk_.2.1), (Kd.fresh' (Kd.R_lt (by refine kR_ ?_; exact (fR2_ HO500.out BK512.out))) k_ hk_.2.1), (Kd.fresh' (Kd.N_lt (by refine kN_ ?_; exact (Kd.N_mono (Kd.N_far (p := ⟨gb512, 1, none⟩) (Kd.N_far (p := ⟨gb512, 0, none⟩) (Kd.N_mono HO503.out (fun k_ hk => (⟨hk, hk.2⟩ : _ ∧ k_ ≠ gb512))) (fun _ hk => hk.2) (.int .i64 t509)) (fun _ hk => hk.2) (.int .i64 t510)) (fun _ h_ => h_.1)))) k_ hk_.2.1), (Kd.fresh' (Kd.N_lt (by refine kN_ ?_; exact (Kd.N_mono (Kd.N_far (p := ⟨gb512, 1, none⟩) (Kd.N_far (p := ⟨gb512, 0, none⟩) (Kd.N_mono HO508.out (fun k_ hk => (⟨hk, hk.2⟩ : _ ∧ k_ ≠ gb512))) (fun _ hk => hk.2) (.int .i64 t509)) (fun _ hk => hk.2) (.int .i64 t510)) (fun _ h_ => h_.1)))) k_ hk_.2.1), (Kd.freshB (g := gb505) (o := .cells #[.string t494, .slice Ao12 t495.length co12, .slice Ao13 t498.length co13] 25 (0, 0)) (by refine bk_ ?_; refine blk_far ?_ NB505_512.out _; refine bk_ ?_; refine blk_far ?_ NB505_512.out _; refine bk_ ?_; exact BK505.out) k_ hk_.2.1), (Kd.freshB (g := gb512) (o := .cells #[.int .i64 t509, .int .i64 t510] 30 (0, 0)) (by refine bk_ ?_; refine blk_put (cs := #[.int .i64 t509, .int .i64 0]) ?_ 1 _ rfl; refine bk_ ?_; refine blk_put (cs := #[.int .i64 0, .int .i64 0]) ?_ 0 _ rfl; refine bk_ ?_; exact BK512.out) k_ hk_.2.1)⟩)) (below_size (bw2_ HB.out GE505.out GE512.out))) (bB_ (g := gb505) (o := .cells #[.string t494, .slice Ao12 t495.length co12, .slice Ao13 t498.length co13] 25 (0, 0)) (by refine bk_ ?_; refine blk_far ?_ NB505_512.out _; refine bk_ ?_; refine blk_far ?_ NB505_512.out _; refine bk_ ?_; exact BK505.out) hb) (bB_ (g := gb512) (o := .cells #[.int .i64 t509, .int .i64 t510] 30 (0, 0)) (by refine bk_ ?_; refine blk_put (cs := #[.int .i64 t509, .int .i64 0]) ?_ 1 _ rfl; refine bk_ ?_; refine blk_put (cs := #[.int .i64 0, .int .i64 0]) ?_ 0 _ rfl; refine bk_ ?_; exact BK512.out) hb) (bS_ (bw2_ HB.out GE505.out GE512.out) hb); clear HB BK512 BK505 HO508 HO503 HO500 HO497; obtain ⟨HO497, HO500, HO503, HO508, HO517, BK505, BK512, HB⟩ := z_; (try clear ho0 hb); have hcz22_0 := cz_ BK505.out 0 (.string t494); have hcz22_1 := cz_ BK505.out 1 (.slice Ao12 t495.length co12); have hcz22_2 := cz_ BK505.out 2 (.slice Ao13 t498.length co13); have hfz22_0 := fz_ BK505.out 0; have hfz22_1 := fz_ BK505.out 1; have hfz22_2 := fz_ BK505.out 2; have hcz23_0 := cz_ BK512.out 0 (.int .i64 t509); have hcz23_1 := cz_ BK512.out 1 (.int .i64 t510); have hfz23_0 := fz_ BK512.out 0; have hfz23_1 := fz_ BK512.out 1) | ((with_reducible refine gate_callee (f := 24) rfl ?_); refine gl_ (some 67) Try.func24 #[.slice Ao13 t498.length co13, .int .i64 t510] ?_; (with_reducible refine (impl_FallOf.calls k _ _ t498 t510 t520 _ ?side1 ?side2 A7.out).mono ?_); (case side1 => exact kD_ (Kd.R_reads' HO500.out).2.2); (case side2 => exact (Kd.R_reads' HO500.out).2.1); rintro e w' ⟨rfl, ⟨nd, rfl⟩⟩; refine ⟨_, rfl, ?_⟩))
   (try simp only [Act.put, lA_, lB_, lC_])
   go_cut [88] (fun v88 wc => ∃ (kq : Nat) (x88_7 : Bool), v88 = .bool x88_7 ∧ Aside0 (laws_FnRound.j0 kq t501 t504 t506 t515 t518 t519 t520 x88_7 t494 t495 t498 t509 t510 = some r) ∧ Aside0 (kq ≤ k) ∧ Aside0 (Kd.N (Kd.slice 30 k30) 34 wc w.heap.size (fun k_ => some k_ ≠ ((.slice Ao20 t506.length co20) : Value).ownBlock ∧ some k_ ≠ (v516 : Value).ownBlock ∧ some k_ ≠ ((.slice Ao12 t495.length co12) : Value).ownBlock ∧ some k_ ≠ ((.slice Ao13 t498.length co13) : Value).ownBlock ∧ k_ ≠ gb505 ∧ k_ ≠ gb512) (.slice Ao14 t501.length co14) t501) ∧ Aside0 (Kd.N (Kd.slice 30 k30) 34 wc w.heap.size (fun k_ => some k_ ≠ ((.slice Ao14 t501.length co14) : Value).ownBlock ∧ some k_ ≠ (v516 : Value).ownBlock ∧ some k_ ≠ ((.slice Ao12 t495.length co12) : Value).ownBlock ∧ some k_ ≠ ((.slice Ao13 t498.length co13) : Value).ownBlock ∧ k_ ≠ gb505 ∧ k_ ≠ gb512) (.slice Ao20 t506.length co20) t506) ∧ Aside0 (Kd.N (Kd.slice 30 k30) 34 wc w.heap.size (fun k_ => some k_ ≠ ((.slice Ao14 t501.length co14) : Value).ownBlock ∧ some k_ ≠ ((.slice Ao20 t506.length co20) : Value).ownBlock ∧ some k_ ≠ ((.slice Ao12 t495.length co12) : Value).ownBlock ∧ some k_ ≠ ((.slice Ao13 t498.length co13) : Value).ownBlock ∧ k_ ≠ gb505 ∧ k_ ≠ gb512) v516 t515) ∧ Aside0 (Kd.R (Kd.int .i64) 3 wc w.heap.size (fun k_ => some k_ ≠ ((.slice Ao13 t498.length co13) : Value).ownBlock) (.slice Ao12 t495.length co12) t495) ∧ Aside0 (Kd.R (Kd.int .i64) 3 wc w.heap.size (fun k_ => some k_ ≠ ((.slice Ao12 t495.length co12) : Value).ownBlock) (.slice Ao13 t498.length co13) t498) ∧ Aside0 (wc.heap[gb505]? = some (.cells #[.string t494, (.slice Ao12 t495.length co12), (.slice Ao13 t498.length co13)] 25 (0, 0))) ∧ Aside0 (wc.heap[gb512]? = some (.cells #[.int .i64 t509, .int .i64 t510] 30 (0, 0))) ∧ Aside0 (Below w.heap.size w wc))
   case first =>
    have H := HC8.out
    clear HC8
    replace H := bs_ H
    obtain ⟨t521, A240, H⟩ := H
    (try dsimp only at H)
    have A24 := M_ A240
    clear A240
    by_cases c25 : t521 = true
    ·subst c25
     rw [if_pos rfl] at H
     by_cases c26 : (t506.length : Int) = (t501.length : Int)
     ·rw [if_pos c26] at H
      have c26b0 := beq_iff_eq.mpr c26
      have c26b1 := bne_eq_false_iff_eq.mpr c26
      have c26b2 : (t506.length == t501.length) = true := by first | simpa using c26 | (simp at c26 ⊢; omega)
      clear c26
      (first | rw [c26b0] | (simp only [i64_w, i32_w]; rw [c26b0]) | skip)
      by_cases c27 : t520 < 0
      ·rw [if_pos c27] at H
       exact absurd H (by simp)
      ·rw [if_neg c27] at H
       have c27b0 := decide_eq_false c27
       clear c27
       have H' := M_ H
       clear H
       have hnb28 := NB505_512.out
       have hnc28 := NB512_505.out
       have hcz29_0 := cz_ BK505.out 0 (.string t494)
       have hcz29_1 := cz_ BK505.out 1 (.slice Ao12 t495.length co12)
       have hcz29_2 := cz_ BK505.out 2 (.slice Ao13 t498.length co13)
       have hfz29_0 := fz_ BK505.out 0
       have hfz29_1 := fz_ BK505.out 1
       have hfz29_2 := fz_ BK505.out 2
       have hcz30_0 := cz_ BK512.out 0 (.int .i64 t509)
       have hcz30_1 := cz_ BK512.out 1 (.int .i64 t510)
       have hfz30_0 := fz_ BK512.out 0
       have hfz30_1 := fz_ BK512.out 1
       go_wp2_with (first | ((with_reducible refine gate_callee (f := 25) rfl ?_); refine gl_ (some 70) Try.func25 #[.agg #[.string t494, .slice Ao12 t495.length co12, .slice Ao13 t498.length co13], .agg #[.int .i64 t509, .int .i64 t510]] ?_; (with_reducible refine (impl_MatrixOk.calls k t494 _ _ t495 _ _ t498 t509 t510 true _ ?side1 ?side2 ?side3 ?side4 A24.out).mono ?_); (case side1 => exact kD_ (Kd.R_reads' HO497.out).2.2); (case side2 => exact (Kd.R_reads' HO497.out).2.1); (case side3 => exact kD_ (Kd.R_reads' HO500.out).2.2); (case side4 => exact (Kd.R_reads' HO500.out).2.1); rintro e w31 ⟨rfl, hb⟩; refine ⟨_, rfl, ?_⟩; have z_ := t8_ (rB_ (kR_ HO497.out) hb) (rB_ (kR_ HO500.out) hb) (nB_ (kN_ HO503.out) hb) (nB_ (kN_ HO508.out) hb) (nB_ (kN_ HO517.out) hb) (bB_ (bk_ BK505.out) hb) (bB_ (bk_ BK512.out) hb) (bS_ (bw2_ HB.out GE505.out GE512.out) hb); clear HB BK512 BK505 HO517 HO508 HO503 HO500 HO497; obtain ⟨HO497, HO500, HO503, HO508, HO517, BK505, BK512, HB⟩ := z_; (try clear hb)))
       go_meet
       case rel => exact ⟨_, (decide (t520 ≥ (t501.length : Int))), (by first | rfl | (simp; done) | (simp [*]; done)), H', ⟨by first | omega | exact Nat.le_refl _⟩, ⟨by refine kN_ ?_; exact Kd.N_mono HO503.out (fun _ hk => ⟨hk.1.1.2, ⟨hk.2, ⟨hk.1.1.1.1.1, ⟨hk.1.1.1.1.2, ⟨hk.1.1.1.2, hk.1.2⟩⟩⟩⟩⟩)⟩, ⟨by refine kN_ ?_; exact Kd.N_mono HO508.out (fun _ hk => ⟨hk.1.1.2.2.1, ⟨hk.2, ⟨hk.1.1.1, ⟨hk.1.1.2.1, ⟨hk.1.1.2.2.2, hk.1.2⟩⟩⟩⟩⟩)⟩, ⟨by refine kN_ ?_; exact Kd.N_mono HO517.out (fun _ hk => ⟨hk.2.2.1, ⟨hk.2.2.2.1, ⟨hk.1, ⟨hk.2.1, ⟨hk.2.2.2.2.1, hk.2.2.2.2.2⟩⟩⟩⟩⟩)⟩, ⟨by refine kR_ ?_; exact HO497.out⟩, ⟨by refine kR_ ?_; exact HO500.out⟩, ⟨by refine bk_ ?_; exact BK505.out⟩, ⟨by refine bk_ ?_; exact BK512.out⟩, ⟨bw2_ HB.out GE505.out GE512.out⟩⟩
     ·rw [if_neg c26] at H
      exact absurd H (by simp)
    ·replace c25 := Bool.eq_false_iff.mpr c25
     subst c25
     rw [if_neg (show ¬ (false = true) by decide)] at H
     exact absurd H (by simp)
   case rest =>
    clear HC8
    (try clear hfz30_1 hfz30_0 hfz29_2 hfz29_1 hfz29_0 hfz23_1 hfz23_0 hfz22_2 hfz22_1 hfz22_0 hfz19_2 hfz19_1 hfz19_0 hfz18_1 hfz18_0 hfz11_2 hfz11_1 hfz11_0 hcz30_1 hcz30_0 hcz29_2 hcz29_1 hcz29_0 hcz23_1 hcz23_0 hcz22_2 hcz22_1 hcz22_0 hcz19_2 hcz19_1 hcz19_0 hcz18_1 hcz18_0 hcz11_2 hcz11_1 hcz11_0 c28 c27b0 c27 c26b2 c26b1 c26b0 c26 c25 c24 c23 c21 c20 c17 p6 c5 c3 p2 c2b1 c2b0 c2 c1)
    obtain ⟨kq, x88_7, rfl, HA, HJ7, HO_4, HO_6, HO_9, HO_506001, HO_506002, BK505, BK512, HB⟩ := hcut
    cases kq with
    | zero => exact absurd HA.out (by simp [laws_FnRound.j0])
    | succ kj7 =>
     have H := HA.out
     clear HA
     simp only [laws_FnRound.j0] at H
     by_cases c32 : x88_7 = true
     ·subst c32
      rw [if_pos rfl] at H
      exact absurd H (by simp)
     ·replace c32 := Bool.eq_false_iff.mpr c32
      subst c32
      rw [if_neg (show ¬ (false = true) by decide)] at H
      by_cases c33 : t519 = true
      ·subst c33
       rw [if_pos rfl] at H
       have HC34 := M_ H
       clear H
       go_upto_region 13 with (fail)
       go_cut [135] (fun v135 wc => ∃ (kq : Nat) (x135_33 : Bool), v135 = .bool x135_33 ∧ Aside0 (laws_FnRound.j1 kq t501 t504 t515 t518 x135_33 t494 t495 t498 t509 t510 = some r) ∧ Aside0 (kq ≤ kj7) ∧ Aside0 (Kd.N (Kd.slice 30 k30) 34 wc w.heap.size (fun k_ => some k_ ≠ (v516 : Value).ownBlock ∧ some k_ ≠ ((.slice Ao12 t495.length co12) : Value).ownBlock ∧ some k_ ≠ ((.slice Ao13 t498.length co13) : Value).ownBlock ∧ k_ ≠ gb505 ∧ k_ ≠ gb512) (.slice Ao14 t501.length co14) t501) ∧ Aside0 (Kd.N (Kd.slice 30 k30) 34 wc w.heap.size (fun k_ => some k_ ≠ ((.slice Ao14 t501.length co14) : Value).ownBlock ∧ some k_ ≠ ((.slice Ao12 t495.length co12) : Value).ownBlock ∧ some k_ ≠ ((.slice Ao13 t498.length co13) : Value).ownBlock ∧ k_ ≠ gb505 ∧ k_ ≠ gb512) v516 t515) ∧ Aside0 (Kd.R (Kd.int .i64) 3 wc w.heap.size (fun k_ => some k_ ≠ ((.slice Ao13 t498.length co13) : Value).ownBlock) (.slice Ao12 t495.length co12) t495) ∧ Aside0 (Kd.R (Kd.int .i64) 3 wc w.heap.size (fun k_ => some k_ ≠ ((.slice Ao12 t495.length co12) : Value).ownBlock) (.slice Ao13 t498.length co13) t498) ∧ Aside0 (wc.heap[gb505]? = some (.cells #[.string t494, (.slice Ao12 t495.length co12), (.slice Ao13 t498.length co13)] 25 (0, 0))) ∧ Aside0 (wc.heap[gb512]? = some (.cells #[.int .i64 t509, .int .i64 t510] 30 (0, 0))) ∧ Aside0 (Below w.heap.size w wc))
       case first =>
        have H := HC34.out
        clear HC34
        by_cases c35 : t518 = t520
        ·rw [if_pos c35] at H
         have c35b0 := beq_iff_eq.mpr c35
         have c35b1 := bne_eq_false_iff_eq.mpr c35
         clear c35
         (first | rw [c35b0] | (simp only [i64_w, i32_w]; rw [c35b0]) | skip)
         by_cases c36 : t509 < 0
         ·rw [if_pos c36] at H
          exact absurd H (by simp)
         ·rw [if_neg c36] at H
          have c36b0 := decide_eq_false c36
          clear c36
          by_cases c37 : t509 ≥ (t501.length : Int)
          ·rw [if_pos c37] at H
           exact absurd H (by simp)
          ·rw [if_neg c37] at H
           have c37b0 : decide ((t501.length : Int) ≤ t509) = false := decide_eq_false c37
           clear c37
           by_cases c38 : 0 ≤ t509
           ·rw [if_pos c38] at H
            have c38b0 := dt_ c38
            clear c38
            by_cases c39 : t509 < (t498.length : Int)
            ·rw [if_pos c39] at H
             have c39b0 := dt_ c39
             clear c39
             by_cases c40 : t510 = (rd t498 t509)
             ·rw [if_pos c40] at H
              have c40b0 := beq_iff_eq.mpr c40
              have c40b1 := bne_eq_false_iff_eq.mpr c40
              clear c40
              by_cases c41 : t518 = t509
              ·rw [if_pos c41] at H
               have c41b0 := beq_iff_eq.mpr c41
               have c41b1 := bne_eq_false_iff_eq.mpr c41
               clear c41
               have H' := M_ H
               clear H
               try go_wp2
               have z_ := t8_ (Kd.N_drew HO_4.out) (Kd.N_drew HO_6.out) (Kd.N_drew HO_9.out) (Kd.R_drew HO_506001.out) (Kd.R_drew HO_506002.out) (blk_drew BK505.out) (blk_drew BK512.out) (below_drew1 HB.out)
               (try clear HO_4)
               clear HO_6
               (try clear HO_506002 HO_506001 HO_9)
               clear HB BK512 BK505
               obtain ⟨HO_4, HO_6, HO_9, HO_506001, HO_506002, BK505, BK512, HB⟩ := z_
               have p523 : 0 ≤ (t509 : Int) := od_ as_
               have q523 : t509 < (t498.length : Int) := od_ as_
               obtain ⟨ad523, e523, hx523_0⟩ := Kd.at_int (Kd.R_reads' HO_506002.out).2.2 t509 p523 q523
               cases e523
               replace p523 := eq_true p523
               replace q523 := eq_true q523
               obtain ⟨Ao43, co43, eo43⟩ := Kd.N_slice HO_9.out
               (first | subst eo43 | (injection eo43 with f1_ f2_ f3_; have f4_ := f1_.symm; have f5_ := f3_.symm; clear f1_ f2_ f3_; subst f4_; subst f5_))
               refine start_ (n := 39) (S := fun w' => w'.cell? ⟨gb512, 0, none⟩ = some (.int .i64 t509) ∧ w'.cell? ⟨gb512, 1, none⟩ = some (.int .i64 t510) ∧ w'.cell? ⟨gb505, 0, none⟩ = some (.string t494) ∧ w'.cell? ⟨gb505, 1, none⟩ = some (.slice Ao12 t495.length co12) ∧ w'.cell? ⟨gb505, 2, none⟩ = some (.slice (some ad523) t498.length co13) ∧ w'.cell? (ad523.add (t509).toNat) = some (.int .i64 (rd t498 t509))) (ds := []) (mk_ 39 0) (by kernel_rfl) rfl rfl ⟨(blk_cell BK512.out 0).trans rfl, (blk_cell BK512.out 1).trans rfl, (blk_cell BK505.out 0).trans rfl, (blk_cell BK505.out 1).trans rfl, (blk_cell BK505.out 2).trans rfl, hx523_0⟩ (fun hHeld => ?_); refine with_tabW laws_FnRound.tab13 laws_FnRound.bits13 (fun HT_ HW_ => ?_)
               generalize wc.drew = w42 at HO_4 HO_6 HO_9 HO_506001 HO_506002 BK505 BK512 HB hx523_0 hHeld ⊢
               refine pu_ 0 (some 97) (mk_ 39 1) HT_.out ?_
               refine pu_ 1 (some 98) (mk_ 39 3) HT_.out ?_
               refine pu_ 2 (some 99) (mk_ 39 7) HT_.out ?_
               refine pu_ 3 (some 100) (mk_ 39 15) HT_.out ?_
               refine pu_ 4 (some 101) (mk_ 39 31) HT_.out ?_
               refine ta_ 5 (some 102) (mk_ 39 63) HT_.out HW_.out hHeld (hy := by rintro w' ⟨s0, s1, s2, s3, s4, s5⟩; go_simp; with_reducible rfl) (h := ?_)
               refine pu_ 6 (some 103) (mk_ 39 127) HT_.out ?_
               refine pu_ 7 (some 104) (mk_ 39 255) HT_.out ?_
               refine pu_ 8 (some 105) (mk_ 39 511) HT_.out ?_
               refine pu_ 9 (some 106) (mk_ 39 1023) HT_.out ?_
               refine pu_ 11 (some 108) (mk_ 39 3071) HT_.out ?_
               refine pu_ 12 (some 109) (mk_ 39 7167) HT_.out ?_
               refine ta_ 10 (some 107) (mk_ 39 8191) HT_.out HW_.out hHeld (hy := by rintro w' ⟨s0, s1, s2, s3, s4, s5⟩; go_simp; with_reducible rfl) (h := ?_)
               refine pu_ 13 (some 110) (mk_ 39 16383) HT_.out ?_
               refine pu_ 14 (some 111) (mk_ 39 32767) HT_.out ?_
               refine pu_ 15 (some 112) (mk_ 39 65535) HT_.out ?_
               refine pu_ 16 (some 113) (mk_ 39 131071) HT_.out ?_
               refine pu_ 18 (some 115) (mk_ 39 393215) HT_.out ?_
               refine pu_ 20 (some 117) (mk_ 39 1441791) HT_.out ?_
               refine ta_ 17 (some 114) (mk_ 39 1572863) HT_.out HW_.out hHeld (hy := by rintro w' ⟨s0, s1, s2, s3, s4, s5⟩; go_simp; with_reducible rfl) (h := ?_)
               refine ta_ 19 (some 116) (mk_ 39 2097151) HT_.out HW_.out hHeld (hy := by rintro w' ⟨s0, s1, s2, s3, s4, s5⟩; go_simp; with_reducible rfl) (h := ?_)
               refine ta_ 21 (some 118) (mk_ 39 4194303) HT_.out HW_.out hHeld (hy := by rintro w' ⟨s0, s1, s2, s3, s4, s5⟩; go_simp; with_reducible rfl) (h := ?_)
               refine pu_ 22 (some 119) (mk_ 39 8388607) HT_.out ?_
               refine ta_ 23 (some 120) (mk_ 39 16777215) HT_.out HW_.out hHeld (hy := by rintro w' ⟨s0, s1, s2, s3, s4, s5⟩; go_simp; with_reducible rfl) (h := ?_)
               refine pu_ 24 (some 121) (mk_ 39 33554431) HT_.out ?_
               refine pu_ 25 (some 122) (mk_ 39 67108863) HT_.out ?_
               refine pu_ 26 (some 123) (mk_ 39 134217727) HT_.out ?_
               refine pu_ 27 (some 124) (mk_ 39 268435455) HT_.out ?_
               refine ta_ 28 (some 125) (mk_ 39 536870911) HT_.out HW_.out hHeld (hy := by rintro w' ⟨s0, s1, s2, s3, s4, s5⟩; go_simp; with_reducible rfl) (h := ?_)
               refine pu_ 29 (some 126) (mk_ 39 1073741823) HT_.out ?_
               refine pu_ 30 (some 127) (mk_ 39 2147483647) HT_.out ?_
               refine pu_ 31 (some 128) (mk_ 39 4294967295) HT_.out ?_
               refine pu_ 32 (some 129) (mk_ 39 8589934591) HT_.out ?_
               refine pu_ 33 (some 130) (mk_ 39 17179869183) HT_.out ?_
               refine pu_ 34 (some 131) (mk_ 39 34359738367) HT_.out ?_
               refine pu_ 35 (some 132) (mk_ 39 68719476735) HT_.out ?_
               refine pu_ 36 (some 133) (mk_ 39 137438953471) HT_.out ?_
               refine pu_ 37 (some 134) (mk_ 39 274877906943) HT_.out ?_
               refine pu_ 38 (some 135) (mk_ 39 549755813887) HT_.out ?_
               refine done_ (done_of HT_.out (by kernel_rfl)) ?_
               try go_wp2
               go_meet
               case rel => exact ⟨_, (((t515.length : Int) != (t501.length : Int))), (by first | rfl | (simp; done) | (simp [*]; done)), H', ⟨by have := HJ7.out; first | omega | exact Nat.le_refl _⟩, ⟨by refine kN_ ?_; exact Kd.N_mono HO_4.out (fun _ hk => ⟨hk.2.1, ⟨hk.2.2.1, ⟨hk.2.2.2.1, ⟨hk.2.2.2.2.1, hk.2.2.2.2.2⟩⟩⟩⟩)⟩, ⟨by refine kN_ ?_; exact Kd.N_mono HO_9.out (fun _ hk => ⟨hk.1, ⟨hk.2.2.1, ⟨hk.2.2.2.1, ⟨hk.2.2.2.2.1, hk.2.2.2.2.2⟩⟩⟩⟩)⟩, ⟨by refine kR_ ?_; exact HO_506001.out⟩, ⟨by refine kR_ ?_; exact HO_506002.out⟩, ⟨by refine bk_ ?_; exact BK505.out⟩, ⟨by refine bk_ ?_; exact BK512.out⟩, ⟨bw2_ HB.out GE505.out GE512.out⟩⟩
              ·rw [if_neg c41] at H
               exact absurd H (by simp)
             ·rw [if_neg c40] at H
              have c40b0 : (t510 == (rd t498 t509)) = false := beq_eq_false_iff_ne.mpr c40
              have c40b1 : (t510 != (rd t498 t509)) = true := bne_iff_ne.mpr c40
              have H' := M_ H
              clear H
              try go_wp2
              have z_ := t8_ (Kd.N_drew HO_4.out) (Kd.N_drew HO_6.out) (Kd.N_drew HO_9.out) (Kd.R_drew HO_506001.out) (Kd.R_drew HO_506002.out) (blk_drew BK505.out) (blk_drew BK512.out) (below_drew1 HB.out)
              (try clear HO_4)
              clear HO_6
              (try clear HO_506002 HO_506001 HO_9)
              clear HB BK512 BK505
              obtain ⟨HO_4, HO_6, HO_9, HO_506001, HO_506002, BK505, BK512, HB⟩ := z_
              have p523 : 0 ≤ (t509 : Int) := od_ as_
              have q523 : t509 < (t498.length : Int) := od_ as_
              obtain ⟨ad523, e523, hx523_0⟩ := Kd.at_int (Kd.R_reads' HO_506002.out).2.2 t509 p523 q523
              cases e523
              replace p523 := eq_true p523
              replace q523 := eq_true q523
              obtain ⟨Ao45, co45, eo45⟩ := Kd.N_slice HO_9.out
              (first | subst eo45 | (injection eo45 with f1_ f2_ f3_; have f4_ := f1_.symm; have f5_ := f3_.symm; clear f1_ f2_ f3_; subst f4_; subst f5_))
              refine start_ (n := 39) (S := fun w' => w'.cell? ⟨gb512, 0, none⟩ = some (.int .i64 t509) ∧ w'.cell? ⟨gb512, 1, none⟩ = some (.int .i64 t510) ∧ w'.cell? ⟨gb505, 0, none⟩ = some (.string t494) ∧ w'.cell? ⟨gb505, 1, none⟩ = some (.slice Ao12 t495.length co12) ∧ w'.cell? ⟨gb505, 2, none⟩ = some (.slice (some ad523) t498.length co13) ∧ w'.cell? (ad523.add (t509).toNat) = some (.int .i64 (rd t498 t509))) (ds := []) (mk_ 39 0) (by kernel_rfl) rfl rfl ⟨(blk_cell BK512.out 0).trans rfl, (blk_cell BK512.out 1).trans rfl, (blk_cell BK505.out 0).trans rfl, (blk_cell BK505.out 1).trans rfl, (blk_cell BK505.out 2).trans rfl, hx523_0⟩ (fun hHeld => ?_); refine with_tabW laws_FnRound.tab13 laws_FnRound.bits13 (fun HT_ HW_ => ?_)
              generalize wc.drew = w44 at HO_4 HO_6 HO_9 HO_506001 HO_506002 BK505 BK512 HB hx523_0 hHeld ⊢
              refine pu_ 0 (some 97) (mk_ 39 1) HT_.out ?_
              refine pu_ 1 (some 98) (mk_ 39 3) HT_.out ?_
              refine pu_ 2 (some 99) (mk_ 39 7) HT_.out ?_
              refine pu_ 3 (some 100) (mk_ 39 15) HT_.out ?_
              refine pu_ 4 (some 101) (mk_ 39 31) HT_.out ?_
              refine ta_ 5 (some 102) (mk_ 39 63) HT_.out HW_.out hHeld (hy := by rintro w' ⟨s0, s1, s2, s3, s4, s5⟩; go_simp; with_reducible rfl) (h := ?_)
              refine pu_ 6 (some 103) (mk_ 39 127) HT_.out ?_
              refine pu_ 7 (some 104) (mk_ 39 255) HT_.out ?_
              refine pu_ 8 (some 105) (mk_ 39 511) HT_.out ?_
              refine pu_ 9 (some 106) (mk_ 39 1023) HT_.out ?_
              refine pu_ 11 (some 108) (mk_ 39 3071) HT_.out ?_
              refine pu_ 12 (some 109) (mk_ 39 7167) HT_.out ?_
              refine ta_ 10 (some 107) (mk_ 39 8191) HT_.out HW_.out hHeld (hy := by rintro w' ⟨s0, s1, s2, s3, s4, s5⟩; go_simp; with_reducible rfl) (h := ?_)
              refine pu_ 13 (some 110) (mk_ 39 16383) HT_.out ?_
              refine pu_ 14 (some 111) (mk_ 39 32767) HT_.out ?_
              refine pu_ 15 (some 112) (mk_ 39 65535) HT_.out ?_
              refine pu_ 16 (some 113) (mk_ 39 131071) HT_.out ?_
              refine pu_ 18 (some 115) (mk_ 39 393215) HT_.out ?_
              refine pu_ 20 (some 117) (mk_ 39 1441791) HT_.out ?_
              refine ta_ 17 (some 114) (mk_ 39 1572863) HT_.out HW_.out hHeld (hy := by rintro w' ⟨s0, s1, s2, s3, s4, s5⟩; go_simp; with_reducible rfl) (h := ?_)
              refine ta_ 19 (some 116) (mk_ 39 2097151) HT_.out HW_.out hHeld (hy := by rintro w' ⟨s0, s1, s2, s3, s4, s5⟩; go_simp; with_reducible rfl) (h := ?_)
              refine ta_ 21 (some 118) (mk_ 39 4194303) HT_.out HW_.out hHeld (hy := by rintro w' ⟨s0, s1, s2, s3, s4, s5⟩; go_simp; with_reducible rfl) (h := ?_)
              refine pu_ 22 (some 119) (mk_ 39 8388607) HT_.out ?_
              refine ta_ 23 (some 120) (mk_ 39 16777215) HT_.out HW_.out hHeld (hy := by rintro w' ⟨s0, s1, s2, s3, s4, s5⟩; go_simp; with_reducible rfl) (h := ?_)
              refine pu_ 24 (some 121) (mk_ 39 33554431) HT_.out ?_
              refine pu_ 25 (some 122) (mk_ 39 67108863) HT_.out ?_
              refine pure_ (i := 26) (N := some 123) (v := undef) (a' := ?_) (mk_ 39 134217727) rfl rfl (any_of HT_.out (by kernel_rfl)) (fun _ _ _ h => h) (Or.inr ⟨by rfl, rfl⟩) ?_ ?_
              rotate_left
              ·simp only [Act.put, lA_, lB_, lC_, i64_w, i32_w]
               rfl
              refine pure_ (i := 27) (N := some 124) (v := undef) (a' := ?_) (mk_ 39 268435455) rfl rfl (any_of HT_.out (by kernel_rfl)) (fun _ _ _ h => h) (Or.inr ⟨by rfl, rfl⟩) ?_ ?_
              rotate_left
              ·simp only [Act.put, lA_, lB_, lC_, i64_w, i32_w]
               rfl
              refine pure_ (i := 28) (N := some 125) (v := undef) (a' := ?_) (mk_ 39 536870911) rfl rfl (any_of HT_.out (by kernel_rfl)) (fun _ _ _ h => h) (Or.inr ⟨by rfl, rfl⟩) ?_ ?_
              rotate_left
              ·simp only [Act.put, lA_, lB_, lC_, i64_w, i32_w]
               rfl
              refine pure_ (i := 29) (N := some 126) (v := undef) (a' := ?_) (mk_ 39 1073741823) rfl rfl (any_of HT_.out (by kernel_rfl)) (fun _ _ _ h => h) (Or.inr ⟨by rfl, rfl⟩) ?_ ?_
              rotate_left
              ·simp only [Act.put, lA_, lB_, lC_, i64_w, i32_w]
               rfl
              refine pu_ 30 (some 127) (mk_ 39 2147483647) HT_.out ?_
              refine pu_ 31 (some 128) (mk_ 39 4294967295) HT_.out ?_
              refine pu_ 32 (some 129) (mk_ 39 8589934591) HT_.out ?_
              refine pu_ 33 (some 130) (mk_ 39 17179869183) HT_.out ?_
              refine pu_ 34 (some 131) (mk_ 39 34359738367) HT_.out ?_
              refine pu_ 35 (some 132) (mk_ 39 68719476735) HT_.out ?_
              refine pu_ 36 (some 133) (mk_ 39 137438953471) HT_.out ?_
              refine pu_ 37 (some 134) (mk_ 39 274877906943) HT_.out ?_
              refine pu_ 38 (some 135) (mk_ 39 549755813887) HT_.out ?_
              refine done_ (done_of HT_.out (by kernel_rfl)) ?_
              try go_wp2
              go_meet
              case rel => exact ⟨_, (((t515.length : Int) != (t501.length : Int))), (by first | rfl | (simp; done) | (simp [*]; done)), H', ⟨by have := HJ7.out; first | omega | exact Nat.le_refl _⟩, ⟨by refine kN_ ?_; exact Kd.N_mono HO_4.out (fun _ hk => ⟨hk.2.1, ⟨hk.2.2.1, ⟨hk.2.2.2.1, ⟨hk.2.2.2.2.1, hk.2.2.2.2.2⟩⟩⟩⟩)⟩, ⟨by refine kN_ ?_; exact Kd.N_mono HO_9.out (fun _ hk => ⟨hk.1, ⟨hk.2.2.1, ⟨hk.2.2.2.1, ⟨hk.2.2.2.2.1, hk.2.2.2.2.2⟩⟩⟩⟩)⟩, ⟨by refine kR_ ?_; exact HO_506001.out⟩, ⟨by refine kR_ ?_; exact HO_506002.out⟩, ⟨by refine bk_ ?_; exact BK505.out⟩, ⟨by refine bk_ ?_; exact BK512.out⟩, ⟨bw2_ HB.out GE505.out GE512.out⟩⟩
            ·rw [if_neg c39] at H
             exact absurd H (by simp)
           ·rw [if_neg c38] at H
            exact absurd H (by simp)
        ·rw [if_neg c35] at H
         exact absurd H (by simp)
       case rest =>
        clear HC34
        (try clear q523 p523 hx523_0 c41 c40b1 c40b0 c40 c39 c38 c35 hx5 q5 p5 c4 c3 p2)
        obtain ⟨kq, x135_33, rfl, HA, HJ33, HO_4, HO_9, HO_506001, HO_506002, BK505, BK512, HB⟩ := hcut
        cases kq with
        | zero => exact absurd HA.out (by simp [laws_FnRound.j1])
        | succ kj33 =>
         have H := HA.out
         clear HA
         simp only [laws_FnRound.j1] at H
         by_cases c46 : x135_33 = true
         ·subst c46
          rw [if_pos rfl] at H
          exact absurd H (by simp)
         ·replace c46 := Bool.eq_false_iff.mpr c46
          subst c46
          rw [if_neg (show ¬ (false = true) by decide)] at H
          by_cases c47 : 0 ≤ t518
          ·rw [if_pos c47] at H
           have c47b0 := dt_ c47
           clear c47
           by_cases c48 : t518 < (t515.length : Int)
           ·rw [if_pos c48] at H
            have c48b0 := dt_ c48
            clear c48
            by_cases c49 : ((rd_L5 t515 t518).length : Int) > 0
            ·rw [if_pos c49] at H
             have c49b0 : decide (0 < ((rd_L5 t515 t518).length : Int)) = true := dt_ c49
             have c49b1 : decide (0 < (rd_L5 t515 t518).length) = true := dt_ (by omega)
             clear c49
             obtain ⟨ji50, hji50⟩ : ∃ j_ : Int, (wrap64 (((rd_L5 t515 t518).length : Int) - 1)) = j_ := ⟨_, rfl⟩
             replace H : (if 0 ≤ (ji50) then (if (ji50) < ((rd_L5 t515 t518).length : Int) then (if (((rd_T30 (rd_L5 t515 t518) (ji50)).f0) == t509 && (((rd_T30 (rd_L5 t515 t518) (ji50)).f1) == t510)) = true then (if 0 ≤ t504 then (if t504 < (t501.length : Int) then (if 0 < ((rd_L5 t501 t504).length : Int) then (if (((rd_T30 (rd_L5 t501 t504) 0).f0) == t509 && (((rd_T30 (rd_L5 t501 t504) 0).f1) == t510)) = true then ((impl_KindCounts.f kj33 t494 t495 t498 t515).bind fun t528 => ((impl_KindCounts.f kj33 t494 t495 t498 t501).bind fun t531 => ((laws_ints.f kj33 t528 t531).bind fun t534 => (some t534)))) else (none)) else (none)) else (none)) else (none)) else (none)) else (none)) else (none)) = some r := by first | (rw [hji50] at H; exact H) | (simp only [hji50] at H ⊢; exact H)
             have hji50w : (IntKind.i64.wrap (((rd_L5 t515 t518).length : Int) - 1)) = ji50 := (i64_w _).trans hji50
             by_cases c51 : 0 ≤ (ji50)
             ·rw [if_pos c51] at H
              have c51b0 := dt_ c51
              clear c51
              by_cases c52 : (ji50) < ((rd_L5 t515 t518).length : Int)
              ·rw [if_pos c52] at H
               have c52b0 := dt_ c52
               clear c52
               by_cases c53 : (((rd_T30 (rd_L5 t515 t518) (ji50)).f0) == t509 && (((rd_T30 (rd_L5 t515 t518) (ji50)).f1) == t510)) = true
               ·rw [if_pos c53] at H
                have c53b0 : (((rd_T30 (rd_L5 t515 t518) (ji50)).f0) == t509 && (((rd_T30 (rd_L5 t515 t518) (ji50)).f1) == t510)) = true := c53
                (try (have c53b1 : decide (((rd_T30 (rd_L5 t515 t518) (ji50)).f0) = t509 && (((rd_T30 (rd_L5 t515 t518) (ji50)).f1) == t510)) = true := by simpa using c53))
                (try (have c53b2 : (((rd_T30 (rd_L5 t515 t518) (ji50)).f0) == t509 && (((rd_T30 (rd_L5 t515 t518) (ji50)).f1) == t510)) = true := by simpa using c53))
                clear c53
                by_cases c54 : 0 ≤ t504
                ·rw [if_pos c54] at H
                 have c54b0 := dt_ c54
                 clear c54
                 by_cases c55 : t504 < (t501.length : Int)
                 ·rw [if_pos c55] at H
                  have c55b0 := dt_ c55
                  clear c55
                  by_cases c56 : 0 < ((rd_L5 t501 t504).length : Int)
                  ·rw [if_pos c56] at H
                   have c56b0 := dt_ c56
                   have c56b1 : decide (0 < (rd_L5 t501 t504).length) = true := dt_ (by omega)
                   clear c56
                   by_cases c57 : (((rd_T30 (rd_L5 t501 t504) 0).f0) == t509 && (((rd_T30 (rd_L5 t501 t504) 0).f1) == t510)) = true
                   ·rw [if_pos c57] at H
                    have c57b0 : (((rd_T30 (rd_L5 t501 t504) 0).f0) == t509 && (((rd_T30 (rd_L5 t501 t504) 0).f1) == t510)) = true := c57
                    (try (have c57b1 : decide (((rd_T30 (rd_L5 t501 t504) 0).f0) = t509 && (((rd_T30 (rd_L5 t501 t504) 0).f1) == t510)) = true := by simpa using c57))
                    (try (have c57b2 : (((rd_T30 (rd_L5 t501 t504) 0).f0) == t509 && (((rd_T30 (rd_L5 t501 t504) 0).f1) == t510)) = true := by simpa using c57))
                    clear c57
                    replace H := bs_ H
                    obtain ⟨t528, A580, H⟩ := H
                    (try dsimp only at H)
                    have A58 := M_ A580
                    clear A580
                    replace H := bs_ H
                    obtain ⟨t531, A590, H⟩ := H
                    (try dsimp only at H)
                    have A59 := M_ A590
                    clear A590
                    replace H := bs_ H
                    obtain ⟨t534, A600, H⟩ := H
                    (try dsimp only at H)
                    have A60 := M_ A600
                    clear A600
                    obtain rfl := Option.some.inj H
                    obtain ⟨Ao61, co61, eo61⟩ := Kd.N_slice HO_9.out
                    subst eo61
                    have p524 : 0 ≤ (t518 : Int) := od_ as_
                    have q524 : t518 < (t515.length : Int) := od_ as_
                    obtain ⟨ad524, A524_0, c524_0, e524, hx524_0, hl524_0, hi524_0⟩ := at_L5 (Kd.N_reads' HO_9.out).2.2 t518 p524 q524
                    cases e524
                    obtain ⟨ce524, hce524, hMe524, hcc524⟩ := Kd.N_get HO_9.out [] t518 p524 (by first | exact q524 | exact od_ as_ | (have e_ := (Kd.N_reads' HO_9.out).1; omega))
                    obtain ⟨ua524_0, uc524_0, rfl, ul524_0, ge524_0⟩ := Kd.FK_slice_open hMe524
                    have hv524_0 := hcc524 0 _ rfl
                    rw [Nat.add_zero, show ((Kd.slice 30 k30)).sz = 1 from rfl, Nat.mul_one] at hv524_0
                    replace hv524_0 := Option.some.inj (hv524_0.symm.trans hx524_0)
                    injection hv524_0 with hva_ hvn_ hvc_
                    rw [hva_] at ge524_0
                    rw [hvc_] at ul524_0
                    have HL524_0 := M_ (show Kd.V k30 30 _ w.heap.size _ _ (rd_L5 t515 t518) from Kd.V_mk ul524_0 ge524_0)
                    clear hce524 hcc524 ul524_0 ge524_0 hvc_ hvn_ hva_
                    have HR524_0 := M_ hi524_0
                    have HC524_0 := M_ hl524_0
                    clear hi524_0 hl524_0
                    replace p524 := eq_true p524
                    replace q524 := eq_true q524
                    try go_wp2
                    have z_ := t8_ (Kd.N_drew HO_4.out) (Kd.N_drew HO_9.out) (Kd.R_drew HO_506001.out) (Kd.R_drew HO_506002.out) (blk_drew BK505.out) (blk_drew BK512.out) (Kd.C_drew HR524_0.out) (below_drew1 HB.out)
                    (try clear HL524_0 HO_506002 HO_506001 HO_9 HO_4)
                    clear BK512 BK505
                    (try clear HR524_0)
                    clear HB
                    obtain ⟨HO_4, HO_9, HO_506001, HO_506002, BK505, BK512, HR524_0, HB⟩ := z_
                    have p525 : 0 ≤ ((ji50) : Int) := od_ as_
                    have q525 : (ji50) < ((rd_L5 t515 t518).length : Int) := od_ as_
                    obtain ⟨ad525, e525, hx525_0, hx525_1⟩ := at_T30 (kE_ HR524_0.out) (ji50) p525 q525
                    cases e525
                    replace p525 := eq_true p525
                    replace q525 := eq_true q525
                    have p526 : 0 ≤ (t504 : Int) := od_ as_
                    have q526 : t504 < (t501.length : Int) := od_ as_
                    obtain ⟨ad526, A526_0, c526_0, e526, hx526_0, hl526_0, hi526_0⟩ := at_L5 (Kd.N_reads' HO_4.out).2.2 t504 p526 q526
                    cases e526
                    obtain ⟨ce526, hce526, hMe526, hcc526⟩ := Kd.N_get HO_4.out [] t504 p526 (by first | exact q526 | exact od_ as_ | (have e_ := (Kd.N_reads' HO_4.out).1; omega))
                    obtain ⟨ua526_0, uc526_0, rfl, ul526_0, ge526_0⟩ := Kd.FK_slice_open hMe526
                    have hv526_0 := hcc526 0 _ rfl
                    rw [Nat.add_zero, show ((Kd.slice 30 k30)).sz = 1 from rfl, Nat.mul_one] at hv526_0
                    replace hv526_0 := Option.some.inj (hv526_0.symm.trans hx526_0)
                    injection hv526_0 with hva_ hvn_ hvc_
                    rw [hva_] at ge526_0
                    rw [hvc_] at ul526_0
                    have HL526_0 := M_ (show Kd.V k30 30 _ w.heap.size _ _ (rd_L5 t501 t504) from Kd.V_mk ul526_0 ge526_0)
                    clear hce526 hcc526 ul526_0 ge526_0 hvc_ hvn_ hva_
                    have HR526_0 := M_ hi526_0
                    have HC526_0 := M_ hl526_0
                    clear hi526_0 hl526_0
                    replace p526 := eq_true p526
                    replace q526 := eq_true q526
                    have p527 : 0 ≤ (0 : Int) := (by omega)
                    have q527 : 0 < ((rd_L5 t501 t504).length : Int) := od_ as_
                    obtain ⟨ad527, e527, hx527_0, hx527_1⟩ := at_T30 (kE_ HR526_0.out) 0 p527 q527
                    cases e527
                    have qi527 : (0 < (rd_L5 t501 t504).length) = True := eq_true (by omega)
                    (try rw [show ((0 : Int)).toNat = 0 from rfl] at hx527_0)
                    (try rw [show 0 * 2 = 0 from rfl] at hx527_0)
                    (try rw [Addr.add_zero'] at hx527_0)
                    (try rw [show ((0 : Int)).toNat = 0 from rfl] at hx527_1)
                    (try rw [show 0 * 2 = 0 from rfl] at hx527_1)
                    (try rw [Addr.add_zero'] at hx527_1)
                    replace p527 := eq_true p527
                    replace q527 := eq_true q527
                    refine start_ (n := 33) (S := fun w' => w'.cell? ⟨gb512, 0, none⟩ = some (.int .i64 t509) ∧ w'.cell? ⟨gb512, 1, none⟩ = some (.int .i64 t510) ∧ w'.cell? ⟨gb505, 0, none⟩ = some (.string t494) ∧ w'.cell? ⟨gb505, 1, none⟩ = some (.slice Ao12 t495.length co12) ∧ w'.cell? ⟨gb505, 2, none⟩ = some (.slice Ao13 t498.length co13) ∧ w'.cell? (ad525.add (((ji50)).toNat * 2)) = some (.int .i64 ((rd_T30 (rd_L5 t515 t518) (ji50)).f0)) ∧ w'.cell? ⟨(ad525.add (((ji50)).toNat * 2)).block, (ad525.add (((ji50)).toNat * 2)).off + 1, none⟩ = some (.int .i64 ((rd_T30 (rd_L5 t515 t518) (ji50)).f1)) ∧ w'.cell? (ad526.add (t504).toNat) = some (.slice (some ad527) (rd_L5 t501 t504).length c526_0) ∧ w'.cell? ad527 = some (.int .i64 ((rd_T30 (rd_L5 t501 t504) 0).f0)) ∧ w'.cell? ⟨ad527.block, ad527.off + 1, none⟩ = some (.int .i64 ((rd_T30 (rd_L5 t501 t504) 0).f1))) (ds := []) (mk_ 33 0) (by kernel_rfl) rfl rfl ⟨(blk_cell BK512.out 0).trans rfl, (blk_cell BK512.out 1).trans rfl, (blk_cell BK505.out 0).trans rfl, (blk_cell BK505.out 1).trans rfl, (blk_cell BK505.out 2).trans rfl, hx525_0, hx525_1, hx526_0, hx527_0, hx527_1⟩ (fun hHeld => ?_); refine with_tabW laws_FnRound.tab16 laws_FnRound.bits16 (fun HT_ HW_ => ?_)
                    generalize wc.drew = w62 at HO_4 HO_9 HO_506001 HO_506002 BK505 BK512 HR524_0 HB HL526_0 HR526_0 hx525_0 hx525_1 hx526_0 hx527_0 hx527_1 hHeld ⊢
                    refine pu_ 0 (some 140) (mk_ 33 1) HT_.out ?_
                    refine pu_ 1 (some 141) (mk_ 33 3) HT_.out ?_
                    refine pu_ 2 (some 142) (mk_ 33 7) HT_.out ?_
                    refine pu_ 3 (some 143) (mk_ 33 15) HT_.out ?_
                    refine pu_ 4 (some 144) (mk_ 33 31) HT_.out ?_
                    refine pu_ 5 (some 145) (mk_ 33 63) HT_.out ?_
                    refine pu_ 6 (some 146) (mk_ 33 127) HT_.out ?_
                    refine pu_ 7 (some 147) (mk_ 33 255) HT_.out ?_
                    refine pu_ 8 (some 148) (mk_ 33 511) HT_.out ?_
                    refine ta_ 9 (some 149) (mk_ 33 1023) HT_.out HW_.out hHeld (hy := by rintro w' ⟨s0, s1, s2, s3, s4, s5, s6, s7, s8, s9⟩; go_simp; with_reducible rfl) (h := ?_)
                    refine ta_ 10 (some 150) (mk_ 33 2047) HT_.out HW_.out hHeld (hy := by rintro w' ⟨s0, s1, s2, s3, s4, s5, s6, s7, s8, s9⟩; go_simp; with_reducible rfl) (h := ?_)
                    refine pu_ 11 (some 151) (mk_ 33 4095) HT_.out ?_
                    refine pu_ 12 (some 152) (mk_ 33 8191) HT_.out ?_
                    refine pu_ 13 (some 153) (mk_ 33 16383) HT_.out ?_
                    refine pu_ 14 (some 154) (mk_ 33 32767) HT_.out ?_
                    refine pu_ 15 (some 155) (mk_ 33 65535) HT_.out ?_
                    refine pu_ 16 (some 156) (mk_ 33 131071) HT_.out ?_
                    refine ta_ 17 (some 157) (mk_ 33 262143) HT_.out HW_.out hHeld (hy := by rintro w' ⟨s0, s1, s2, s3, s4, s5, s6, s7, s8, s9⟩; go_simp; with_reducible rfl) (h := ?_)
                    refine pu_ 18 (some 158) (mk_ 33 524287) HT_.out ?_
                    refine ta_ 19 (some 159) (mk_ 33 1048575) HT_.out HW_.out hHeld (hy := by rintro w' ⟨s0, s1, s2, s3, s4, s5, s6, s7, s8, s9⟩; go_simp; with_reducible rfl) (h := ?_)
                    refine ta_ 20 (some 160) (mk_ 33 2097151) HT_.out HW_.out hHeld (hy := by rintro w' ⟨s0, s1, s2, s3, s4, s5, s6, s7, s8, s9⟩; go_simp; with_reducible rfl) (h := ?_)
                    refine pu_ 21 (some 161) (mk_ 33 4194303) HT_.out ?_
                    refine pu_ 22 (some 162) (mk_ 33 8388607) HT_.out ?_
                    refine pu_ 23 (some 163) (mk_ 33 16777215) HT_.out ?_
                    refine pu_ 25 (some 165) (mk_ 33 50331647) HT_.out ?_
                    refine pu_ 28 (some 168) (mk_ 33 318767103) HT_.out ?_
                    refine ta_ 24 (some 164) (mk_ 33 335544319) HT_.out HW_.out hHeld (hy := by rintro w' ⟨s0, s1, s2, s3, s4, s5, s6, s7, s8, s9⟩; go_simp; with_reducible rfl) (h := ?_)
                    refine ta_ 27 (some 167) (mk_ 33 469762047) HT_.out HW_.out hHeld (hy := by rintro w' ⟨s0, s1, s2, s3, s4, s5, s6, s7, s8, s9⟩; go_simp; with_reducible rfl) (h := ?_)
                    refine on_ 26 (some 166) (mk_ 33 536870911) HT_.out fun K hK => ?_
                    refine goes_ Try.func27 (by kernel_rfl) rfl #[.agg #[.string t494, .slice Ao12 t495.length co12, .slice Ao13 t498.length co13], .slice (some ad524) t515.length co61] (by rfl) rfl rfl ar_ ?_
                    with_reducible refine (impl_KindCounts.calls kj33 t494 _ _ t495 _ _ t498 _ _ t515 t528 _ ?side1 ?side2 ?side3 ?side4 ?side5 ?side6 A58.out).mono ?_
                    (case side1 => exact kD_ (Kd.R_reads' HO_506001.out).2.2)
                    (case side2 => exact (Kd.R_reads' HO_506001.out).2.1)
                    (case side3 => exact kD_ (Kd.R_reads' HO_506002.out).2.2)
                    (case side4 => exact (Kd.R_reads' HO_506002.out).2.1)
                    (case side5 => exact kD_ (Kd.N_reads' HO_9.out).2.2)
                    (case side6 => exact (Kd.N_reads' HO_9.out).2.1)
                    rintro e w63 ⟨v529, rfl, ho0, hb⟩
                    have HS5_ := (hb.cell (World.block_lt_of_cell? _ _ (hHeld.2.2.2.2.2.1))).trans (hHeld.2.2.2.2.2.1)
                    have HS6_ := (hb.cell (World.block_lt_of_cell? _ _ (hHeld.2.2.2.2.2.2.1))).trans (hHeld.2.2.2.2.2.2.1)
                    have HS7_ := (hb.cell (World.block_lt_of_cell? _ _ (hHeld.2.2.2.2.2.2.2.1))).trans (hHeld.2.2.2.2.2.2.2.1)
                    have HS8_ := (hb.cell (World.block_lt_of_cell? _ _ (hHeld.2.2.2.2.2.2.2.2.1))).trans (hHeld.2.2.2.2.2.2.2.2.1)
                    have HS9_ := (hb.cell (World.block_lt_of_cell? _ _ (hHeld.2.2.2.2.2.2.2.2.2))).trans (hHeld.2.2.2.2.2.2.2.2.2)
                    refine ⟨_, rfl, ?_⟩
                    have z_ := t7_ (Kd.N_elder' (kN_ HO_4.out) (Kd.R_base ho0) hb) (Kd.R_elder' (kR_ HO_506001.out) (Kd.R_base ho0) hb) (Kd.R_elder' (kR_ HO_506002.out) (Kd.R_base ho0) hb) (Kd.R_lower (Kd.R_new' (Kd.R_new' ho0 (Kd.R_lt (kR_ HO_506001.out))) (Kd.R_lt (kR_ HO_506002.out))) (below_size (bw2_ HB.out GE505.out GE512.out))) (bB_ (bk_ BK505.out) hb) (bB_ (bk_ BK512.out) hb) (bS_ (bw2_ HB.out GE505.out GE512.out) hb)
                    (try clear HL526_0 HL524_0 HO_506002 HO_506001 HO_9 HO_4)
                    clear BK512 BK505
                    (try clear HR526_0 HR524_0)
                    clear HB
                    obtain ⟨HO_4, HO_506001, HO_506002, HO530, BK505, BK512, HB⟩ := z_
                    (try clear ho0 hb)
                    refine hK.out _ _ ⟨(blk_cell BK512.out 0).trans rfl, (blk_cell BK512.out 1).trans rfl, (blk_cell BK505.out 0).trans rfl, (blk_cell BK505.out 1).trans rfl, (blk_cell BK505.out 2).trans rfl, HS5_, HS6_, HS7_, HS8_, HS9_⟩ (fun hHeld => ?_)
                    clear hK K
                    refine norm_ (a' := ?_) ?_ ?_
                    rotate_left
                    ·show Act.put _ (some 166) _ = _
                     simp only [Act.put, lA_, lB_, lC_, i64_w, i32_w]
                     rfl
                    refine on_ 29 (some 169) (mk_ 33 1073741823) HT_.out fun K hK => ?_
                    refine goes_ Try.func27 (by kernel_rfl) rfl #[.agg #[.string t494, .slice Ao12 t495.length co12, .slice Ao13 t498.length co13], .slice (some ad526) t501.length co14] (by rfl) rfl rfl ar_ ?_
                    with_reducible refine (impl_KindCounts.calls kj33 t494 _ _ t495 _ _ t498 _ _ t501 t531 _ ?side1 ?side2 ?side3 ?side4 ?side5 ?side6 A59.out).mono ?_
                    (case side1 => exact kD_ (Kd.R_reads' HO_506001.out).2.2)
                    (case side2 => exact (Kd.R_reads' HO_506001.out).2.1)
                    (case side3 => exact kD_ (Kd.R_reads' HO_506002.out).2.2)
                    (case side4 => exact (Kd.R_reads' HO_506002.out).2.1)
                    (case side5 => exact kD_ (Kd.N_reads' HO_4.out).2.2)
                    (case side6 => exact (Kd.N_reads' HO_4.out).2.1)
                    rintro e w64 ⟨v532, rfl, ho0, hb⟩
                    have HS5_ := (hb.cell (World.block_lt_of_cell? _ _ (hHeld.2.2.2.2.2.1))).trans (hHeld.2.2.2.2.2.1)
                    have HS6_ := (hb.cell (World.block_lt_of_cell? _ _ (hHeld.2.2.2.2.2.2.1))).trans (hHeld.2.2.2.2.2.2.1)
                    have HS7_ := (hb.cell (World.block_lt_of_cell? _ _ (hHeld.2.2.2.2.2.2.2.1))).trans (hHeld.2.2.2.2.2.2.2.1)
                    have HS8_ := (hb.cell (World.block_lt_of_cell? _ _ (hHeld.2.2.2.2.2.2.2.2.1))).trans (hHeld.2.2.2.2.2.2.2.2.1)
                    have HS9_ := (hb.cell (World.block_lt_of_cell? _ _ (hHeld.2.2.2.2.2.2.2.2.2))).trans (hHeld.2.2.2.2.2.2.2.2.2)
                    refine ⟨_, rfl, ?_⟩
                    have n6_ := M_ (Kd.R_elder' (kR_ HO530.out) (Kd.R_base ho0) hb)
                    have n7_ := M_ (Kd.R_lower (Kd.R_new' (Kd.R_new' (Kd.R_new' ho0 (Kd.R_lt (kR_ HO_506001.out))) (Kd.R_lt (kR_ HO_506002.out))) (Kd.R_lt (kR_ HO530.out))) (below_size (bw2_ HB.out GE505.out GE512.out)))
                    have n8_ := M_ (bB_ (bk_ BK505.out) hb)
                    have n9_ := M_ (bB_ (bk_ BK512.out) hb)
                    have n12_ := M_ (bS_ (bw2_ HB.out GE505.out GE512.out) hb)
                    (try clear HL526_0 HL524_0 HO_506002 HO_506001 HO_9 HO_4)
                    clear BK512 BK505 HO530
                    (try clear HR526_0 HR524_0)
                    clear HB
                    have HO530 := n6_
                    have HO533 := n7_
                    have BK505 := n8_
                    have BK512 := n9_
                    have HB := n12_
                    clear n6_ n7_ n8_ n9_ n12_
                    (try clear ho0 hb)
                    obtain ⟨Ao65, co65, eo65⟩ := Kd.R_slice HO530.out
                    (first | subst eo65 | (injection eo65 with f1_ f2_ f3_; have f4_ := f1_.symm; have f5_ := f3_.symm; clear f1_ f2_ f3_; subst f4_; subst f5_))
                    obtain ⟨Ao66, co66, eo66⟩ := Kd.R_slice HO533.out
                    (first | subst eo66 | (injection eo66 with f1_ f2_ f3_; have f4_ := f1_.symm; have f5_ := f3_.symm; clear f1_ f2_ f3_; subst f4_; subst f5_))
                    refine hK.out _ _ ⟨(blk_cell BK512.out 0).trans rfl, (blk_cell BK512.out 1).trans rfl, (blk_cell BK505.out 0).trans rfl, (blk_cell BK505.out 1).trans rfl, (blk_cell BK505.out 2).trans rfl, HS5_, HS6_, HS7_, HS8_, HS9_⟩ (fun hHeld => ?_)
                    clear hK K
                    refine norm_ (a' := ?_) ?_ ?_
                    rotate_left
                    ·show Act.put _ (some 169) _ = _
                     simp only [Act.put, lA_, lB_, lC_, i64_w, i32_w]
                     rfl
                    refine on_ 30 (some 170) (mk_ 33 2147483647) HT_.out fun K hK => ?_
                    refine goes_ Try.func26 (by kernel_rfl) rfl #[.slice Ao65 t528.length co65, .slice Ao66 t531.length co66] (by rfl) rfl rfl ar_ ?_
                    with_reducible refine (laws_ints.calls kj33 _ _ t528 _ _ t531 t534 _ ?side1 ?side2 ?side3 ?side4 A60.out).mono ?_
                    (case side1 => exact kD_ (Kd.R_reads' HO530.out).2.2)
                    (case side2 => exact (Kd.R_reads' HO530.out).2.1)
                    (case side3 => exact kD_ (Kd.R_reads' HO533.out).2.2)
                    (case side4 => exact (Kd.R_reads' HO533.out).2.1)
                    rintro e w' ⟨rfl, ⟨nd, rfl⟩⟩
                    refine ⟨_, rfl, ?_⟩
                    refine hK.out _ _ ⟨(blk_cell BK512.out 0).trans rfl, (blk_cell BK512.out 1).trans rfl, (blk_cell BK505.out 0).trans rfl, (blk_cell BK505.out 1).trans rfl, (blk_cell BK505.out 2).trans rfl, hHeld.2.2.2.2.2.1, hHeld.2.2.2.2.2.2.1, hHeld.2.2.2.2.2.2.2.1, hHeld.2.2.2.2.2.2.2.2.1, hHeld.2.2.2.2.2.2.2.2.2⟩ (fun hHeld => ?_)
                    clear hK K
                    refine norm_ (a' := ?_) ?_ ?_
                    rotate_left
                    ·show Act.put _ (some 170) _ = _
                     simp only [Act.put, lA_, lB_, lC_, i64_w, i32_w]
                     rfl
                    refine pu_ 31 (some 171) (mk_ 33 4294967295) HT_.out ?_
                    refine pu_ 32 (some 2) (mk_ 33 8589934591) HT_.out ?_
                    refine done_ (done_of HT_.out (by kernel_rfl)) ?_
                    try go_wp2
                    go_ret
                    exact ⟨by first | rfl | (simp only [i64_w, i32_w]; rfl) | (simp only [i64_w, i32_w, wrap64_zero, Int.sub_zero, Int.add_zero, Int.mul_zero, Int.zero_mul]; rfl) | (simp [errW_none, errW_some] <;> rfl) | (simp only [← hji50]; first | rfl | (simp [errW_none, errW_some] <;> rfl)) | (simp [*, errW_none, errW_some] <;> rfl), bw2_ HB.out GE505.out GE512.out⟩
                   ·rw [if_neg c57] at H
                    exact absurd H (by simp)
                  ·rw [if_neg c56] at H
                   exact absurd H (by simp)
                 ·rw [if_neg c55] at H
                  exact absurd H (by simp)
                ·rw [if_neg c54] at H
                 exact absurd H (by simp)
               ·rw [if_neg c53] at H
                exact absurd H (by simp)
              ·rw [if_neg c52] at H
               exact absurd H (by simp)
             ·rw [if_neg c51] at H
              exact absurd H (by simp)
            ·rw [if_neg c49] at H
             exact absurd H (by simp)
           ·rw [if_neg c48] at H
            exact absurd H (by simp)
          ·rw [if_neg c47] at H
           exact absurd H (by simp)
      ·replace c33 := Bool.eq_false_iff.mpr c33
       subst c33
       rw [if_neg (show ¬ (false = true) by decide)] at H
       by_cases c67 : 0 ≤ t520
       ·rw [if_pos c67] at H
        have c67b0 := dt_ c67
        clear c67
        by_cases c68 : t520 < (t506.length : Int)
        ·rw [if_pos c68] at H
         have c68b0 := dt_ c68
         clear c68
         obtain rfl := Option.some.inj H
         have p522 : 0 ≤ (t520 : Int) := od_ as_
         have q522 : t520 < (t506.length : Int) := od_ as_
         obtain ⟨ad522, A522_0, c522_0, e522, hx522_0, hl522_0, hi522_0⟩ := at_L5 (Kd.N_reads' HO_6.out).2.2 t520 p522 q522
         cases e522
         obtain ⟨ce522, hce522, hMe522, hcc522⟩ := Kd.N_get HO_6.out [] t520 p522 (by first | exact q522 | exact od_ as_ | (have e_ := (Kd.N_reads' HO_6.out).1; omega))
         obtain ⟨ua522_0, uc522_0, rfl, ul522_0, ge522_0⟩ := Kd.FK_slice_open hMe522
         have hv522_0 := hcc522 0 _ rfl
         rw [Nat.add_zero, show ((Kd.slice 30 k30)).sz = 1 from rfl, Nat.mul_one] at hv522_0
         replace hv522_0 := Option.some.inj (hv522_0.symm.trans hx522_0)
         injection hv522_0 with hva_ hvn_ hvc_
         rw [hva_] at ge522_0
         rw [hvc_] at ul522_0
         have HL522_0 := M_ (show Kd.V k30 30 _ w.heap.size _ _ (rd_L5 t506 t520) from Kd.V_mk ul522_0 ge522_0)
         clear hce522 hcc522 ul522_0 ge522_0 hvc_ hvn_ hva_
         have HR522_0 := M_ hi522_0
         have HC522_0 := M_ hl522_0
         clear hi522_0 hl522_0
         replace p522 := eq_true p522
         replace q522 := eq_true q522
         go_wp2
         go_ret
         exact ⟨rb_, bw2_ HB.out GE505.out GE512.out⟩
        ·rw [if_neg c68] at H
         exact absurd H (by simp)
       ·rw [if_neg c67] at H
        exact absurd H (by simp)
  ·replace c5 := Bool.eq_false_iff.mpr c5
   subst c5
   rw [if_neg (show ¬ (false = true) by decide)] at H
   exact absurd H (by simp)

/-- THE ONE PURE STATEMENT of laws_FnRound: yours. -/
def laws_FnRound.Pure : Prop := ∀ (l0 : List Int), l0.length ≤ maxLen → l0.length * 1 ≤ 140737488351232 → (∀ x ∈ l0, (Lit.int .u8 x).wf = true) → (∃ k, laws_FnRound_f.f k l0 = some true) ∨ (∃ k, laws_FnRound.f k l0 = some true)
theorem laws_FnRound.walk (P : laws_FnRound.Pure) (a0 : Option Addr) (len0 cap0 : Nat) (z0 : List Int) (w : World) (w0 : (a0 = none ∧ len0 = 0 ∧ cap0 = 0 ∧ z0 = []) ∨ ∃ x, a0 = some x ∧ len0 ≤ cap0 ∧ cap0 ≤ maxLen ∧ z0.length = cap0 ∧ (∀ i, i < z0.length → w.cell? (x.add i) = some (.int .u8 (z0.getD i 0))) ∧ ∀ n ∈ z0, (Lit.int .u8 n).wf = true) (y0 : len0 * 1 ≤ 140737488351232) :
    Calls Try.prog 3 #[.slice a0 len0 cap0] w fun e w' => e = .returned (.bool true) ∧ Below w.heap.size w w' := by
 obtain ⟨l0, rfl, hr0, hm0, hw0, hc0⟩ := ReadsInt.ofRowC w0
 rcases P l0 hm0 y0 hw0 with ⟨k, h⟩ | ⟨k, h⟩
 ·refine (laws_FnRound_f.calls k _ _ l0 true w (Kd.C_of_reads (d := (0 : Int)) (h1 := fun _ => rfl) hr0) hc0 h).mono ?_
  rintro e w' ⟨rfl, hd⟩
  exact ⟨rfl, hd⟩
 ·refine (laws_FnRound.calls k _ _ l0 true w (Kd.C_of_reads (d := (0 : Int)) (h1 := fun _ => rfl) hr0) hc0 h).mono ?_
  rintro e w' ⟨rfl, hd⟩
  exact ⟨rfl, hd⟩

end Go.Proofs.Ytilbngklgjjblaa.Q
