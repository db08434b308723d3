/- Contracts of Go functions over this translation. Conditions: those that each theorem names. -/
import Derived.Test.YtilbngklgjjblaaQ0
import Derived.Test.YtilbngklgjjblaaQ10
import Derived.Test.YtilbngklgjjblaaQ13
import Derived.Test.YtilbngklgjjblaaQ14
namespace Go.Proofs.Ytilbngklgjjblaa.Q
open Go.RowKit Go.Proofs.YtilbngklgjjblaaW.PrintWords Go.Proofs.YtilbngklgjjblaaW.PrintLast Go.Proofs.YtilbngklgjjblaaW.PrintMore
attribute [local go_sem] max2_int min2_int max_two min_two max_three min_three max_four min_four
set_option linter.unusedVariables false
set_option linter.unusedSimpArgs false

def spec_l2Any.f (k : Nat) (s0_0 : List Int) (s0_1 : Int) (s0_2 : Int) : Option (ByteArray × List Int × List Int × Int × Int) := (spec_l2Font.f k s0_0 s0_1 s0_2 9).bind fun bt268 => ((spec_l01Below.f s0_0 bt268.2.2.2.1 bt268.2.2.2.2 20).bind fun bt278 => (if bt278.1 = 0 then ((spec_l01Pick.f s0_0 bt278.2.1 bt278.2.2 (([(⟨#[97]⟩ : ByteArray), (⟨#[32]⟩ : ByteArray), (⟨#[126]⟩ : ByteArray), (⟨#[]⟩ : ByteArray)] : List ByteArray))).bind fun bt284 => (if bt268.1.size + bt284.1.size ≤ 9223372036854775807 then ((spec_l01Int.f s0_0 bt284.2.1 bt284.2.2 (([0, 1, 60, 61] : List Int))).bind fun bt290 => (if bt268.2.1.length < 17592186044416 then ((spec_l01Int.f s0_0 bt290.2.1 bt290.2.2 (([127, 0, 3, 128] : List Int))).bind fun bt299 => (if bt268.2.2.1.length < 17592186044416 then (some (bt268.1 ++ bt284.1, (bt268.2.1 ++ [bt290.1]), (bt268.2.2.1 ++ [bt299.1]), bt299.2.1, bt299.2.2)) else (none))) else (none))) else (none))) else (if bt278.1 = 1 then ((spec_l01Int.f s0_0 bt278.2.1 bt278.2.2 (([0, 61, (-5), 60] : List Int))).bind fun bt308 => (if 0 < (bt268.2.1.length : Int) then (some (bt268.1, (bt268.2.1.set (0 : Int).toNat bt308.1), bt268.2.2.1, bt308.2.1, bt308.2.2)) else (none))) else (if bt278.1 = 2 then ((some (([] : List Int) : List Int)).bind fun y312 => (if 1 ≤ (bt268.2.2.1.length : Int) then ((some (bt268.2.2.1.drop 1 : List Int)).bind fun y315 => (if y312.length + y315.length < 17592186044416 then (some (bt268.1, bt268.2.1, (y312 ++ y315), bt278.2.1, bt278.2.2)) else (none))) else (none))) else (if bt278.1 = 3 then (some ((⟨#[]⟩ : ByteArray), ([] : List Int), ([] : List Int), bt278.2.1, bt278.2.2)) else (some (bt268.1, bt268.2.1, bt268.2.2.1, bt278.2.1, bt278.2.2)))))))
theorem spec_l2Any.mono : ∀ a0 a1 a2 k, LeO (spec_l2Any.f k a0 a1 a2) (spec_l2Any.f (k + 1) a0 a1 a2) := by
 intro a0 a1 a2 k
 unfold spec_l2Any.f
 repeat' first | (with_reducible first | exact spec_l2Font.mono _ _ _ _ _ | exact LeO.refl _ | exact LeO.none _ | refine LeO.ite ?_ ?_ | refine LeO.bind ?_ (fun _ => ?_)) | exact spec_l2Font.mono _ _ _ _ _ | exact LeO.none _ | refine LeO.ite ?_ ?_ | refine LeO.bind ?_ (fun _ => ?_)
def spec_l2Any.T4 : Bool × List (List Nat × List Nat) := (true, [([], []), ([0], [0]), ([], []), ([], []), ([2, 3], [2, 3]), ([1, 4], [1, 4]), ([0, 1, 2, 3, 4, 5], []), ([6, 5, 4, 0, 1, 2, 3, 4, 5], [5, 6])])
def spec_l2Any.B4 : List Nat := [0, 1, 0, 0, 12, 31, 63, 127]
theorem spec_l2Any.tab4 : rtab .any (opsOf Try.f94 4) = spec_l2Any.T4 := by kernel_rfl
theorem spec_l2Any.bits4 : waitsOk spec_l2Any.T4.2 spec_l2Any.B4 = true := by kernel_rfl
def spec_l2Any.T5 : Bool × List (List Nat × List Nat) := (true, [([], []), ([0], [0]), ([], []), ([], []), ([2, 3], [2, 3]), ([4], [4]), ([1, 5, 4], [1, 5]), ([0, 1, 2, 3, 4, 5, 6], []), ([7, 6, 6, 0, 1, 2, 3, 4, 5, 6], [6, 7])])
def spec_l2Any.B5 : List Nat := [0, 1, 0, 0, 12, 28, 63, 127, 255]
theorem spec_l2Any.tab5 : rtab .any (opsOf Try.f94 5) = spec_l2Any.T5 := by kernel_rfl
theorem spec_l2Any.bits5 : waitsOk spec_l2Any.T5.2 spec_l2Any.B5 = true := by kernel_rfl
def spec_l2Any.T6 : Bool × List (List Nat × List Nat) := (true, [([], []), ([0], [0]), ([], []), ([], []), ([2, 3], [2, 3]), ([4], [4]), ([1, 5, 4], [1, 5]), ([0, 1, 2, 3, 4, 5, 6], []), ([7, 6, 6, 0, 1, 2, 3, 4, 5, 6], [6, 7])])
def spec_l2Any.B6 : List Nat := [0, 1, 0, 0, 12, 28, 63, 127, 255]
theorem spec_l2Any.tab6 : rtab .any (opsOf Try.f94 6) = spec_l2Any.T6 := by kernel_rfl
theorem spec_l2Any.bits6 : waitsOk spec_l2Any.T6.2 spec_l2Any.B6 = true := by kernel_rfl
set_option maxHeartbeats 8000000 in
set_option maxRecDepth 100000 in
theorem spec_l2Any.calls (k : Nat) (g : Nat) (s0_0 : List Int) (s0_1 : Int) (s0_2 : Int) (r1 : ByteArray) (r2 : List Int) (r3 : List Int) (r4 : Int) (r5 : Int) (w0 w : World) (hI : IsS99 w0 w g s0_0 s0_1 s0_2) (hB : Below w0.heap.size w0 w) (h : spec_l2Any.f k s0_0 s0_1 s0_2 = some (r1, r2, r3, r4, r5)) :
    Calls Try.prog 94 #[.pointer (some ⟨g, 0, none⟩)] w fun e w' => ∃ v1_ v2_ : Value, e = .returned (.agg #[.string r1, v1_, v2_]) ∧ Kd.R (Kd.int .i64) 3 w' w.heap.size (fun k_ => some k_ ≠ (v2_ : Value).ownBlock) v1_ r2 ∧ Kd.R (Kd.int .i64) 3 w' w.heap.size (fun k_ => some k_ ≠ (v1_ : Value).ownBlock) v2_ r3 ∧ IsS99 w0 w' g s0_0 r4 r5 ∧ Below w0.heap.size w0 w' ∧ KeepBut w w' g none := by
 have hu25 := Try.underlying25
 have HI0 := M_ hI
 have HK := M_ (KeepBut.refl w g none)
 have HL := M_ hB.size
 clear hI
 have HW0 := M_ hB.size
 have HB := M_ hB
 clear hB
 have H : ((spec_l2Font.f k s0_0 s0_1 s0_2 9).bind fun bt268 => ((spec_l01Below.f s0_0 bt268.2.2.2.1 bt268.2.2.2.2 20).bind fun bt278 => (if bt278.1 = 0 then ((spec_l01Pick.f s0_0 bt278.2.1 bt278.2.2 (([(⟨#[97]⟩ : ByteArray), (⟨#[32]⟩ : ByteArray), (⟨#[126]⟩ : ByteArray), (⟨#[]⟩ : ByteArray)] : List ByteArray))).bind fun bt284 => (if bt268.1.size + bt284.1.size ≤ 9223372036854775807 then ((spec_l01Int.f s0_0 bt284.2.1 bt284.2.2 (([0, 1, 60, 61] : List Int))).bind fun bt290 => (if bt268.2.1.length < 17592186044416 then ((spec_l01Int.f s0_0 bt290.2.1 bt290.2.2 (([127, 0, 3, 128] : List Int))).bind fun bt299 => (if bt268.2.2.1.length < 17592186044416 then (some (bt268.1 ++ bt284.1, (bt268.2.1 ++ [bt290.1]), (bt268.2.2.1 ++ [bt299.1]), bt299.2.1, bt299.2.2)) else (none))) else (none))) else (none))) else (if bt278.1 = 1 then ((spec_l01Int.f s0_0 bt278.2.1 bt278.2.2 (([0, 61, (-5), 60] : List Int))).bind fun bt308 => (if 0 < (bt268.2.1.length : Int) then (some (bt268.1, (bt268.2.1.set (0 : Int).toNat bt308.1), bt268.2.2.1, bt308.2.1, bt308.2.2)) else (none))) else (if bt278.1 = 2 then ((some (([] : List Int) : List Int)).bind fun y312 => (if 1 ≤ (bt268.2.2.1.length : Int) then ((some (bt268.2.2.1.drop 1 : List Int)).bind fun y315 => (if y312.length + y315.length < 17592186044416 then (some (bt268.1, bt268.2.1, (y312 ++ y315), bt278.2.1, bt278.2.2)) else (none))) else (none))) else (if bt278.1 = 3 then (some ((⟨#[]⟩ : ByteArray), ([] : List Int), ([] : List Int), bt278.2.1, bt278.2.2)) else (some (bt268.1, bt268.2.1, bt268.2.2.1, bt278.2.1, bt278.2.2)))))))) = some (r1, r2, r3, r4, r5) := h
 clear h
 replace H := bs_ H
 obtain ⟨⟨t268, t269, t272, t275, t276⟩, A20, H⟩ := H
 dsimp only at H
 have A2 := M_ A20
 clear A20
 replace H := bs_ H
 obtain ⟨⟨t278, t279, t280⟩, A30, H⟩ := H
 dsimp only at H
 have A3 := M_ A30
 clear A30
 by_cases c4 : t278 = 0
 ·rw [if_pos c4] at H
  have c4b0 := beq_iff_eq.mpr c4
  have c4b1 := bne_eq_false_iff_eq.mpr c4
  clear c4
  obtain ⟨y281, hy281⟩ : ∃ y_ : List ByteArray, y_ = (([(⟨#[97]⟩ : ByteArray), (⟨#[32]⟩ : ByteArray), (⟨#[126]⟩ : ByteArray), (⟨#[]⟩ : ByteArray)] : List ByteArray)) := ⟨_, rfl⟩
  replace H : ((spec_l01Pick.f s0_0 t279 t280 y281).bind fun bt284 => (if t268.size + bt284.1.size ≤ 9223372036854775807 then ((spec_l01Int.f s0_0 bt284.2.1 bt284.2.2 (([0, 1, 60, 61] : List Int))).bind fun bt290 => (if t269.length < 17592186044416 then ((spec_l01Int.f s0_0 bt290.2.1 bt290.2.2 (([127, 0, 3, 128] : List Int))).bind fun bt299 => (if t272.length < 17592186044416 then (some (t268 ++ bt284.1, (t269 ++ [bt290.1]), (t272 ++ [bt299.1]), bt299.2.1, bt299.2.2)) else (none))) else (none))) else (none))) = some (r1, r2, r3, r4, r5) := by first | (rw [hy281]; with_reducible exact H) | (have H2_ := (Option.bind_some _ _).symm.trans H; rw [hy281]; with_reducible exact H2_) | (have H2_ := (Option.bind_some _ _).symm.trans H; with_reducible exact H2_) | with_reducible exact H | (rw [hy281]; exact H) | exact H
  have Ny281 := M_ hy281
  clear hy281
  replace H := bs_ H
  obtain ⟨⟨t284, t285, t286⟩, A50, H⟩ := H
  dsimp only at H
  have A5 := M_ A50
  clear A50
  by_cases c6 : t268.size + t284.size ≤ 9223372036854775807
  ·rw [if_pos c6] at H
   have c6b0 := eq_true c6
   have c6b1 := dt_ c6
   try have c6b2 : (9223372036854775807 < t268.size + t284.size) = False := eq_false (Nat.not_lt.2 c6)
   obtain ⟨y287, hy287⟩ : ∃ y_ : List Int, y_ = (([0, 1, 60, 61] : List Int)) := ⟨_, rfl⟩
   replace H : ((spec_l01Int.f s0_0 t285 t286 y287).bind fun bt290 => (if t269.length < 17592186044416 then ((spec_l01Int.f s0_0 bt290.2.1 bt290.2.2 (([127, 0, 3, 128] : List Int))).bind fun bt299 => (if t272.length < 17592186044416 then (some (t268 ++ t284, (t269 ++ [bt290.1]), (t272 ++ [bt299.1]), bt299.2.1, bt299.2.2)) else (none))) else (none))) = some (r1, r2, r3, r4, r5) := by first | (rw [hy287]; with_reducible exact H) | (have H2_ := (Option.bind_some _ _).symm.trans H; rw [hy287]; with_reducible exact H2_) | (have H2_ := (Option.bind_some _ _).symm.trans H; with_reducible exact H2_) | with_reducible exact H | (rw [hy287]; exact H) | exact H
   have Ny287 := M_ hy287
   clear hy287
   replace H := bs_ H
   obtain ⟨⟨t290, t291, t292⟩, A70, H⟩ := H
   dsimp only at H
   have A7 := M_ A70
   clear A70
   by_cases c8 : t269.length < 17592186044416
   ·rw [if_pos c8] at H
    have LMc8 := M_ c8
    clear c8
    obtain ⟨y293, hy293⟩ : ∃ y_ : List Int, y_ = (t269 ++ [t290]) := ⟨_, rfl⟩
    replace H : ((spec_l01Int.f s0_0 t291 t292 (([127, 0, 3, 128] : List Int))).bind fun bt299 => (if t272.length < 17592186044416 then (some (t268 ++ t284, y293, (t272 ++ [bt299.1]), bt299.2.1, bt299.2.2)) else (none))) = some (r1, r2, r3, r4, r5) := by first | (rw [hy293]; with_reducible exact H) | (have H2_ := (Option.bind_some _ _).symm.trans H; rw [hy293]; with_reducible exact H2_) | (have H2_ := (Option.bind_some _ _).symm.trans H; with_reducible exact H2_) | with_reducible exact H | (rw [hy293]; exact H) | exact H
    have Ny293 := M_ hy293
    clear hy293
    obtain ⟨y296, hy296⟩ : ∃ y_ : List Int, y_ = (([127, 0, 3, 128] : List Int)) := ⟨_, rfl⟩
    replace H : ((spec_l01Int.f s0_0 t291 t292 y296).bind fun bt299 => (if t272.length < 17592186044416 then (some (t268 ++ t284, y293, (t272 ++ [bt299.1]), bt299.2.1, bt299.2.2)) else (none))) = some (r1, r2, r3, r4, r5) := by first | (rw [hy296]; with_reducible exact H) | (have H2_ := (Option.bind_some _ _).symm.trans H; rw [hy296]; with_reducible exact H2_) | (have H2_ := (Option.bind_some _ _).symm.trans H; with_reducible exact H2_) | with_reducible exact H | (rw [hy296]; exact H) | exact H
    have Ny296 := M_ hy296
    clear hy296
    replace H := bs_ H
    obtain ⟨⟨t299, t300, t301⟩, A90, H⟩ := H
    dsimp only at H
    have A9 := M_ A90
    clear A90
    by_cases c10 : t272.length < 17592186044416
    ·rw [if_pos c10] at H
     have LMc10 := M_ c10
     clear c10
     obtain ⟨y302, hy302⟩ : ∃ y_ : List Int, y_ = (t272 ++ [t299]) := ⟨_, rfl⟩
     replace H : (some (t268 ++ t284, y293, y302, t300, t301)) = some (r1, r2, r3, r4, r5) := by first | (rw [hy302]; with_reducible exact H) | (have H2_ := (Option.bind_some _ _).symm.trans H; rw [hy302]; with_reducible exact H2_) | (have H2_ := (Option.bind_some _ _).symm.trans H; with_reducible exact H2_) | with_reducible exact H | (rw [hy302]; exact H) | exact H
     have Ny302 := M_ hy302
     clear hy302
     simp only [Option.some.injEq, Prod.mk.injEq] at H
     obtain ⟨rfl, rfl, rfl, rfl, rfl⟩ := H
     go_enter Try.func94, Try.ntmps94
     try go_wp2_with (first | ((with_reducible refine gate_dst (N := 2) rfl ?_); refine be_ 2 #[.string (⟨#[]⟩ : ByteArray), .slice none 0 0, .slice none 0 0] 25 ?_; intro gb267 hg w11 hbox hb; have z_ := t6_ (IsS99.below (iz0_ HI0.out) hb) (kT_ (ki0_ HK.out) (kO_ hb g none) (.inl rfl)) (bS_ (bw1_ HB.out (IsS99.ge HI0.out)) hb) hbox (gw_ g hg (ki0_ HK.out) : w.heap.size ≤ gb267) (by rw [hg]; exact Nat.ne_of_lt (IsS99.lt (show IsS99 w0 _ g s0_0 s0_1 s0_2 from iz0_ HI0.out)) : g ≠ gb267); clear HB HK HI0; obtain ⟨HI0, HK, HB, BK267, GW267, NB0_267⟩ := z_; have GE267 := M_ (Nat.le_trans HW0.out GW267.out); have NB267_0 := M_ NB0_267.out.symm; clear hb hbox hg) | ((with_reducible refine gate_callee (f := 113) rfl ?_); refine gl_ (some 5) Try.func113 #[.pointer (some ⟨g, 0, none⟩), .int .i64 9] ?_; (with_reducible refine (spec_l2Font.calls k g s0_0 s0_1 s0_2 9 t268 t269 t272 t275 t276 w0 _ ?side1 ?side2 A2.out).mono ?_); (case side1 => exact iz1_ HI0.out NB0_267.out); (case side2 => exact bw2_ HB.out (IsS99.ge HI0.out) GE267.out); rintro e w12 ⟨v270, v273, rfl, ho0, ho1, hi, hb, hk⟩; refine ⟨_, rfl, ?_⟩; have z_ := t6_ (KeepBut.blk hk (bk_ BK267.out) NB267_0.out (by simp)) (Kd.R_lower ho0 (keep_size (w := w) (g := g) (row := none) (ki1_ HK.out GW267.out))) (Kd.R_lower ho1 (keep_size (w := w) (g := g) (row := none) (ki1_ HK.out GW267.out))) (kT_ (ki1_ HK.out GW267.out) hk (.inl rfl)) hb hi; clear HI0 HB HK BK267; obtain ⟨BK267, HO271, HO274, HK, HB, HI0⟩ := z_; (try clear ho1 ho0 hi hk hb)) | ((with_reducible refine gate_dst (N := 3) rfl ?_); refine be_ 3 #[.string (⟨#[]⟩ : ByteArray), .slice none 0 0, .slice none 0 0] 25 ?_; intro gb277 hg w13 hbox hb; have z_ := t10_ (rB_ (kR_ HO271.out) hb) (rB_ (kR_ HO274.out) hb) (IsS99.below (iz1_ HI0.out NB0_267.out) hb) (bB_ (bk_ BK267.out) hb) (kT_ (ki1_ HK.out GW267.out) (kO_ hb g none) (.inl rfl)) (bS_ (bw2_ HB.out (IsS99.ge HI0.out) GE267.out) hb) hbox (gw_ g hg (ki1_ HK.out GW267.out) : w.heap.size ≤ gb277) (by rw [hg]; exact Nat.ne_of_lt (blk_lt (bk_ BK267.out)) : gb267 ≠ gb277) (by rw [hg]; exact Nat.ne_of_lt (IsS99.lt (show IsS99 w0 _ g s0_0 t275 t276 from iz1_ HI0.out NB0_267.out)) : g ≠ gb277); clear HB HK BK267 HI0 HO274 HO271; obtain ⟨HO271, HO274, HI0, BK267, HK, HB, BK277, GW277, NB267_277, NB0_277⟩ := z_; have GE277 := M_ (Nat.le_trans HW0.out GW277.out); have NB277_267 := M_ NB267_277.out.symm; have NB277_0 := M_ NB0_277.out.symm; clear hb hbox hg; have hnb14 := NB277_267.out; have hnc14 := NB267_277.out; have hnb15 := NB277_0.out; have hnc15 := NB0_277.out; have hcz16_0 := cz_ BK277.out 0 (.string (⟨#[]⟩ : ByteArray)); have hcz16_1 := cz_ BK277.out 1 (.slice none 0 0); have hcz16_2 := cz_ BK277.out 2 (.slice none 0 0); have hfz16_0 := fz_ BK277.out 0; have hfz16_1 := fz_ BK277.out 1; have hfz16_2 := fz_ BK277.out 2; obtain ⟨Ao17, co17, eo17⟩ := Kd.R_slice HO271.out; subst eo17; obtain ⟨Ao18, co18, eo18⟩ := Kd.R_slice HO274.out; subst eo18) | ((with_reducible refine gate_callee (f := 73) rfl ?_); refine gl_ (some 7) Try.func73 #[.pointer (some ⟨g, 0, none⟩), .int .i64 20] ?_; (with_reducible refine (spec_l01Below.calls g s0_0 t275 t276 20 t278 t279 t280 w0 _ ?side1 ?side2 A3.out).mono ?_); (case side1 => exact iz2_ HI0.out NB0_267.out NB0_277.out); (case side2 => exact bw3_ HB.out (IsS99.ge HI0.out) GE267.out GE277.out); rintro e w19 ⟨rfl, hi, hb, hk⟩; refine ⟨_, rfl, ?_⟩; have z_ := t7_ (KeepBut.blk hk (g' := gb267) (o := .cells #[.string (⟨#[]⟩ : ByteArray), .slice none 0 0, .slice none 0 0] 25 (0, 0)) (by refine bk_ ?_; refine blk_far ?_ NB267_277.out _; refine bk_ ?_; refine blk_far ?_ NB267_277.out _; refine bk_ ?_; refine blk_far ?_ NB267_277.out _; refine bk_ ?_; exact BK267.out) NB267_0.out (by simp)) (Kd.R_mono (Kd.R_keep (IsS99.apart (show IsS99 w0 _ g s0_0 t275 t276 from iz2_ HI0.out NB0_267.out NB0_277.out) (by refine kR_ ?_; exact (fR3_ HO271.out BK277.out)) (by decide)) hk (fun _ h => h.2)) (fun _ h => h.1)) (Kd.R_mono (Kd.R_keep (IsS99.apart (show IsS99 w0 _ g s0_0 t275 t276 from iz2_ HI0.out NB0_267.out NB0_277.out) (by refine kR_ ?_; exact (fR3_ HO274.out BK277.out)) (by decide)) hk (fun _ h => h.2)) (fun _ h => h.1)) (KeepBut.blk hk (g' := gb277) (o := .cells #[.string t268, .slice Ao17 t269.length co17, .slice Ao18 t272.length co18] 25 (0, 0)) (by refine bk_ ?_; refine blk_put (cs := #[.string t268, .slice Ao17 t269.length co17, .slice none 0 0]) ?_ 2 _ rfl; refine bk_ ?_; refine blk_put (cs := #[.string t268, .slice none 0 0, .slice none 0 0]) ?_ 1 _ rfl; refine bk_ ?_; refine blk_put (cs := #[.string (⟨#[]⟩ : ByteArray), .slice none 0 0, .slice none 0 0]) ?_ 0 _ rfl; refine bk_ ?_; exact BK277.out) NB277_0.out (by simp)) (kT_ (ki2_ HK.out GW267.out GW277.out) hk (.inl rfl)) hb hi; clear HI0 HB HK BK277 HO274 HO271 BK267; obtain ⟨BK267, HO271, HO274, BK277, HK, HB, HI0⟩ := z_; (try clear hi hk hb)))
     have z_ := t7_ (Kd.R_drew HO271.out) (Kd.R_drew HO274.out) (blk_drew BK267.out) (blk_drew BK277.out) (IsS99.drew HI0.out) (keep_drew HK.out) (below_drew1 HB.out)
     clear HB HK HI0 BK277 BK267 HO274 HO271
     obtain ⟨HO271, HO274, BK267, BK277, HI0, HK, HB⟩ := z_
     refine start_ (n := 8) (S := fun w' => w'.cell? ⟨gb277, 0, none⟩ = some (.string t268) ∧ w'.cell? ⟨gb277, 1, none⟩ = some (.slice Ao17 t269.length co17) ∧ w'.cell? ⟨gb277, 2, none⟩ = some (.slice Ao18 t272.length co18)) (ds := [7]) (mk_ 8 0) (by kernel_rfl) rfl rfl ⟨(blk_cell BK277.out 0).trans rfl, (blk_cell BK277.out 1).trans rfl, (blk_cell BK277.out 2).trans rfl⟩ (fun hHeld => ?_); refine with_tabW spec_l2Any.tab4 spec_l2Any.bits4 (fun HT_ HW_ => ?_)
     generalize w19.drew = w20 at HO271 HO274 BK267 BK277 HI0 HK HB hHeld ⊢
     refine pu_ 0 (some 10) (mk_ 8 1) HT_.out ?_
     refine pu_ 2 (some 12) (mk_ 8 5) HT_.out ?_
     refine ta_ 1 (some 11) (mk_ 8 7) HT_.out HW_.out hHeld (hy := by rintro w' ⟨s0, s1, s2⟩; go_simp; with_reducible rfl) (h := ?_)
     refine on_ 3 (some 13) (mk_ 8 15) HT_.out fun K hK => ?_
     refine Kd.R_lit_step Kd.string _ 9 ?hg (N := 13) ?hd (xs := ([(⟨#[97]⟩ : ByteArray), (⟨#[32]⟩ : ByteArray), (⟨#[126]⟩ : ByteArray), (⟨#[]⟩ : ByteArray)] : List ByteArray)) (inner := [.string (⟨#[97]⟩ : ByteArray), .string (⟨#[32]⟩ : ByteArray), .string (⟨#[126]⟩ : ByteArray), .string (⟨#[]⟩ : ByteArray)]) (ok := fun _ => True) (okp := fun _ => True) ?hr ?hp (fun _ hk => hk) trivial (Below.refl _ _) (Nat.le_refl _) (by simp) ?_; (case hd => rfl); (case hg => rfl); (case hr => first | (go_simp; done) | (go_simp; rfl)); (case hp => exact (Reps.one (show Kd.M Kd.string _ _ _ (⟨#[97]⟩ : ByteArray) [.string (⟨#[97]⟩ : ByteArray)] from rfl) (Reps.one (show Kd.M Kd.string _ _ _ (⟨#[32]⟩ : ByteArray) [.string (⟨#[32]⟩ : ByteArray)] from rfl) (Reps.one (show Kd.M Kd.string _ _ _ (⟨#[126]⟩ : ByteArray) [.string (⟨#[126]⟩ : ByteArray)] from rfl) (Reps.one (show Kd.M Kd.string _ _ _ (⟨#[]⟩ : ByteArray) [.string (⟨#[]⟩ : ByteArray)] from rfl) (Reps.none _ _))))))
     intro v282 w21 ho22 hb hg_ hnew_
     clear hg_ hnew_
     (first | rw [← Ny281.out] at ho22 | (simp only [Int.reduceToNat] at ho22; rw [← Ny281.out] at ho22))
     have z_ := t8_ (rB_ (kR_ HO271.out) hb) (rB_ (kR_ HO274.out) hb) (Kd.R_lower ho22 (keep_size (w := w) (g := g) (row := none) (ki2_ HK.out GW267.out GW277.out))) (IsS99.below (iz2_ HI0.out NB0_267.out NB0_277.out) hb) (bB_ (bk_ BK267.out) hb) (bB_ (bk_ BK277.out) hb) (kT_ (ki2_ HK.out GW267.out GW277.out) (kO_ hb g none) (.inl rfl)) (bS_ (bw3_ HB.out (IsS99.ge HI0.out) GE267.out GE277.out) hb)
     clear HB HK BK277 BK267 HI0 HO274 HO271
     obtain ⟨HO271, HO274, HO283, HI0, BK267, BK277, HK, HB⟩ := z_
     clear hb ho22
     obtain ⟨Ao23, co23, eo23⟩ := Kd.R_slice HO283.out
     (first | subst eo23 | (injection eo23 with f1_ f2_ f3_; have f4_ := f1_.symm; have f5_ := f3_.symm; clear f1_ f2_ f3_; subst f4_; subst f5_))
     refine hK.out _ _ ⟨(blk_cell BK277.out 0).trans rfl, (blk_cell BK277.out 1).trans rfl, (blk_cell BK277.out 2).trans rfl⟩ (fun hHeld => ?_)
     clear hK K
     refine norm_ (a' := ?_) ?_ ?_
     rotate_left
     ·show Act.put _ (some 13) _ = _
      simp only [Act.put, lA_, lB_, lC_, i64_w, i32_w]
      rfl
     refine on_ 4 (some 14) (mk_ 8 31) HT_.out fun K hK => ?_
     refine goes_ Try.func114 (by kernel_rfl) rfl #[.pointer (some ⟨g, 0, none⟩), .slice Ao23 y281.length co23] (by rfl) rfl rfl ar_ ?_
     with_reducible refine (spec_l01Pick.calls g s0_0 t279 t280 _ _ y281 t284 t285 t286 w0 _ ?side1 ?side2 ?side3 ?side4 ?side5 A5.out).mono ?_
     (case side1 => exact iz2_ HI0.out NB0_267.out NB0_277.out)
     (case side2 => exact bw3_ HB.out (IsS99.ge HI0.out) GE267.out GE277.out)
     (case side3 => exact kD_ (Kd.R_reads' HO283.out).2.2)
     (case side4 => exact (Kd.R_reads' HO283.out).2.1)
     (case side5 => exact far_slice (IsS99.own_ne HI0.out HO283.out (by decide)))
     rintro e w24 ⟨rfl, hi, hb, hk⟩
     refine ⟨_, rfl, ?_⟩
     have z_ := t8_ (KeepBut.blk hk (bk_ BK267.out) NB267_0.out (by simp)) (Kd.R_mono (Kd.R_keep (IsS99.apart (show IsS99 w0 _ g s0_0 t279 t280 from iz2_ HI0.out NB0_267.out NB0_277.out) (kR_ HO271.out) (by decide)) hk (fun _ h => h.2)) (fun _ h => h.1)) (Kd.R_mono (Kd.R_keep (IsS99.apart (show IsS99 w0 _ g s0_0 t279 t280 from iz2_ HI0.out NB0_267.out NB0_277.out) (kR_ HO274.out) (by decide)) hk (fun _ h => h.2)) (fun _ h => h.1)) (KeepBut.blk hk (bk_ BK277.out) NB277_0.out (by simp)) (Kd.R_mono (Kd.R_keep (IsS99.apart (show IsS99 w0 _ g s0_0 t279 t280 from iz2_ HI0.out NB0_267.out NB0_277.out) (kR_ HO283.out) (by decide)) hk (fun _ h => h.2)) (fun _ h => h.1)) (kT_ (ki2_ HK.out GW267.out GW277.out) hk (.inl rfl)) hb hi
     clear BK277 HO274 HO271 BK267
     (try clear HO283)
     clear HI0 HB HK
     obtain ⟨BK267, HO271, HO274, BK277, HO283, HK, HB, HI0⟩ := z_
     (try clear hi hk hb)
     refine hK.out _ _ ⟨(blk_cell BK277.out 0).trans rfl, (blk_cell BK277.out 1).trans rfl, (blk_cell BK277.out 2).trans rfl⟩ (fun hHeld => ?_)
     clear hK K
     refine norm_ (a' := ?_) ?_ ?_
     rotate_left
     ·show Act.put _ (some 14) _ = _
      simp only [Act.put, lA_, lB_, lC_, i64_w, i32_w]
      rfl
     refine pu_ 5 (some 15) (mk_ 8 63) HT_.out ?_
     refine pu_ 6 (some 16) (mk_ 8 127) HT_.out ?_
     refine la_ 7 none (mk_ 8 255) HT_.out fun K hK => ?_
     have hs25 := cz_ BK277.out 0 (.string t268)
     have hfs25 := fz_ BK277.out 0
     have hns25_0 := NB267_277.out
     have hms25_0 := NB277_267.out
     refine skip_ (w1 := ?_) (by rfl) rfl ?_ ?_
     rotate_left
     ·go_simp
      rfl
     refine hK.out _ _ ?_
     clear hK K
     refine done_ (done_of HT_.out (by kernel_rfl)) ?_
     try go_wp2
     have n0_ : Aside0 (Kd.R (Kd.int .i64) 3 (w24.setCell ⟨gb277, 0, none⟩ (.string (t268 ++ t284))) w.heap.size (fun k_ => some k_ ≠ (.slice Ao18 t272.length co18 : Value).ownBlock) (.slice Ao17 t269.length co17) t269) := ⟨by refine kR_ ?_; exact Kd.R_mono (Kd.R_far (p := ⟨gb277, 0, none⟩) (Kd.R_types HO271.out BK277.out (by decide)) (fun _ hk => hk.2) (.string (t268 ++ t284))) (fun _ hk => hk.1)⟩
     have n1_ : Aside0 (Kd.R (Kd.int .i64) 3 (w24.setCell ⟨gb277, 0, none⟩ (.string (t268 ++ t284))) w.heap.size (fun k_ => some k_ ≠ (.slice Ao17 t269.length co17 : Value).ownBlock) (.slice Ao18 t272.length co18) t272) := ⟨by refine kR_ ?_; exact Kd.R_mono (Kd.R_far (p := ⟨gb277, 0, none⟩) (Kd.R_types HO274.out BK277.out (by decide)) (fun _ hk => hk.2) (.string (t268 ++ t284))) (fun _ hk => hk.1)⟩
     have n2_ : Aside0 (Kd.R Kd.string 9 (w24.setCell ⟨gb277, 0, none⟩ (.string (t268 ++ t284))) w.heap.size (fun _ => True) (.slice Ao23 y281.length co23) y281) := ⟨by refine kR_ ?_; exact Kd.R_mono (Kd.R_far (p := ⟨gb277, 0, none⟩) (Kd.R_types HO283.out BK277.out (by decide)) (fun _ hk => hk.2) (.string (t268 ++ t284))) (fun _ hk => trivial)⟩
     have n3_ : Aside0 ((w24.setCell ⟨gb277, 0, none⟩ (.string (t268 ++ t284))).heap[gb267]? = some (.cells #[.string (⟨#[]⟩ : ByteArray), .slice none 0 0, .slice none 0 0] 25 (0, 0))) := ⟨by refine bk_ ?_; refine blk_far ?_ NB267_277.out _; refine bk_ ?_; exact BK267.out⟩
     have n4_ : Aside0 ((w24.setCell ⟨gb277, 0, none⟩ (.string (t268 ++ t284))).heap[gb277]? = some (.cells #[.string (t268 ++ t284), .slice Ao17 t269.length co17, .slice Ao18 t272.length co18] 25 (0, 0))) := ⟨by refine bk_ ?_; refine blk_put (cs := #[.string t268, .slice Ao17 t269.length co17, .slice Ao18 t272.length co18]) ?_ 0 _ rfl; refine bk_ ?_; exact BK277.out⟩
     have n5_ : Aside0 (IsS99 w0 (w24.setCell ⟨gb277, 0, none⟩ (.string (t268 ++ t284))) g s0_0 t285 t286) := ⟨iz2_ HI0.out NB0_267.out NB0_277.out⟩
     have n6_ : Aside0 (KeepBut w (w24.setCell ⟨gb277, 0, none⟩ (.string (t268 ++ t284))) g none) := ⟨ki2_ HK.out GW267.out GW277.out⟩
     have n7_ : Aside0 (Below w0.heap.size w0 (w24.setCell ⟨gb277, 0, none⟩ (.string (t268 ++ t284)))) := ⟨bw3_ HB.out (IsS99.ge HI0.out) GE267.out GE277.out⟩
     (try clear HB HK HI0 BK277 BK267 HO283 HO274 HO271)
     generalize (w24.setCell ⟨gb277, 0, none⟩ (.string (t268 ++ t284))) = w26 at n0_ n1_ n2_ n3_ n4_ n5_ n6_ n7_ ⊢
     have HO271 := n0_
     have HO274 := n1_
     have HO283 := n2_
     have BK267 := n3_
     have BK277 := n4_
     have HI0 := n5_
     have HK := n6_
     have HB := n7_
     clear n0_ n1_ n2_ n3_ n4_ n5_ n6_ n7_
     have z_ := t8_ (Kd.R_drew HO271.out) (Kd.R_drew HO274.out) (Kd.R_drew HO283.out) (blk_drew BK267.out) (blk_drew BK277.out) (IsS99.drew HI0.out) (keep_drew HK.out) (below_drew1 HB.out)
     clear HO274 HO271
     (try clear HO283)
     clear HB HK HI0 BK277 BK267
     obtain ⟨HO271, HO274, HO283, BK267, BK277, HI0, HK, HB⟩ := z_
     refine start_ (n := 9) (S := fun w' => w'.cell? ⟨gb277, 0, none⟩ = some (.string (t268 ++ t284)) ∧ w'.cell? ⟨gb277, 1, none⟩ = some (.slice Ao17 t269.length co17) ∧ w'.cell? ⟨gb277, 2, none⟩ = some (.slice Ao18 t272.length co18)) (ds := [8]) (mk_ 9 0) (by kernel_rfl) rfl rfl ⟨(blk_cell BK277.out 0).trans rfl, (blk_cell BK277.out 1).trans rfl, (blk_cell BK277.out 2).trans rfl⟩ (fun hHeld => ?_); refine with_tabW spec_l2Any.tab5 spec_l2Any.bits5 (fun HT_ HW_ => ?_)
     generalize w26.drew = w27 at HO271 HO274 HO283 BK267 BK277 HI0 HK HB hHeld ⊢
     refine pu_ 0 (some 17) (mk_ 9 1) HT_.out ?_
     refine pu_ 2 (some 19) (mk_ 9 5) HT_.out ?_
     refine ta_ 1 (some 18) (mk_ 9 7) HT_.out HW_.out hHeld (hy := by rintro w' ⟨s0, s1, s2⟩; go_simp; with_reducible rfl) (h := ?_)
     refine on_ 3 (some 20) (mk_ 9 15) HT_.out fun K hK => ?_
     refine Kd.R_lit_step (Kd.int .i64) _ 3 ?hg (N := 20) ?hd (xs := ([0, 1, 60, 61] : List Int)) (inner := [.int .i64 0, .int .i64 1, .int .i64 60, .int .i64 61]) (ok := fun _ => True) (okp := fun _ => True) ?hr ?hp (fun _ hk => hk) trivial (Below.refl _ _) (Nat.le_refl _) (by simp) ?_; (case hd => rfl); (case hg => rfl); (case hr => first | (go_simp; done) | (go_simp; rfl)); (case hp => exact (Reps.one (show Kd.M (Kd.int .i64) _ _ _ 0 [.int .i64 0] from rfl) (Reps.one (show Kd.M (Kd.int .i64) _ _ _ 1 [.int .i64 1] from rfl) (Reps.one (show Kd.M (Kd.int .i64) _ _ _ 60 [.int .i64 60] from rfl) (Reps.one (show Kd.M (Kd.int .i64) _ _ _ 61 [.int .i64 61] from rfl) (Reps.none _ _))))))
     intro v288 w28 ho29 hb hg_ hnew_
     clear hg_ hnew_
     (first | rw [← Ny287.out] at ho29 | (simp only [Int.reduceToNat] at ho29; rw [← Ny287.out] at ho29))
     have z_ := t9_ (Kd.R_elder' (kR_ HO271.out) (Kd.R_base ho29) hb) (Kd.R_elder' (kR_ HO274.out) (Kd.R_base ho29) hb) (rB_ (kR_ HO283.out) hb) (Kd.R_lower (Kd.R_new' (Kd.R_new' ho29 (Kd.R_lt (kR_ HO271.out))) (Kd.R_lt (kR_ HO274.out))) (keep_size (w := w) (g := g) (row := none) (ki2_ HK.out GW267.out GW277.out))) (IsS99.below (iz2_ HI0.out NB0_267.out NB0_277.out) hb) (bB_ (bk_ BK267.out) hb) (bB_ (bk_ BK277.out) hb) (kT_ (ki2_ HK.out GW267.out GW277.out) (kO_ hb g none) (.inl rfl)) (bS_ (bw3_ HB.out (IsS99.ge HI0.out) GE267.out GE277.out) hb)
     clear HO274 HO271
     (try clear HO283)
     clear HB HK BK277 BK267 HI0
     obtain ⟨HO271, HO274, HO283, HO289, HI0, BK267, BK277, HK, HB⟩ := z_
     clear hb ho29
     obtain ⟨Ao30, co30, eo30⟩ := Kd.R_slice HO289.out
     (first | subst eo30 | (injection eo30 with f1_ f2_ f3_; have f4_ := f1_.symm; have f5_ := f3_.symm; clear f1_ f2_ f3_; subst f4_; subst f5_))
     refine hK.out _ _ ⟨(blk_cell BK277.out 0).trans rfl, (blk_cell BK277.out 1).trans rfl, (blk_cell BK277.out 2).trans rfl⟩ (fun hHeld => ?_)
     clear hK K
     refine norm_ (a' := ?_) ?_ ?_
     rotate_left
     ·show Act.put _ (some 20) _ = _
      simp only [Act.put, lA_, lB_, lC_, i64_w, i32_w]
      rfl
     refine on_ 4 (some 21) (mk_ 9 31) HT_.out fun K hK => ?_
     refine goes_ Try.func95 (by kernel_rfl) rfl #[.pointer (some ⟨g, 0, none⟩), .slice Ao30 y287.length co30] (by rfl) rfl rfl ar_ ?_
     with_reducible refine (spec_l01Int.calls g s0_0 t285 t286 _ _ y287 t290 t291 t292 w0 _ ?side1 ?side2 ?side3 ?side4 ?side5 A7.out).mono ?_
     (case side1 => exact iz2_ HI0.out NB0_267.out NB0_277.out)
     (case side2 => exact bw3_ HB.out (IsS99.ge HI0.out) GE267.out GE277.out)
     (case side3 => exact kD_ (Kd.R_reads' HO289.out).2.2)
     (case side4 => exact (Kd.R_reads' HO289.out).2.1)
     (case side5 => exact far_slice (IsS99.own_ne HI0.out HO289.out (by decide)))
     rintro e w31 ⟨rfl, hi, hb, hk⟩
     refine ⟨_, rfl, ?_⟩
     have z_ := t9_ (KeepBut.blk hk (bk_ BK267.out) NB267_0.out (by simp)) (Kd.R_mono (Kd.R_keep (IsS99.apart (show IsS99 w0 _ g s0_0 t285 t286 from iz2_ HI0.out NB0_267.out NB0_277.out) (kR_ HO271.out) (by decide)) hk (fun _ h => h.2)) (fun _ h => h.1)) (Kd.R_mono (Kd.R_keep (IsS99.apart (show IsS99 w0 _ g s0_0 t285 t286 from iz2_ HI0.out NB0_267.out NB0_277.out) (kR_ HO274.out) (by decide)) hk (fun _ h => h.2)) (fun _ h => h.1)) (KeepBut.blk hk (bk_ BK277.out) NB277_0.out (by simp)) (Kd.R_mono (Kd.R_keep (IsS99.apart (show IsS99 w0 _ g s0_0 t285 t286 from iz2_ HI0.out NB0_267.out NB0_277.out) (kR_ HO283.out) (by decide)) hk (fun _ h => h.2)) (fun _ h => h.1)) (Kd.R_mono (Kd.R_keep (IsS99.apart (show IsS99 w0 _ g s0_0 t285 t286 from iz2_ HI0.out NB0_267.out NB0_277.out) (kR_ HO289.out) (by decide)) hk (fun _ h => h.2)) (fun _ h => h.1)) (kT_ (ki2_ HK.out GW267.out GW277.out) hk (.inl rfl)) hb hi
     clear BK277 HO274 HO271 BK267
     (try clear HO289 HO283)
     clear HI0 HB HK
     obtain ⟨BK267, HO271, HO274, BK277, HO283, HO289, HK, HB, HI0⟩ := z_
     (try clear hi hk hb)
     refine hK.out _ _ ⟨(blk_cell BK277.out 0).trans rfl, (blk_cell BK277.out 1).trans rfl, (blk_cell BK277.out 2).trans rfl⟩ (fun hHeld => ?_)
     clear hK K
     refine norm_ (a' := ?_) ?_ ?_
     rotate_left
     ·show Act.put _ (some 21) _ = _
      simp only [Act.put, lA_, lB_, lC_, i64_w, i32_w]
      rfl
     refine on_ 5 (some 22) (mk_ 9 63) HT_.out fun K hK => ?_
     refine value_ (w1 := ?_) (v := ?_) (by rfl) rfl ?_ ?_
     rotate_left 2
     ·go_simp
      constructor
      ·rfl
      ·rfl
     refine hK.out _ _ ⟨(blk_cell (blk_alloc BK277.out _) 0).trans rfl, (blk_cell (blk_alloc BK277.out _) 1).trans rfl, (blk_cell (blk_alloc BK277.out _) 2).trans rfl⟩ (fun hHeld => ?_)
     clear hK K
     refine norm_ (a' := ?_) ?_ ?_
     rotate_left
     ·show Act.put _ (some 22) _ = _
      simp only [Act.put, lA_, lB_, lC_, i64_w, i32_w]
      rfl
     refine on_ 6 (some 23) (mk_ 9 127) HT_.out fun K hK => ?_
     refine Kd.R_append_step (Kd.int .i64) w.heap.size (by rfl) (.tmp 18) (.tmp 22) 23 3 (.int .i64 0) 8 rfl Try.underlying23 info3 rfl (by decide) (by omega) (.slice Ao17 t269.length co17) t269 t290 [.int .i64 t290] (fun k_ => some k_ ≠ (.slice Ao18 t272.length co18 : Value).ownBlock ∧ some k_ ≠ (.slice Ao30 y287.length co30 : Value).ownBlock) (fun _ => False) rfl rfl ?aP (fun _ hk => hk.elim) ?aF ?aO (Below.refl _ _) ?aS ?aL ?_
     (case aP => exact rfl)
     (case aF => exact (fun k_ hk => ⟨Kd.fresh' (Kd.R_lt (kR_ HO274.out)) k_ hk, Kd.fresh' (Kd.R_lt (kR_ HO289.out)) k_ hk⟩))
     (case aO => exact (kR_ HO271.out))
     (case aS => exact (keep_size (w := w) (g := g) (row := none) (ki2_ HK.out GW267.out GW277.out)))
     (case aL => have := LMc8.out; omega)
     intro v294 w32 ho hb hg hat
     rw [← Ny293.out] at ho
     have z_ := t9_ (IsS99.grown (iz2_ HI0.out NB0_267.out NB0_277.out) hg (IsS99.own_ne HI0.out HO271.out (by decide))) (blk_grown (g := gb267) (o := .cells #[.string (⟨#[]⟩ : ByteArray), .slice none 0 0, .slice none 0 0] 25 (0, 0)) (bk_ BK267.out) hg (Kd.R_ne HO271.out BK267.out (by decide))) (Kd.R_after (ok := (fun k_ => some k_ ≠ (.slice Ao30 y287.length co30 : Value).ownBlock)) (by refine kR_ ?_; exact Kd.R_mono HO274.out (fun _ hk => ⟨hk.2, hk.1⟩)) hg hat) (blk_grown (g := gb277) (o := .cells #[.string (t268 ++ t284), .slice Ao17 t269.length co17, .slice Ao18 t272.length co18] 25 (0, 0)) (bk_ BK277.out) hg (Kd.R_ne HO271.out BK277.out (by decide))) (Kd.R_over' (kR_ HO283.out) (Kd.R_typed (kR_ HO271.out)) (by decide) hg) (Kd.R_after (ok := (fun k_ => some k_ ≠ (.slice Ao18 t272.length co18 : Value).ownBlock)) (by refine kR_ ?_; exact Kd.R_mono HO289.out (fun _ hk => ⟨hk.2, hk.1.2⟩)) hg hat) (below_weaken (bw3_ HB.out (IsS99.ge HI0.out) GE267.out GE277.out) HL.out hb) (kT_ (ki2_ HK.out GW267.out GW277.out) (KeepBut.of_grown hg g) (Kd.R_base2 HO271.out)) ho
     clear BK277 HO274 BK267 HI0
     (try clear HO289 HO283)
     clear HO271 HK HB
     obtain ⟨HI0, BK267, HO274, BK277, HO283, HO289, HB, HK, HO295⟩ := z_
     clear ho hb hg hat
     obtain ⟨Ao33, co33, eo33⟩ := Kd.R_slice HO295.out
     (first | subst eo33 | (injection eo33 with f1_ f2_ f3_; have f4_ := f1_.symm; have f5_ := f3_.symm; clear f1_ f2_ f3_; subst f4_; subst f5_))
     refine hK.out _ _ ⟨(blk_cell BK277.out 0).trans rfl, (blk_cell BK277.out 1).trans rfl, (blk_cell BK277.out 2).trans rfl⟩ (fun hHeld => ?_)
     clear hK K
     refine norm_ (a' := ?_) ?_ ?_
     rotate_left
     ·show Act.put _ (some 23) _ = _
      simp only [Act.put, lA_, lB_, lC_, i64_w, i32_w]
      rfl
     refine pu_ 7 (some 24) (mk_ 9 255) HT_.out ?_
     refine la_ 8 none (mk_ 9 511) HT_.out fun K hK => ?_
     have hs34 := cz_ BK277.out 1 (.slice Ao17 t269.length co17)
     have hfs34 := fz_ BK277.out 1
     have hns34_0 := NB267_277.out
     have hms34_0 := NB277_267.out
     refine skip_ (w1 := ?_) (by rfl) rfl ?_ ?_
     rotate_left
     ·go_simp
      rfl
     refine hK.out _ _ ?_
     clear hK K
     refine done_ (done_of HT_.out (by kernel_rfl)) ?_
     try go_wp2
     have n0_ : Aside0 (Kd.R (Kd.int .i64) 3 (w32.setCell ⟨gb277, 1, none⟩ (.slice Ao33 y293.length co33)) w.heap.size (fun k_ => some k_ ≠ (.slice Ao30 y287.length co30 : Value).ownBlock ∧ some k_ ≠ (.slice Ao33 y293.length co33 : Value).ownBlock) (.slice Ao18 t272.length co18) t272) := ⟨by refine kR_ ?_; exact Kd.R_mono (Kd.R_far (p := ⟨gb277, 1, none⟩) (Kd.R_types HO274.out BK277.out (by decide)) (fun _ hk => hk.2) (.slice Ao33 y293.length co33)) (fun _ hk => ⟨hk.1.1, hk.1.2⟩)⟩
     have n1_ : Aside0 (Kd.R Kd.string 9 (w32.setCell ⟨gb277, 1, none⟩ (.slice Ao33 y293.length co33)) w.heap.size (fun _ => True) (.slice Ao23 y281.length co23) y281) := ⟨by refine kR_ ?_; exact Kd.R_mono (Kd.R_far (p := ⟨gb277, 1, none⟩) (Kd.R_types HO283.out BK277.out (by decide)) (fun _ hk => hk.2) (.slice Ao33 y293.length co33)) (fun _ hk => trivial)⟩
     have n2_ : Aside0 (Kd.R (Kd.int .i64) 3 (w32.setCell ⟨gb277, 1, none⟩ (.slice Ao33 y293.length co33)) w.heap.size (fun k_ => some k_ ≠ (.slice Ao18 t272.length co18 : Value).ownBlock ∧ some k_ ≠ (.slice Ao33 y293.length co33 : Value).ownBlock) (.slice Ao30 y287.length co30) y287) := ⟨by refine kR_ ?_; exact Kd.R_mono (Kd.R_far (p := ⟨gb277, 1, none⟩) (Kd.R_types HO289.out BK277.out (by decide)) (fun _ hk => hk.2) (.slice Ao33 y293.length co33)) (fun _ hk => ⟨hk.1.1, hk.1.2⟩)⟩
     have n3_ : Aside0 (Kd.R (Kd.int .i64) 3 (w32.setCell ⟨gb277, 1, none⟩ (.slice Ao33 y293.length co33)) w.heap.size (fun k_ => some k_ ≠ (.slice Ao18 t272.length co18 : Value).ownBlock ∧ some k_ ≠ (.slice Ao30 y287.length co30 : Value).ownBlock) (.slice Ao33 y293.length co33) y293) := ⟨by refine kR_ ?_; exact Kd.R_mono (Kd.R_far (p := ⟨gb277, 1, none⟩) (Kd.R_types HO295.out BK277.out (by decide)) (fun _ hk => hk.2) (.slice Ao33 y293.length co33)) (fun _ hk => ⟨hk.1.1, hk.1.2⟩)⟩
     have n4_ : Aside0 ((w32.setCell ⟨gb277, 1, none⟩ (.slice Ao33 y293.length co33)).heap[gb267]? = some (.cells #[.string (⟨#[]⟩ : ByteArray), .slice none 0 0, .slice none 0 0] 25 (0, 0))) := ⟨by refine bk_ ?_; refine blk_far ?_ NB267_277.out _; refine bk_ ?_; exact BK267.out⟩
     have n5_ : Aside0 ((w32.setCell ⟨gb277, 1, none⟩ (.slice Ao33 y293.length co33)).heap[gb277]? = some (.cells #[.string (t268 ++ t284), .slice Ao33 y293.length co33, .slice Ao18 t272.length co18] 25 (0, 0))) := ⟨by refine bk_ ?_; refine blk_put (cs := #[.string (t268 ++ t284), .slice Ao17 t269.length co17, .slice Ao18 t272.length co18]) ?_ 1 _ rfl; refine bk_ ?_; exact BK277.out⟩
     have n6_ : Aside0 (IsS99 w0 (w32.setCell ⟨gb277, 1, none⟩ (.slice Ao33 y293.length co33)) g s0_0 t291 t292) := ⟨iz2_ HI0.out NB0_267.out NB0_277.out⟩
     have n7_ : Aside0 (KeepBut w (w32.setCell ⟨gb277, 1, none⟩ (.slice Ao33 y293.length co33)) g none) := ⟨ki2_ HK.out GW267.out GW277.out⟩
     have n8_ : Aside0 (Below w0.heap.size w0 (w32.setCell ⟨gb277, 1, none⟩ (.slice Ao33 y293.length co33))) := ⟨bw3_ HB.out (IsS99.ge HI0.out) GE267.out GE277.out⟩
     (try clear HB HK HI0 BK277 BK267 HO295 HO289 HO283 HO274)
     generalize (w32.setCell ⟨gb277, 1, none⟩ (.slice Ao33 y293.length co33)) = w35 at n0_ n1_ n2_ n3_ n4_ n5_ n6_ n7_ n8_ ⊢
     have HO274 := n0_
     have HO283 := n1_
     have HO289 := n2_
     have HO295 := n3_
     have BK267 := n4_
     have BK277 := n5_
     have HI0 := n6_
     have HK := n7_
     have HB := n8_
     clear n0_ n1_ n2_ n3_ n4_ n5_ n6_ n7_ n8_
     have z_ := t8_ (Kd.R_drew HO274.out) (Kd.R_drew HO289.out) (Kd.R_drew HO295.out) (blk_drew BK267.out) (blk_drew BK277.out) (IsS99.drew HI0.out) (keep_drew HK.out) (below_drew1 HB.out)
     clear HO274
     (try clear HO289 HO283)
     clear HB HK HI0 BK277 BK267 HO295
     obtain ⟨HO274, HO289, HO295, BK267, BK277, HI0, HK, HB⟩ := z_
     refine start_ (n := 9) (S := fun w' => w'.cell? ⟨gb277, 0, none⟩ = some (.string (t268 ++ t284)) ∧ w'.cell? ⟨gb277, 1, none⟩ = some (.slice Ao33 y293.length co33) ∧ w'.cell? ⟨gb277, 2, none⟩ = some (.slice Ao18 t272.length co18)) (ds := [8]) (mk_ 9 0) (by kernel_rfl) rfl rfl ⟨(blk_cell BK277.out 0).trans rfl, (blk_cell BK277.out 1).trans rfl, (blk_cell BK277.out 2).trans rfl⟩ (fun hHeld => ?_); refine with_tabW spec_l2Any.tab6 spec_l2Any.bits6 (fun HT_ HW_ => ?_)
     generalize w35.drew = w36 at HO274 HO289 HO295 BK267 BK277 HI0 HK HB hHeld ⊢
     refine pu_ 0 (some 25) (mk_ 9 1) HT_.out ?_
     refine pu_ 2 (some 27) (mk_ 9 5) HT_.out ?_
     refine ta_ 1 (some 26) (mk_ 9 7) HT_.out HW_.out hHeld (hy := by rintro w' ⟨s0, s1, s2⟩; go_simp; with_reducible rfl) (h := ?_)
     refine on_ 3 (some 28) (mk_ 9 15) HT_.out fun K hK => ?_
     refine Kd.R_lit_step (Kd.int .i64) _ 3 ?hg (N := 28) ?hd (xs := ([127, 0, 3, 128] : List Int)) (inner := [.int .i64 127, .int .i64 0, .int .i64 3, .int .i64 128]) (ok := fun _ => True) (okp := fun _ => True) ?hr ?hp (fun _ hk => hk) trivial (Below.refl _ _) (Nat.le_refl _) (by simp) ?_; (case hd => rfl); (case hg => rfl); (case hr => first | (go_simp; done) | (go_simp; rfl)); (case hp => exact (Reps.one (show Kd.M (Kd.int .i64) _ _ _ 127 [.int .i64 127] from rfl) (Reps.one (show Kd.M (Kd.int .i64) _ _ _ 0 [.int .i64 0] from rfl) (Reps.one (show Kd.M (Kd.int .i64) _ _ _ 3 [.int .i64 3] from rfl) (Reps.one (show Kd.M (Kd.int .i64) _ _ _ 128 [.int .i64 128] from rfl) (Reps.none _ _))))))
     intro v297 w37 ho38 hb hg_ hnew_
     clear hg_ hnew_
     (first | rw [← Ny296.out] at ho38 | (simp only [Int.reduceToNat] at ho38; rw [← Ny296.out] at ho38))
     have z_ := t9_ (Kd.R_elder' (kR_ HO274.out) (Kd.R_base ho38) hb) (Kd.R_elder' (kR_ HO289.out) (Kd.R_base ho38) hb) (Kd.R_elder' (kR_ HO295.out) (Kd.R_base ho38) hb) (Kd.R_lower (Kd.R_new' (Kd.R_new' (Kd.R_new' ho38 (Kd.R_lt (kR_ HO274.out))) (Kd.R_lt (kR_ HO289.out))) (Kd.R_lt (kR_ HO295.out))) (keep_size (w := w) (g := g) (row := none) (ki2_ HK.out GW267.out GW277.out))) (IsS99.below (iz2_ HI0.out NB0_267.out NB0_277.out) hb) (bB_ (bk_ BK267.out) hb) (bB_ (bk_ BK277.out) hb) (kT_ (ki2_ HK.out GW267.out GW277.out) (kO_ hb g none) (.inl rfl)) (bS_ (bw3_ HB.out (IsS99.ge HI0.out) GE267.out GE277.out) hb)
     clear HO274
     (try clear HO289 HO283)
     clear HB HK BK277 BK267 HI0 HO295
     obtain ⟨HO274, HO289, HO295, HO298, HI0, BK267, BK277, HK, HB⟩ := z_
     clear hb ho38
     obtain ⟨Ao39, co39, eo39⟩ := Kd.R_slice HO298.out
     (first | subst eo39 | (injection eo39 with f1_ f2_ f3_; have f4_ := f1_.symm; have f5_ := f3_.symm; clear f1_ f2_ f3_; subst f4_; subst f5_))
     refine hK.out _ _ ⟨(blk_cell BK277.out 0).trans rfl, (blk_cell BK277.out 1).trans rfl, (blk_cell BK277.out 2).trans rfl⟩ (fun hHeld => ?_)
     clear hK K
     refine norm_ (a' := ?_) ?_ ?_
     rotate_left
     ·show Act.put _ (some 28) _ = _
      simp only [Act.put, lA_, lB_, lC_, i64_w, i32_w]
      rfl
     refine on_ 4 (some 29) (mk_ 9 31) HT_.out fun K hK => ?_
     refine goes_ Try.func95 (by kernel_rfl) rfl #[.pointer (some ⟨g, 0, none⟩), .slice Ao39 y296.length co39] (by rfl) rfl rfl ar_ ?_
     with_reducible refine (spec_l01Int.calls g s0_0 t291 t292 _ _ y296 t299 t300 t301 w0 _ ?side1 ?side2 ?side3 ?side4 ?side5 A9.out).mono ?_
     (case side1 => exact iz2_ HI0.out NB0_267.out NB0_277.out)
     (case side2 => exact bw3_ HB.out (IsS99.ge HI0.out) GE267.out GE277.out)
     (case side3 => exact kD_ (Kd.R_reads' HO298.out).2.2)
     (case side4 => exact (Kd.R_reads' HO298.out).2.1)
     (case side5 => exact far_slice (IsS99.own_ne HI0.out HO298.out (by decide)))
     rintro e w40 ⟨rfl, hi, hb, hk⟩
     refine ⟨_, rfl, ?_⟩
     have z_ := t9_ (KeepBut.blk hk (bk_ BK267.out) NB267_0.out (by simp)) (Kd.R_mono (Kd.R_keep (IsS99.apart (show IsS99 w0 _ g s0_0 t291 t292 from iz2_ HI0.out NB0_267.out NB0_277.out) (kR_ HO274.out) (by decide)) hk (fun _ h => h.2)) (fun _ h => h.1)) (KeepBut.blk hk (bk_ BK277.out) NB277_0.out (by simp)) (Kd.R_mono (Kd.R_keep (IsS99.apart (show IsS99 w0 _ g s0_0 t291 t292 from iz2_ HI0.out NB0_267.out NB0_277.out) (kR_ HO289.out) (by decide)) hk (fun _ h => h.2)) (fun _ h => h.1)) (Kd.R_mono (Kd.R_keep (IsS99.apart (show IsS99 w0 _ g s0_0 t291 t292 from iz2_ HI0.out NB0_267.out NB0_277.out) (kR_ HO295.out) (by decide)) hk (fun _ h => h.2)) (fun _ h => h.1)) (Kd.R_mono (Kd.R_keep (IsS99.apart (show IsS99 w0 _ g s0_0 t291 t292 from iz2_ HI0.out NB0_267.out NB0_277.out) (kR_ HO298.out) (by decide)) hk (fun _ h => h.2)) (fun _ h => h.1)) (kT_ (ki2_ HK.out GW267.out GW277.out) hk (.inl rfl)) hb hi
     clear BK277 HO274 BK267
     (try clear HO289 HO283)
     clear HO295
     (try clear HO298)
     clear HI0 HB HK
     obtain ⟨BK267, HO274, BK277, HO289, HO295, HO298, HK, HB, HI0⟩ := z_
     (try clear hi hk hb)
     refine hK.out _ _ ⟨(blk_cell BK277.out 0).trans rfl, (blk_cell BK277.out 1).trans rfl, (blk_cell BK277.out 2).trans rfl⟩ (fun hHeld => ?_)
     clear hK K
     refine norm_ (a' := ?_) ?_ ?_
     rotate_left
     ·show Act.put _ (some 29) _ = _
      simp only [Act.put, lA_, lB_, lC_, i64_w, i32_w]
      rfl
     refine on_ 5 (some 30) (mk_ 9 63) HT_.out fun K hK => ?_
     refine value_ (w1 := ?_) (v := ?_) (by rfl) rfl ?_ ?_
     rotate_left 2
     ·go_simp
      constructor
      ·rfl
      ·rfl
     refine hK.out _ _ ⟨(blk_cell (blk_alloc BK277.out _) 0).trans rfl, (blk_cell (blk_alloc BK277.out _) 1).trans rfl, (blk_cell (blk_alloc BK277.out _) 2).trans rfl⟩ (fun hHeld => ?_)
     clear hK K
     refine norm_ (a' := ?_) ?_ ?_
     rotate_left
     ·show Act.put _ (some 30) _ = _
      simp only [Act.put, lA_, lB_, lC_, i64_w, i32_w]
      rfl
     refine on_ 6 (some 31) (mk_ 9 127) HT_.out fun K hK => ?_
     refine Kd.R_append_step (Kd.int .i64) w.heap.size (by rfl) (.tmp 26) (.tmp 30) 23 3 (.int .i64 0) 8 rfl Try.underlying23 info3 rfl (by decide) (by omega) (.slice Ao18 t272.length co18) t272 t299 [.int .i64 t299] (fun k_ => some k_ ≠ (.slice Ao30 y287.length co30 : Value).ownBlock ∧ some k_ ≠ (.slice Ao33 y293.length co33 : Value).ownBlock ∧ some k_ ≠ (.slice Ao39 y296.length co39 : Value).ownBlock) (fun _ => False) rfl rfl ?aP (fun _ hk => hk.elim) ?aF ?aO (Below.refl _ _) ?aS ?aL ?_
     (case aP => exact rfl)
     (case aF => exact (fun k_ hk => ⟨Kd.fresh' (Kd.R_lt (kR_ HO289.out)) k_ hk, Kd.fresh' (Kd.R_lt (kR_ HO295.out)) k_ hk, Kd.fresh' (Kd.R_lt (kR_ HO298.out)) k_ hk⟩))
     (case aO => exact (by refine kR_ ?_; exact Kd.R_mono HO274.out (fun _ hk => ⟨hk.1.1, ⟨hk.1.2, hk.2⟩⟩)))
     (case aS => exact (keep_size (w := w) (g := g) (row := none) (ki2_ HK.out GW267.out GW277.out)))
     (case aL => have := LMc10.out; omega)
     intro v303 w41 ho hb hg hat
     rw [← Ny302.out] at ho
     have z_ := t7_ (IsS99.grown (iz2_ HI0.out NB0_267.out NB0_277.out) hg (IsS99.own_ne HI0.out HO274.out (by decide))) (blk_grown (g := gb267) (o := .cells #[.string (⟨#[]⟩ : ByteArray), .slice none 0 0, .slice none 0 0] 25 (0, 0)) (bk_ BK267.out) hg (Kd.R_ne HO274.out BK267.out (by decide))) (blk_grown (g := gb277) (o := .cells #[.string (t268 ++ t284), .slice Ao33 y293.length co33, .slice Ao18 t272.length co18] 25 (0, 0)) (bk_ BK277.out) hg (Kd.R_ne HO274.out BK277.out (by decide))) (Kd.R_after (ok := (fun k_ => some k_ ≠ (.slice Ao30 y287.length co30 : Value).ownBlock ∧ some k_ ≠ (.slice Ao39 y296.length co39 : Value).ownBlock)) (by refine kR_ ?_; exact Kd.R_mono HO295.out (fun _ hk => ⟨⟨hk.1.2, hk.2⟩, hk.1.1⟩)) hg hat) (below_weaken (bw3_ HB.out (IsS99.ge HI0.out) GE267.out GE277.out) HL.out hb) (kT_ (ki2_ HK.out GW267.out GW277.out) (KeepBut.of_grown hg g) (Kd.R_base2 HO274.out)) ho
     clear BK277 BK267 HI0
     (try clear HO289 HO283)
     clear HO295
     (try clear HO298)
     clear HO274 HK HB
     obtain ⟨HI0, BK267, BK277, HO295, HB, HK, HO304⟩ := z_
     clear ho hb hg hat
     obtain ⟨Ao42, co42, eo42⟩ := Kd.R_slice HO304.out
     (first | subst eo42 | (injection eo42 with f1_ f2_ f3_; have f4_ := f1_.symm; have f5_ := f3_.symm; clear f1_ f2_ f3_; subst f4_; subst f5_))
     refine hK.out _ _ ⟨(blk_cell BK277.out 0).trans rfl, (blk_cell BK277.out 1).trans rfl, (blk_cell BK277.out 2).trans rfl⟩ (fun hHeld => ?_)
     clear hK K
     refine norm_ (a' := ?_) ?_ ?_
     rotate_left
     ·show Act.put _ (some 31) _ = _
      simp only [Act.put, lA_, lB_, lC_, i64_w, i32_w]
      rfl
     refine pu_ 7 (some 32) (mk_ 9 255) HT_.out ?_
     refine la_ 8 none (mk_ 9 511) HT_.out fun K hK => ?_
     have hs43 := cz_ BK277.out 2 (.slice Ao18 t272.length co18)
     have hfs43 := fz_ BK277.out 2
     have hns43_0 := NB267_277.out
     have hms43_0 := NB277_267.out
     refine skip_ (w1 := ?_) (by rfl) rfl ?_ ?_
     rotate_left
     ·go_simp
      rfl
     refine hK.out _ _ ?_
     clear hK K
     refine done_ (done_of HT_.out (by kernel_rfl)) ?_
     have hcz44_0 := cz_ BK277.out 0 (.string (t268 ++ t284))
     have hcz44_1 := cz_ BK277.out 1 (.slice Ao33 y293.length co33)
     have hcz44_2 := cz_ BK277.out 2 (.slice Ao18 t272.length co18)
     have hfz44_0 := fz_ BK277.out 0
     have hfz44_1 := fz_ BK277.out 1
     have hfz44_2 := fz_ BK277.out 2
     have hnb45 := NB267_0.out
     have hnc45 := NB0_267.out
     have hcz46_0 := cz_ BK267.out 0 (.string (⟨#[]⟩ : ByteArray))
     have hcz46_1 := cz_ BK267.out 1 (.slice none 0 0)
     have hcz46_2 := cz_ BK267.out 2 (.slice none 0 0)
     have hfz46_0 := fz_ BK267.out 0
     have hfz46_1 := fz_ BK267.out 1
     have hfz46_2 := fz_ BK267.out 2
     try go_wp2
     refine bodyPost_ret (results_cell_row rfl _ _ gb267 25 #[.string (t268 ++ t284), .slice Ao33 y293.length co33, .slice Ao42 y302.length co42] (0, 0) _ rfl (by refine bk_ ?_; refine blk_put (cs := #[.string (t268 ++ t284), .slice Ao33 y293.length co33, .slice none 0 0]) ?_ 2 _ rfl; refine bk_ ?_; refine blk_put (cs := #[.string (t268 ++ t284), .slice none 0 0, .slice none 0 0]) ?_ 1 _ rfl; refine bk_ ?_; refine blk_put (cs := #[.string (⟨#[]⟩ : ByteArray), .slice none 0 0, .slice none 0 0]) ?_ 0 _ rfl; refine bk_ ?_; refine blk_far ?_ NB267_277.out _; refine bk_ ?_; exact BK267.out) Try.underlying25 rfl (by kernel_rfl)) rfl ?_
     exact ⟨_, _, rb_, by refine kR_ ?_; exact Kd.R_mono (Kd.R_far (p := ⟨gb267, 2, none⟩) (Kd.R_far (p := ⟨gb267, 1, none⟩) (Kd.R_far (p := ⟨gb267, 0, none⟩) (Kd.R_far (p := ⟨gb277, 2, none⟩) (Kd.R_types (Kd.R_types HO295.out BK277.out (by decide)) BK267.out (by decide)) (fun _ hk => hk.1.2) (.slice Ao42 y302.length co42)) (fun _ hk => hk.2) (.string (t268 ++ t284))) (fun _ hk => hk.2) (.slice Ao33 y293.length co33)) (fun _ hk => hk.2) (.slice Ao42 y302.length co42)) (fun _ hk => hk.1.1.2), by refine kR_ ?_; exact Kd.R_mono (Kd.R_far (p := ⟨gb267, 2, none⟩) (Kd.R_far (p := ⟨gb267, 1, none⟩) (Kd.R_far (p := ⟨gb267, 0, none⟩) (Kd.R_far (p := ⟨gb277, 2, none⟩) (Kd.R_types (Kd.R_types HO304.out BK277.out (by decide)) BK267.out (by decide)) (fun _ hk => hk.1.2) (.slice Ao42 y302.length co42)) (fun _ hk => hk.2) (.string (t268 ++ t284))) (fun _ hk => hk.2) (.slice Ao33 y293.length co33)) (fun _ hk => hk.2) (.slice Ao42 y302.length co42)) (fun _ hk => hk.1.1.2.1), iz2_ HI0.out NB0_267.out NB0_277.out, bw3_ HB.out (IsS99.ge HI0.out) GE267.out GE277.out, ki2_ HK.out GW267.out GW277.out⟩
    ·rw [if_neg c10] at H
     exact absurd H (by simp)
   ·rw [if_neg c8] at H
    exact absurd H (by simp)
  ·rw [if_neg c6] at H
   exact absurd H (by simp)
 ·rw [if_neg c4] at H
  have c4b0 : (t278 == 0) = false := beq_eq_false_iff_ne.mpr c4
  have c4b1 : (t278 != 0) = true := bne_iff_ne.mpr c4
  by_cases c47 : t278 = 1
  ·rw [if_pos c47] at H
   have c47b0 := beq_iff_eq.mpr c47
   have c47b1 := bne_eq_false_iff_eq.mpr c47
   clear c47
   obtain ⟨y305, hy305⟩ : ∃ y_ : List Int, y_ = (([0, 61, (-5), 60] : List Int)) := ⟨_, rfl⟩
   replace H : ((spec_l01Int.f s0_0 t279 t280 y305).bind fun bt308 => (if 0 < (t269.length : Int) then (some (t268, (t269.set (0 : Int).toNat bt308.1), t272, bt308.2.1, bt308.2.2)) else (none))) = some (r1, r2, r3, r4, r5) := by first | (rw [hy305]; with_reducible exact H) | (have H2_ := (Option.bind_some _ _).symm.trans H; rw [hy305]; with_reducible exact H2_) | (have H2_ := (Option.bind_some _ _).symm.trans H; with_reducible exact H2_) | with_reducible exact H | (rw [hy305]; exact H) | exact H
   have Ny305 := M_ hy305
   clear hy305
   replace H := bs_ H
   obtain ⟨⟨t308, t309, t310⟩, A480, H⟩ := H
   dsimp only at H
   have A48 := M_ A480
   clear A480
   by_cases c49 : 0 < (t269.length : Int)
   ·rw [if_pos c49] at H
    have c49b0 := dt_ c49
    have c49b1 : decide (0 < t269.length) = true := dt_ (by omega)
    clear c49
    obtain ⟨y311, hy311⟩ : ∃ y_ : List Int, y_ = (t269.set (0 : Int).toNat t308) := ⟨_, rfl⟩
    replace H : (some (t268, y311, t272, t309, t310)) = some (r1, r2, r3, r4, r5) := by first | (rw [hy311]; with_reducible exact H) | (have H2_ := (Option.bind_some _ _).symm.trans H; rw [hy311]; with_reducible exact H2_) | (have H2_ := (Option.bind_some _ _).symm.trans H; with_reducible exact H2_) | with_reducible exact H | (rw [hy311]; exact H) | exact H
    have Ny311 := M_ hy311
    clear hy311
    simp only [Option.some.injEq, Prod.mk.injEq] at H
    obtain ⟨rfl, rfl, rfl, rfl, rfl⟩ := H
    go_enter Try.func94, Try.ntmps94
    try go_wp2_with (first | ((with_reducible refine gate_dst (N := 2) rfl ?_); refine be_ 2 #[.string (⟨#[]⟩ : ByteArray), .slice none 0 0, .slice none 0 0] 25 ?_; intro gb267 hg w51 hbox hb; have z_ := t6_ (IsS99.below (iz0_ HI0.out) hb) (kT_ (ki0_ HK.out) (kO_ hb g none) (.inl rfl)) (bS_ (bw1_ HB.out (IsS99.ge HI0.out)) hb) hbox (gw_ g hg (ki0_ HK.out) : w.heap.size ≤ gb267) (by rw [hg]; exact Nat.ne_of_lt (IsS99.lt (show IsS99 w0 _ g s0_0 s0_1 s0_2 from iz0_ HI0.out)) : g ≠ gb267); clear HB HK HI0; obtain ⟨HI0, HK, HB, BK267, GW267, NB0_267⟩ := z_; have GE267 := M_ (Nat.le_trans HW0.out GW267.out); have NB267_0 := M_ NB0_267.out.symm; clear hb hbox hg) | ((with_reducible refine gate_callee (f := 113) rfl ?_); refine gl_ (some 5) Try.func113 #[.pointer (some ⟨g, 0, none⟩), .int .i64 9] ?_; (with_reducible refine (spec_l2Font.calls k g s0_0 s0_1 s0_2 9 t268 t269 t272 t275 t276 w0 _ ?side1 ?side2 A2.out).mono ?_); (case side1 => exact iz1_ HI0.out NB0_267.out); (case side2 => exact bw2_ HB.out (IsS99.ge HI0.out) GE267.out); rintro e w52 ⟨v270, v273, rfl, ho0, ho1, hi, hb, hk⟩; refine ⟨_, rfl, ?_⟩; have z_ := t6_ (KeepBut.blk hk (bk_ BK267.out) NB267_0.out (by simp)) (Kd.R_lower ho0 (keep_size (w := w) (g := g) (row := none) (ki1_ HK.out GW267.out))) (Kd.R_lower ho1 (keep_size (w := w) (g := g) (row := none) (ki1_ HK.out GW267.out))) (kT_ (ki1_ HK.out GW267.out) hk (.inl rfl)) hb hi; clear HI0 HB HK BK267; obtain ⟨BK267, HO271, HO274, HK, HB, HI0⟩ := z_; (try clear ho1 ho0 hi hk hb)) | ((with_reducible refine gate_dst (N := 3) rfl ?_); refine be_ 3 #[.string (⟨#[]⟩ : ByteArray), .slice none 0 0, .slice none 0 0] 25 ?_; intro gb277 hg w53 hbox hb; have z_ := t10_ (rB_ (kR_ HO271.out) hb) (rB_ (kR_ HO274.out) hb) (IsS99.below (iz1_ HI0.out NB0_267.out) hb) (bB_ (bk_ BK267.out) hb) (kT_ (ki1_ HK.out GW267.out) (kO_ hb g none) (.inl rfl)) (bS_ (bw2_ HB.out (IsS99.ge HI0.out) GE267.out) hb) hbox (gw_ g hg (ki1_ HK.out GW267.out) : w.heap.size ≤ gb277) (by rw [hg]; exact Nat.ne_of_lt (blk_lt (bk_ BK267.out)) : gb267 ≠ gb277) (by rw [hg]; exact Nat.ne_of_lt (IsS99.lt (show IsS99 w0 _ g s0_0 t275 t276 from iz1_ HI0.out NB0_267.out)) : g ≠ gb277); clear HB HK BK267 HI0 HO274 HO271; obtain ⟨HO271, HO274, HI0, BK267, HK, HB, BK277, GW277, NB267_277, NB0_277⟩ := z_; have GE277 := M_ (Nat.le_trans HW0.out GW277.out); have NB277_267 := M_ NB267_277.out.symm; have NB277_0 := M_ NB0_277.out.symm; clear hb hbox hg; have hnb54 := NB277_267.out; have hnc54 := NB267_277.out; have hnb55 := NB277_0.out; have hnc55 := NB0_277.out; have hcz56_0 := cz_ BK277.out 0 (.string (⟨#[]⟩ : ByteArray)); have hcz56_1 := cz_ BK277.out 1 (.slice none 0 0); have hcz56_2 := cz_ BK277.out 2 (.slice none 0 0); have hfz56_0 := fz_ BK277.out 0; have hfz56_1 := fz_ BK277.out 1; have hfz56_2 := fz_ BK277.out 2; obtain ⟨Ao57, co57, eo57⟩ := Kd.R_slice HO271.out; subst eo57; obtain ⟨Ao58, co58, eo58⟩ := Kd.R_slice HO274.out; subst eo58) | ((with_reducible refine gate_callee (f := 73) rfl ?_); refine gl_ (some 7) Try.func73 #[.pointer (some ⟨g, 0, none⟩), .int .i64 20] ?_; (with_reducible refine (spec_l01Below.calls g s0_0 t275 t276 20 t278 t279 t280 w0 _ ?side1 ?side2 A3.out).mono ?_); (case side1 => exact iz2_ HI0.out NB0_267.out NB0_277.out); (case side2 => exact bw3_ HB.out (IsS99.ge HI0.out) GE267.out GE277.out); rintro e w59 ⟨rfl, hi, hb, hk⟩; refine ⟨_, rfl, ?_⟩; have z_ := t7_ (KeepBut.blk hk (g' := gb267) (o := .cells #[.string (⟨#[]⟩ : ByteArray), .slice none 0 0, .slice none 0 0] 25 (0, 0)) (by refine bk_ ?_; refine blk_far ?_ NB267_277.out _; refine bk_ ?_; refine blk_far ?_ NB267_277.out _; refine bk_ ?_; refine blk_far ?_ NB267_277.out _; refine bk_ ?_; exact BK267.out) NB267_0.out (by simp)) (Kd.R_mono (Kd.R_keep (IsS99.apart (show IsS99 w0 _ g s0_0 t275 t276 from iz2_ HI0.out NB0_267.out NB0_277.out) (by refine kR_ ?_; exact (fR3_ HO271.out BK277.out)) (by decide)) hk (fun _ h => h.2)) (fun _ h => h.1)) (Kd.R_mono (Kd.R_keep (IsS99.apart (show IsS99 w0 _ g s0_0 t275 t276 from iz2_ HI0.out NB0_267.out NB0_277.out) (by refine kR_ ?_; exact (fR3_ HO274.out BK277.out)) (by decide)) hk (fun _ h => h.2)) (fun _ h => h.1)) (KeepBut.blk hk (g' := gb277) (o := .cells #[.string t268, .slice Ao57 t269.length co57, .slice Ao58 t272.length co58] 25 (0, 0)) (by refine bk_ ?_; refine blk_put (cs := #[.string t268, .slice Ao57 t269.length co57, .slice none 0 0]) ?_ 2 _ rfl; refine bk_ ?_; refine blk_put (cs := #[.string t268, .slice none 0 0, .slice none 0 0]) ?_ 1 _ rfl; refine bk_ ?_; refine blk_put (cs := #[.string (⟨#[]⟩ : ByteArray), .slice none 0 0, .slice none 0 0]) ?_ 0 _ rfl; refine bk_ ?_; exact BK277.out) NB277_0.out (by simp)) (kT_ (ki2_ HK.out GW267.out GW277.out) hk (.inl rfl)) hb hi; clear HI0 HB HK BK277 HO274 HO271 BK267; obtain ⟨BK267, HO271, HO274, BK277, HK, HB, HI0⟩ := z_; (try clear hi hk hb)))
    have z_ := t7_ (Kd.R_drew HO271.out) (Kd.R_drew HO274.out) (blk_drew BK267.out) (blk_drew BK277.out) (IsS99.drew HI0.out) (keep_drew HK.out) (below_drew1 HB.out)
    clear HB HK HI0 BK277 BK267 HO274 HO271
    obtain ⟨HO271, HO274, BK267, BK277, HI0, HK, HB⟩ := z_
    refine start_ (n := 7) (S := fun w' => w'.cell? ⟨gb277, 0, none⟩ = some (.string t268) ∧ w'.cell? ⟨gb277, 1, none⟩ = some (.slice Ao57 t269.length co57) ∧ w'.cell? ⟨gb277, 2, none⟩ = some (.slice Ao58 t272.length co58)) (ds := [6]) (mk_ 7 0) (by kernel_rfl) rfl rfl ⟨(blk_cell BK277.out 0).trans rfl, (blk_cell BK277.out 1).trans rfl, (blk_cell BK277.out 2).trans rfl⟩ (fun hHeld => ?_)
    generalize w59.drew = w60 at HO271 HO274 BK267 BK277 HI0 HK HB hHeld ⊢
    refine pv_ 0 (some 35) (mk_ 7 1) ?_
    refine pv_ 2 (some 37) (mk_ 7 5) ?_
    refine tb_ 1 (some 36) (mk_ 7 7) hHeld (hy := by rintro w' ⟨s0, s1, s2⟩; go_simp; with_reducible rfl) (h := ?_)
    refine one_ (i := 3) (N := some 38) (mk_ 7 15) rfl rfl (by kernel_rfl) (by decide) (fun K hK => ?_)
    refine Kd.R_lit_step (Kd.int .i64) _ 3 ?hg (N := 38) ?hd (xs := ([0, 61, (-5), 60] : List Int)) (inner := [.int .i64 0, .int .i64 61, .int .i64 (-5), .int .i64 60]) (ok := fun _ => True) (okp := fun _ => True) ?hr ?hp (fun _ hk => hk) trivial (Below.refl _ _) (Nat.le_refl _) (by simp) ?_; (case hd => rfl); (case hg => rfl); (case hr => first | (go_simp; done) | (go_simp; rfl)); (case hp => exact (Reps.one (show Kd.M (Kd.int .i64) _ _ _ 0 [.int .i64 0] from rfl) (Reps.one (show Kd.M (Kd.int .i64) _ _ _ 61 [.int .i64 61] from rfl) (Reps.one (show Kd.M (Kd.int .i64) _ _ _ (-5) [.int .i64 (-5)] from rfl) (Reps.one (show Kd.M (Kd.int .i64) _ _ _ 60 [.int .i64 60] from rfl) (Reps.none _ _))))))
    intro v306 w61 ho62 hb hg_ hnew_
    clear hg_ hnew_
    (first | rw [← Ny305.out] at ho62 | (simp only [Int.reduceToNat] at ho62; rw [← Ny305.out] at ho62))
    have z_ := t8_ (Kd.R_elder' (kR_ HO271.out) (Kd.R_base ho62) hb) (Kd.R_elder' (kR_ HO274.out) (Kd.R_base ho62) hb) (Kd.R_lower (Kd.R_new' (Kd.R_new' ho62 (Kd.R_lt (kR_ HO271.out))) (Kd.R_lt (kR_ HO274.out))) (keep_size (w := w) (g := g) (row := none) (ki2_ HK.out GW267.out GW277.out))) (IsS99.below (iz2_ HI0.out NB0_267.out NB0_277.out) hb) (bB_ (bk_ BK267.out) hb) (bB_ (bk_ BK277.out) hb) (kT_ (ki2_ HK.out GW267.out GW277.out) (kO_ hb g none) (.inl rfl)) (bS_ (bw3_ HB.out (IsS99.ge HI0.out) GE267.out GE277.out) hb)
    clear HB HK BK277 BK267 HI0 HO274 HO271
    obtain ⟨HO271, HO274, HO307, HI0, BK267, BK277, HK, HB⟩ := z_
    clear hb ho62
    obtain ⟨Ao63, co63, eo63⟩ := Kd.R_slice HO307.out
    (first | subst eo63 | (injection eo63 with f1_ f2_ f3_; have f4_ := f1_.symm; have f5_ := f3_.symm; clear f1_ f2_ f3_; subst f4_; subst f5_))
    refine hK.out _ _ ⟨(blk_cell BK277.out 0).trans rfl, (blk_cell BK277.out 1).trans rfl, (blk_cell BK277.out 2).trans rfl⟩ (fun hHeld => ?_)
    clear hK K
    refine norm_ (a' := ?_) ?_ ?_
    rotate_left
    ·show Act.put _ (some 38) _ = _
     simp only [Act.put, lA_, lB_, lC_, i64_w, i32_w]
     rfl
    refine one_ (i := 4) (N := some 39) (mk_ 7 31) rfl rfl (by kernel_rfl) (by decide) (fun K hK => ?_)
    refine goes_ Try.func95 (by kernel_rfl) rfl #[.pointer (some ⟨g, 0, none⟩), .slice Ao63 y305.length co63] (by rfl) rfl rfl ar_ ?_
    with_reducible refine (spec_l01Int.calls g s0_0 t279 t280 _ _ y305 t308 t309 t310 w0 _ ?side1 ?side2 ?side3 ?side4 ?side5 A48.out).mono ?_
    (case side1 => exact iz2_ HI0.out NB0_267.out NB0_277.out)
    (case side2 => exact bw3_ HB.out (IsS99.ge HI0.out) GE267.out GE277.out)
    (case side3 => exact kD_ (Kd.R_reads' HO307.out).2.2)
    (case side4 => exact (Kd.R_reads' HO307.out).2.1)
    (case side5 => exact far_slice (IsS99.own_ne HI0.out HO307.out (by decide)))
    rintro e w64 ⟨rfl, hi, hb, hk⟩
    refine ⟨_, rfl, ?_⟩
    have z_ := t8_ (KeepBut.blk hk (bk_ BK267.out) NB267_0.out (by simp)) (Kd.R_mono (Kd.R_keep (IsS99.apart (show IsS99 w0 _ g s0_0 t279 t280 from iz2_ HI0.out NB0_267.out NB0_277.out) (kR_ HO271.out) (by decide)) hk (fun _ h => h.2)) (fun _ h => h.1)) (Kd.R_mono (Kd.R_keep (IsS99.apart (show IsS99 w0 _ g s0_0 t279 t280 from iz2_ HI0.out NB0_267.out NB0_277.out) (kR_ HO274.out) (by decide)) hk (fun _ h => h.2)) (fun _ h => h.1)) (KeepBut.blk hk (bk_ BK277.out) NB277_0.out (by simp)) (Kd.R_mono (Kd.R_keep (IsS99.apart (show IsS99 w0 _ g s0_0 t279 t280 from iz2_ HI0.out NB0_267.out NB0_277.out) (kR_ HO307.out) (by decide)) hk (fun _ h => h.2)) (fun _ h => h.1)) (kT_ (ki2_ HK.out GW267.out GW277.out) hk (.inl rfl)) hb hi
    clear HI0 HB HK HO307 BK277 HO274 HO271 BK267
    obtain ⟨BK267, HO271, HO274, BK277, HO307, HK, HB, HI0⟩ := z_
    (try clear hi hk hb)
    have p50 : 0 ≤ (0 : Int) := (by omega)
    have q50 : (0 : Int) < ((t269.length : Int) : Int) := od_ as_
    have qi50 : (0 < t269.length) = True := eq_true (by omega)
    obtain ⟨go50, co50, eo50, gb50, gl50, cl50, HG50⟩ := Kd.R_form HO271.out (by omega)
    (first | cases eo50 | (injection eo50 with ea_ en_ ec_; (first | subst ea_ | (injection ea_ with ea_; subst ea_)); subst ec_; clear en_))
    have GB50 := M_ gb50
    have GG50 := M_ HG50
    clear gb50 gl50 HG50
    obtain ⟨hx50_0, hf50_0⟩ := Kd.R_celln 0 HO271.out (0 : Int) p50 q50
    (try rw [show ((0 : Int)).toNat = 0 from rfl] at hx50_0)
    (try simp only [Nat.reduceMul, Nat.zero_mul, Nat.zero_add, Nat.reduceAdd] at hx50_0)
    (try rw [show ((0 : Int)).toNat = 0 from rfl] at hf50_0)
    (try simp only [Nat.reduceMul, Nat.zero_mul, Nat.zero_add, Nat.reduceAdd] at hf50_0)
    replace p50 := eq_true p50
    replace q50 := eq_true q50
    have HN0_go50 := M_ (show g ≠ go50 from by have h_ := IsS99.own_ne HI0.out HO271.out (by decide); intro e_; exact h_ (by rw [e_]; rfl))
    have HP65 := Kd.R_putn HO271.out (0 : Int) t308
    rw [← Ny311.out] at HP65
    have HQ65 := M_ HP65
    clear HP65
    refine hK.out _ _ ⟨(blk_cell BK277.out 0).trans rfl, (blk_cell BK277.out 1).trans rfl, (blk_cell BK277.out 2).trans rfl⟩ (fun hHeld => ?_)
    clear hK K
    refine norm_ (a' := ?_) ?_ ?_
    rotate_left
    ·show Act.put _ (some 39) _ = _
     simp only [Act.put, lA_, lB_, lC_, i64_w, i32_w]
     rfl
    refine pv_ 5 (some 40) (mk_ 7 63) ?_
    refine last_ (i := 6) (N := none) (mk_ 7 127) rfl rfl (by kernel_rfl) (by decide) (fun K hK => ?_)
    refine skip_ (w1 := ?_) (by rfl) rfl ?_ ?_
    rotate_left
    ·go_simp
     rfl
    refine hK.out _ _ ?_
    clear hK K
    refine done_ (by kernel_rfl) ?_
    have n0_ : Aside0 (Kd.R (Kd.int .i64) 3 (w64.setCell ⟨go50, 0, none⟩ (.int .i64 t308)) w.heap.size (fun k_ => some k_ ≠ (.slice Ao58 t272.length co58 : Value).ownBlock ∧ some k_ ≠ (.slice Ao63 y305.length co63 : Value).ownBlock) (.slice (some ⟨go50, 0, none⟩) t269.length co57) y311) := ⟨by refine kR_ ?_; exact HQ65.out⟩
    have n1_ : Aside0 (Kd.R (Kd.int .i64) 3 (w64.setCell ⟨go50, 0, none⟩ (.int .i64 t308)) w.heap.size (fun k_ => some k_ ≠ (.slice (some ⟨go50, 0, none⟩) t269.length co57 : Value).ownBlock ∧ some k_ ≠ (.slice Ao63 y305.length co63 : Value).ownBlock) (.slice Ao58 t272.length co58) t272) := ⟨by refine kR_ ?_; exact Kd.R_mono (Kd.R_far (p := ⟨go50, 0, none⟩) (Kd.R_mono HO274.out (fun k_ hk => (⟨hk, fun e_ => hk.1 (by rw [e_]; rfl)⟩ : _ ∧ k_ ≠ go50))) (fun _ hk => hk.2) (.int .i64 t308)) (fun _ hk => ⟨hk.1.1, hk.1.2⟩)⟩
    have n2_ : Aside0 (Kd.R (Kd.int .i64) 3 (w64.setCell ⟨go50, 0, none⟩ (.int .i64 t308)) w.heap.size (fun k_ => some k_ ≠ (.slice (some ⟨go50, 0, none⟩) t269.length co57 : Value).ownBlock ∧ some k_ ≠ (.slice Ao58 t272.length co58 : Value).ownBlock) (.slice Ao63 y305.length co63) y305) := ⟨by refine kR_ ?_; exact Kd.R_mono (Kd.R_far (p := ⟨go50, 0, none⟩) (Kd.R_mono HO307.out (fun k_ hk => (⟨hk, fun e_ => hk.1.2 (by rw [e_]; rfl)⟩ : _ ∧ k_ ≠ go50))) (fun _ hk => hk.2) (.int .i64 t308)) (fun _ hk => ⟨hk.1.1.2, hk.1.2⟩)⟩
    have n3_ : Aside0 ((w64.setCell ⟨go50, 0, none⟩ (.int .i64 t308)).heap[gb267]? = some (.cells #[.string (⟨#[]⟩ : ByteArray), .slice none 0 0, .slice none 0 0] 25 (0, 0))) := ⟨by refine bk_ ?_; refine blk_far ?_ (by have h_ := Kd.R_ne HO271.out BK267.out (by decide); intro e_; exact h_ (by rw [e_]; rfl)) _; refine bk_ ?_; exact BK267.out⟩
    have n4_ : Aside0 ((w64.setCell ⟨go50, 0, none⟩ (.int .i64 t308)).heap[gb277]? = some (.cells #[.string t268, .slice (some ⟨go50, 0, none⟩) t269.length co57, .slice Ao58 t272.length co58] 25 (0, 0))) := ⟨by refine bk_ ?_; refine blk_far ?_ (by have h_ := Kd.R_ne HO271.out BK277.out (by decide); intro e_; exact h_ (by rw [e_]; rfl)) _; refine bk_ ?_; exact BK277.out⟩
    have n5_ : Aside0 (IsS99 w0 (w64.setCell ⟨go50, 0, none⟩ (.int .i64 t308)) g s0_0 t309 t310) := ⟨iz3_ HI0.out HN0_go50.out NB0_267.out NB0_277.out⟩
    have n6_ : Aside0 (KeepBut w (w64.setCell ⟨go50, 0, none⟩ (.int .i64 t308)) g none) := ⟨ki3_ HK.out GB50.out GW267.out GW277.out⟩
    have n7_ : Aside0 (Below w0.heap.size w0 (w64.setCell ⟨go50, 0, none⟩ (.int .i64 t308))) := ⟨bw4_ HB.out (Nat.le_trans HL.out GB50.out) (IsS99.ge HI0.out) GE267.out GE277.out⟩
    (try clear HB HK HI0 BK277 BK267 HO307 HO274 HO271)
    generalize (w64.setCell ⟨go50, 0, none⟩ (.int .i64 t308)) = w66 at n0_ n1_ n2_ n3_ n4_ n5_ n6_ n7_ ⊢
    have HO271 := n0_
    have HO274 := n1_
    have HO307 := n2_
    have BK267 := n3_
    have BK277 := n4_
    have HI0 := n5_
    have HK := n6_
    have HB := n7_
    clear n0_ n1_ n2_ n3_ n4_ n5_ n6_ n7_
    have hcz67_0 := cz_ BK277.out 0 (.string t268)
    have hcz67_1 := cz_ BK277.out 1 (.slice (some ⟨go50, 0, none⟩) t269.length co57)
    have hcz67_2 := cz_ BK277.out 2 (.slice Ao58 t272.length co58)
    have hfz67_0 := fz_ BK277.out 0
    have hfz67_1 := fz_ BK277.out 1
    have hfz67_2 := fz_ BK277.out 2
    have hnb68 := NB267_0.out
    have hnc68 := NB0_267.out
    have hcz69_0 := cz_ BK267.out 0 (.string (⟨#[]⟩ : ByteArray))
    have hcz69_1 := cz_ BK267.out 1 (.slice none 0 0)
    have hcz69_2 := cz_ BK267.out 2 (.slice none 0 0)
    have hfz69_0 := fz_ BK267.out 0
    have hfz69_1 := fz_ BK267.out 1
    have hfz69_2 := fz_ BK267.out 2
    try go_wp2
    refine bodyPost_ret (results_cell_row rfl _ _ gb267 25 #[.string t268, .slice (some ⟨go50, 0, none⟩) t269.length co57, .slice Ao58 t272.length co58] (0, 0) _ rfl (by refine bk_ ?_; refine blk_put (cs := #[.string t268, .slice (some ⟨go50, 0, none⟩) t269.length co57, .slice none 0 0]) ?_ 2 _ rfl; refine bk_ ?_; refine blk_put (cs := #[.string t268, .slice none 0 0, .slice none 0 0]) ?_ 1 _ rfl; refine bk_ ?_; refine blk_put (cs := #[.string (⟨#[]⟩ : ByteArray), .slice none 0 0, .slice none 0 0]) ?_ 0 _ rfl; refine bk_ ?_; exact BK267.out) Try.underlying25 rfl (by kernel_rfl)) rfl ?_
    exact ⟨_, _, rb_, by refine kR_ ?_; exact Kd.R_mono (Kd.R_far (p := ⟨gb267, 2, none⟩) (Kd.R_far (p := ⟨gb267, 1, none⟩) (Kd.R_far (p := ⟨gb267, 0, none⟩) (Kd.R_types HO271.out BK267.out (by decide)) (fun _ hk => hk.2) (.string t268)) (fun _ hk => hk.2) (.slice (some ⟨go50, 0, none⟩) t269.length co57)) (fun _ hk => hk.2) (.slice Ao58 t272.length co58)) (fun _ hk => hk.1.1), by refine kR_ ?_; exact Kd.R_mono (Kd.R_far (p := ⟨gb267, 2, none⟩) (Kd.R_far (p := ⟨gb267, 1, none⟩) (Kd.R_far (p := ⟨gb267, 0, none⟩) (Kd.R_types HO274.out BK267.out (by decide)) (fun _ hk => hk.2) (.string t268)) (fun _ hk => hk.2) (.slice (some ⟨go50, 0, none⟩) t269.length co57)) (fun _ hk => hk.2) (.slice Ao58 t272.length co58)) (fun _ hk => hk.1.1), iz2_ HI0.out NB0_267.out NB0_277.out, bw3_ HB.out (IsS99.ge HI0.out) GE267.out GE277.out, ki2_ HK.out GW267.out GW277.out⟩
   ·rw [if_neg c49] at H
    exact absurd H (by simp)
  ·rw [if_neg c47] at H
   have c47b0 : (t278 == 1) = false := beq_eq_false_iff_ne.mpr c47
   have c47b1 : (t278 != 1) = true := bne_iff_ne.mpr c47
   by_cases c70 : t278 = 2
   ·rw [if_pos c70] at H
    have c70b0 := beq_iff_eq.mpr c70
    have c70b1 := bne_eq_false_iff_eq.mpr c70
    clear c70
    obtain ⟨y312, hy312⟩ : ∃ y_ : List Int, y_ = (([] : List Int)) := ⟨_, rfl⟩
    replace H : (if 1 ≤ (t272.length : Int) then ((some (t272.drop 1 : List Int)).bind fun y315 => (if y312.length + y315.length < 17592186044416 then (some (t268, t269, (y312 ++ y315), t279, t280)) else (none))) else (none)) = some (r1, r2, r3, r4, r5) := by first | (rw [hy312]; with_reducible exact H) | (have H2_ := (Option.bind_some _ _).symm.trans H; rw [hy312]; with_reducible exact H2_) | (have H2_ := (Option.bind_some _ _).symm.trans H; with_reducible exact H2_) | with_reducible exact H | (rw [hy312]; exact H) | exact H
    have Ny312 := M_ hy312
    clear hy312
    by_cases c71 : 1 ≤ (t272.length : Int)
    ·rw [if_pos c71] at H
     have c71b0 := eq_true c71
     have c71b1 := dt_ c71
     clear c71
     obtain ⟨y315, hy315⟩ : ∃ y_ : List Int, y_ = (t272.drop 1) := ⟨_, rfl⟩
     replace H : (if y312.length + y315.length < 17592186044416 then (some (t268, t269, (y312 ++ y315), t279, t280)) else (none)) = some (r1, r2, r3, r4, r5) := by first | (rw [hy315]; with_reducible exact H) | (have H2_ := (Option.bind_some _ _).symm.trans H; rw [hy315]; with_reducible exact H2_) | (have H2_ := (Option.bind_some _ _).symm.trans H; with_reducible exact H2_) | with_reducible exact H | (rw [hy315]; exact H) | exact H
     have Ny315 := M_ hy315
     clear hy315
     by_cases c72 : y312.length + y315.length < 17592186044416
     ·rw [if_pos c72] at H
      have LMc72 := M_ c72
      clear c72
      obtain ⟨y319, hy319⟩ : ∃ y_ : List Int, y_ = (y312 ++ y315) := ⟨_, rfl⟩
      replace H : (some (t268, t269, y319, t279, t280)) = some (r1, r2, r3, r4, r5) := by first | (rw [hy319]; with_reducible exact H) | (have H2_ := (Option.bind_some _ _).symm.trans H; rw [hy319]; with_reducible exact H2_) | (have H2_ := (Option.bind_some _ _).symm.trans H; with_reducible exact H2_) | with_reducible exact H | (rw [hy319]; exact H) | exact H
      have Ny319 := M_ hy319
      clear hy319
      simp only [Option.some.injEq, Prod.mk.injEq] at H
      obtain ⟨rfl, rfl, rfl, rfl, rfl⟩ := H
      go_enter Try.func94, Try.ntmps94
      go_wp2_with (first | ((with_reducible refine gate_dst (N := 2) rfl ?_); refine be_ 2 #[.string (⟨#[]⟩ : ByteArray), .slice none 0 0, .slice none 0 0] 25 ?_; intro gb267 hg w73 hbox hb; have z_ := t6_ (IsS99.below (iz0_ HI0.out) hb) (kT_ (ki0_ HK.out) (kO_ hb g none) (.inl rfl)) (bS_ (bw1_ HB.out (IsS99.ge HI0.out)) hb) hbox (gw_ g hg (ki0_ HK.out) : w.heap.size ≤ gb267) (by rw [hg]; exact Nat.ne_of_lt (IsS99.lt (show IsS99 w0 _ g s0_0 s0_1 s0_2 from iz0_ HI0.out)) : g ≠ gb267); clear HB HK HI0; obtain ⟨HI0, HK, HB, BK267, GW267, NB0_267⟩ := z_; have GE267 := M_ (Nat.le_trans HW0.out GW267.out); have NB267_0 := M_ NB0_267.out.symm; clear hb hbox hg) | ((with_reducible refine gate_callee (f := 113) rfl ?_); refine gl_ (some 5) Try.func113 #[.pointer (some ⟨g, 0, none⟩), .int .i64 9] ?_; (with_reducible refine (spec_l2Font.calls k g s0_0 s0_1 s0_2 9 t268 t269 t272 t275 t276 w0 _ ?side1 ?side2 A2.out).mono ?_); (case side1 => exact iz1_ HI0.out NB0_267.out); (case side2 => exact bw2_ HB.out (IsS99.ge HI0.out) GE267.out); rintro e w74 ⟨v270, v273, rfl, ho0, ho1, hi, hb, hk⟩; refine ⟨_, rfl, ?_⟩; have z_ := t6_ (KeepBut.blk hk (bk_ BK267.out) NB267_0.out (by simp)) (Kd.R_lower ho0 (keep_size (w := w) (g := g) (row := none) (ki1_ HK.out GW267.out))) (Kd.R_lower ho1 (keep_size (w := w) (g := g) (row := none) (ki1_ HK.out GW267.out))) (kT_ (ki1_ HK.out GW267.out) hk (.inl rfl)) hb hi; clear HI0 HB HK BK267; obtain ⟨BK267, HO271, HO274, HK, HB, HI0⟩ := z_; (try clear ho1 ho0 hi hk hb)) | ((with_reducible refine gate_dst (N := 3) rfl ?_); refine be_ 3 #[.string (⟨#[]⟩ : ByteArray), .slice none 0 0, .slice none 0 0] 25 ?_; intro gb277 hg w75 hbox hb; have z_ := t10_ (rB_ (kR_ HO271.out) hb) (rB_ (kR_ HO274.out) hb) (IsS99.below (iz1_ HI0.out NB0_267.out) hb) (bB_ (bk_ BK267.out) hb) (kT_ (ki1_ HK.out GW267.out) (kO_ hb g none) (.inl rfl)) (bS_ (bw2_ HB.out (IsS99.ge HI0.out) GE267.out) hb) hbox (gw_ g hg (ki1_ HK.out GW267.out) : w.heap.size ≤ gb277) (by rw [hg]; exact Nat.ne_of_lt (blk_lt (bk_ BK267.out)) : gb267 ≠ gb277) (by rw [hg]; exact Nat.ne_of_lt (IsS99.lt (show IsS99 w0 _ g s0_0 t275 t276 from iz1_ HI0.out NB0_267.out)) : g ≠ gb277); clear HB HK BK267 HI0 HO274 HO271; obtain ⟨HO271, HO274, HI0, BK267, HK, HB, BK277, GW277, NB267_277, NB0_277⟩ := z_; have GE277 := M_ (Nat.le_trans HW0.out GW277.out); have NB277_267 := M_ NB267_277.out.symm; have NB277_0 := M_ NB0_277.out.symm; clear hb hbox hg; have hnb76 := NB277_267.out; have hnc76 := NB267_277.out; have hnb77 := NB277_0.out; have hnc77 := NB0_277.out; have hcz78_0 := cz_ BK277.out 0 (.string (⟨#[]⟩ : ByteArray)); have hcz78_1 := cz_ BK277.out 1 (.slice none 0 0); have hcz78_2 := cz_ BK277.out 2 (.slice none 0 0); have hfz78_0 := fz_ BK277.out 0; have hfz78_1 := fz_ BK277.out 1; have hfz78_2 := fz_ BK277.out 2; obtain ⟨Ao79, co79, eo79⟩ := Kd.R_slice HO271.out; subst eo79; obtain ⟨Ao80, co80, eo80⟩ := Kd.R_slice HO274.out; subst eo80) | ((with_reducible refine gate_callee (f := 73) rfl ?_); refine gl_ (some 7) Try.func73 #[.pointer (some ⟨g, 0, none⟩), .int .i64 20] ?_; (with_reducible refine (spec_l01Below.calls g s0_0 t275 t276 20 t278 t279 t280 w0 _ ?side1 ?side2 A3.out).mono ?_); (case side1 => exact iz2_ HI0.out NB0_267.out NB0_277.out); (case side2 => exact bw3_ HB.out (IsS99.ge HI0.out) GE267.out GE277.out); rintro e w81 ⟨rfl, hi, hb, hk⟩; refine ⟨_, rfl, ?_⟩; have z_ := t7_ (KeepBut.blk hk (g' := gb267) (o := .cells #[.string (⟨#[]⟩ : ByteArray), .slice none 0 0, .slice none 0 0] 25 (0, 0)) (by refine bk_ ?_; refine blk_far ?_ NB267_277.out _; refine bk_ ?_; refine blk_far ?_ NB267_277.out _; refine bk_ ?_; refine blk_far ?_ NB267_277.out _; refine bk_ ?_; exact BK267.out) NB267_0.out (by simp)) (Kd.R_mono (Kd.R_keep (IsS99.apart (show IsS99 w0 _ g s0_0 t275 t276 from iz2_ HI0.out NB0_267.out NB0_277.out) (by refine kR_ ?_; exact (fR3_ HO271.out BK277.out)) (by decide)) hk (fun _ h => h.2)) (fun _ h => h.1)) (Kd.R_mono (Kd.R_keep (IsS99.apart (show IsS99 w0 _ g s0_0 t275 t276 from iz2_ HI0.out NB0_267.out NB0_277.out) (by refine kR_ ?_; exact (fR3_ HO274.out BK277.out)) (by decide)) hk (fun _ h => h.2)) (fun _ h => h.1)) (KeepBut.blk hk (g' := gb277) (o := .cells #[.string t268, .slice Ao79 t269.length co79, .slice Ao80 t272.length co80] 25 (0, 0)) (by refine bk_ ?_; refine blk_put (cs := #[.string t268, .slice Ao79 t269.length co79, .slice none 0 0]) ?_ 2 _ rfl; refine bk_ ?_; refine blk_put (cs := #[.string t268, .slice none 0 0, .slice none 0 0]) ?_ 1 _ rfl; refine bk_ ?_; refine blk_put (cs := #[.string (⟨#[]⟩ : ByteArray), .slice none 0 0, .slice none 0 0]) ?_ 0 _ rfl; refine bk_ ?_; exact BK277.out) NB277_0.out (by simp)) (kT_ (ki2_ HK.out GW267.out GW277.out) hk (.inl rfl)) hb hi; clear HI0 HB HK BK277 HO274 HO271 BK267; obtain ⟨BK267, HO271, HO274, BK277, HK, HB, HI0⟩ := z_; (try clear hi hk hb)) | ((with_reducible refine gate_dst (N := 43) rfl ?_); refine Kd.R_lit (Kd.int .i64) _ 3 ?hg (N := 43) ?hd (xs := ([] : List Int)) (inner := []) (ok := fun _ => True) (okp := fun _ => True) ?hr ?hp (fun _ hk => hk) trivial (Below.refl _ _) (Nat.le_refl _) (by simp) ?_; (case hd => rfl); (case hg => rfl); (case hr => first | (go_simp; done) | (go_simp; rfl)); (case hp => exact (Reps.none _ _)); intro v313 w82 ho83 hb hg_ hnew_; clear hg_ hnew_; (first | rw [← Ny312.out] at ho83 | (simp only [Int.reduceToNat] at ho83; rw [← Ny312.out] at ho83)); have z_ := t8_ (Kd.R_elder' (kR_ HO271.out) (Kd.R_base ho83) hb) (Kd.R_elder' (kR_ HO274.out) (Kd.R_base ho83) hb) (Kd.R_lower (Kd.R_new' (Kd.R_new' ho83 (Kd.R_lt (kR_ HO271.out))) (Kd.R_lt (kR_ HO274.out))) (keep_size (w := w) (g := g) (row := none) (ki2_ HK.out GW267.out GW277.out))) (IsS99.below (iz2_ HI0.out NB0_267.out NB0_277.out) hb) (bB_ (bk_ BK267.out) hb) (bB_ (bk_ BK277.out) hb) (kT_ (ki2_ HK.out GW267.out GW277.out) (kO_ hb g none) (.inl rfl)) (bS_ (bw3_ HB.out (IsS99.ge HI0.out) GE267.out GE277.out) hb); clear HB HK BK277 BK267 HI0 HO274 HO271; obtain ⟨HO271, HO274, HO314, HI0, BK267, BK277, HK, HB⟩ := z_; clear hb ho83; have hcz84_0 := cz_ BK277.out 0 (.string t268); have hcz84_1 := cz_ BK277.out 1 (.slice Ao79 t269.length co79); have hcz84_2 := cz_ BK277.out 2 (.slice Ao80 t272.length co80); have hfz84_0 := fz_ BK277.out 0; have hfz84_1 := fz_ BK277.out 1; have hfz84_2 := fz_ BK277.out 2; have q85 : (1 : Int) ≤ ((t272.length : Int) : Int) := od_ as_; obtain ⟨i085, hi085, _, hsz85, _⟩ := info_parts info3; have hroom85 : t272.length ≤ co80 := (Kd.R_reads' HO274.out).2.1; have hC85 : Kd.C (Kd.int .i64) _ Ao80 t272.length t272 := (Kd.R_reads' HO274.out).2.2; have hcut85 := cut_from (P := Try.prog) 23 3 .i64 Try.underlying23 hi085 1 hsz85 Ao80 t272.length co80 1 (by omega) q85; have hr85 := Kd.C_drop (m := (1 : Int).toNat) (c := co80) hC85 (by omega) hroom85; obtain ⟨A85, hA85⟩ : ∃ A1, A1 = (if co80 = (1 : Int).toNat then Ao80 else (Ao80 : Option Addr).map (·.add ((1 : Int).toNat * 1))) := ⟨_, rfl⟩; obtain ⟨c85, hc85⟩ : ∃ c1, c1 = co80 - (1 : Int).toNat := ⟨_, rfl⟩; have hy85 : y315.length = t272.length - (1 : Int).toNat := (by rw [Ny315.out, List.length_drop] <;> omega); rw [show (t272).drop (1 : Int).toNat = y315 from Ny315.out.symm] at hr85; replace hr85 : Kd.C (Kd.int .i64) _ A85 y315.length y315 := (by rw [hA85]; exact hr85); rw [← hy85, ← hA85, ← hc85] at hcut85; have HR318 := M_ hr85; have HC318 := M_ (show y315.length ≤ c85 from by rw [hy85, hc85]; exact Nat.sub_le_sub_right hroom85 _); clear hr85 hC85 hroom85 hi085 hsz85 hc85; have KY85 := M_ hy85; have KA85 := M_ hA85; clear hy85 hA85; have KL85 := M_ (show 1 ≤ t272.length from by omega); replace q85 := eq_true q85) | ((with_reducible refine gate_builtin (b := .append) (xs := #[.tmp 43, .tmp 46]) rfl ?_); at_builtin; refine Kd.R_append_rows (Kd.int .i64) w.heap.size rfl (.tmp 43) (.tmp 46) 23 3 (.int .i64 0) 8 rfl Try.underlying23 info3 rfl (by decide) (by omega) v313 y312 y315 _ _ _ (fun k_ => some k_ ≠ (.slice Ao79 t269.length co79 : Value).ownBlock ∧ some k_ ≠ (.slice Ao80 t272.length co80 : Value).ownBlock) (fun _ => False) rfl rfl ?aO ?aR (fun _ _ h => h) (fun _ h => h.elim) ?aF (Below.refl _ _) ?aS ?aL ?_; (case aR => repeat (first | exact (kE_ HR318.out) | (with_reducible refine Kd.C_alloc ?_ _) | (with_reducible refine Kd.C_drewN ?_ _) | (with_reducible refine Kd.C_drew ?_))); (case aF => exact (fun k_ hk => ⟨Kd.fresh' (Kd.R_lt (kR_ HO271.out)) k_ hk, Kd.fresh' (Kd.R_lt (kR_ HO274.out)) k_ hk⟩)); (case aO => exact (by refine kR_ ?_; exact Kd.R_mono HO314.out (fun _ hk => ⟨hk.1.2, hk.2⟩))); (case aS => exact (keep_size (w := w) (g := g) (row := none) (ki2_ HK.out GW267.out GW277.out))); (case aL => have := LMc72.out; omega); intro v320 w86 ho hb hg hat; rw [← Ny319.out] at ho; have z_ := t8_ (IsS99.grown (iz2_ HI0.out NB0_267.out NB0_277.out) hg (IsS99.own_ne HI0.out HO314.out (by decide))) (blk_grown (g := gb267) (o := .cells #[.string (⟨#[]⟩ : ByteArray), .slice none 0 0, .slice none 0 0] 25 (0, 0)) (bk_ BK267.out) hg (Kd.R_ne HO314.out BK267.out (by decide))) (Kd.R_after (ok := (fun k_ => some k_ ≠ (.slice Ao80 t272.length co80 : Value).ownBlock)) (kR_ HO271.out) hg hat) (Kd.R_after (ok := (fun k_ => some k_ ≠ (.slice Ao79 t269.length co79 : Value).ownBlock)) (kR_ HO274.out) hg hat) (blk_grown (g := gb277) (o := .cells #[.string t268, .slice Ao79 t269.length co79, .slice Ao80 t272.length co80] 25 (0, 0)) (bk_ BK277.out) hg (Kd.R_ne HO314.out BK277.out (by decide))) (below_weaken (bw3_ HB.out (IsS99.ge HI0.out) GE267.out GE277.out) HL.out hb) (kT_ (ki2_ HK.out GW267.out GW277.out) (KeepBut.of_grown hg g) (Kd.R_base2 HO314.out)) ho; clear HK HB BK277 HO274 HO271 BK267 HI0; (try clear HR318); clear HO314; obtain ⟨HI0, BK267, HO271, HO274, BK277, HB, HK, HO321⟩ := z_; clear ho hb hg hat; obtain ⟨Ao87, co87, eo87⟩ := Kd.R_slice HO321.out; subst eo87; have hcz88_0 := cz_ BK277.out 0 (.string t268); have hcz88_1 := cz_ BK277.out 1 (.slice Ao79 t269.length co79); have hcz88_2 := cz_ BK277.out 2 (.slice Ao80 t272.length co80); have hfz88_0 := fz_ BK277.out 0; have hfz88_1 := fz_ BK277.out 1; have hfz88_2 := fz_ BK277.out 2; have hnb89 := NB267_0.out; have hnc89 := NB0_267.out; have hcz90_0 := cz_ BK267.out 0 (.string (⟨#[]⟩ : ByteArray)); have hcz90_1 := cz_ BK267.out 1 (.slice none 0 0); have hcz90_2 := cz_ BK267.out 2 (.slice none 0 0); have hfz90_0 := fz_ BK267.out 0; have hfz90_1 := fz_ BK267.out 1; have hfz90_2 := fz_ BK267.out 2))
      refine bodyPost_ret (results_cell_row rfl _ _ gb267 25 #[.string t268, .slice Ao79 t269.length co79, .slice Ao87 y319.length co87] (0, 0) _ rfl (by refine bk_ ?_; refine blk_put (cs := #[.string t268, .slice Ao79 t269.length co79, .slice none 0 0]) ?_ 2 _ rfl; refine bk_ ?_; refine blk_put (cs := #[.string t268, .slice none 0 0, .slice none 0 0]) ?_ 1 _ rfl; refine bk_ ?_; refine blk_put (cs := #[.string (⟨#[]⟩ : ByteArray), .slice none 0 0, .slice none 0 0]) ?_ 0 _ rfl; refine bk_ ?_; refine blk_far ?_ NB267_277.out _; refine bk_ ?_; exact BK267.out) Try.underlying25 rfl (by kernel_rfl)) rfl ?_
      exact ⟨_, _, rb_, by refine kR_ ?_; exact Kd.R_mono (Kd.R_far (p := ⟨gb267, 2, none⟩) (Kd.R_far (p := ⟨gb267, 1, none⟩) (Kd.R_far (p := ⟨gb267, 0, none⟩) (Kd.R_far (p := ⟨gb277, 2, none⟩) (Kd.R_types (Kd.R_types HO271.out BK277.out (by decide)) BK267.out (by decide)) (fun _ hk => hk.1.2) (.slice Ao87 y319.length co87)) (fun _ hk => hk.2) (.string t268)) (fun _ hk => hk.2) (.slice Ao79 t269.length co79)) (fun _ hk => hk.2) (.slice Ao87 y319.length co87)) (fun _ hk => hk.1.1.2), by refine kR_ ?_; exact Kd.R_mono (Kd.R_far (p := ⟨gb267, 2, none⟩) (Kd.R_far (p := ⟨gb267, 1, none⟩) (Kd.R_far (p := ⟨gb267, 0, none⟩) (Kd.R_far (p := ⟨gb277, 2, none⟩) (Kd.R_types (Kd.R_types HO321.out BK277.out (by decide)) BK267.out (by decide)) (fun _ hk => hk.1.2) (.slice Ao87 y319.length co87)) (fun _ hk => hk.2) (.string t268)) (fun _ hk => hk.2) (.slice Ao79 t269.length co79)) (fun _ hk => hk.2) (.slice Ao87 y319.length co87)) (fun _ hk => hk.1.1.1), iz2_ HI0.out NB0_267.out NB0_277.out, bw3_ HB.out (IsS99.ge HI0.out) GE267.out GE277.out, ki2_ HK.out GW267.out GW277.out⟩
     ·rw [if_neg c72] at H
      exact absurd H (by simp)
    ·rw [if_neg c71] at H
     exact absurd H (by simp)
   ·rw [if_neg c70] at H
    have c70b0 : (t278 == 2) = false := beq_eq_false_iff_ne.mpr c70
    have c70b1 : (t278 != 2) = true := bne_iff_ne.mpr c70
    by_cases c91 : t278 = 3
    ·rw [if_pos c91] at H
     have c91b0 := beq_iff_eq.mpr c91
     have c91b1 := bne_eq_false_iff_eq.mpr c91
     clear c91
     simp only [Option.some.injEq, Prod.mk.injEq] at H
     obtain ⟨rfl, rfl, rfl, rfl, rfl⟩ := H
     go_enter Try.func94, Try.ntmps94
     go_wp2_with (first | ((with_reducible refine gate_dst (N := 2) rfl ?_); refine be_ 2 #[.string (⟨#[]⟩ : ByteArray), .slice none 0 0, .slice none 0 0] 25 ?_; intro gb267 hg w92 hbox hb; have z_ := t6_ (IsS99.below (iz0_ HI0.out) hb) (kT_ (ki0_ HK.out) (kO_ hb g none) (.inl rfl)) (bS_ (bw1_ HB.out (IsS99.ge HI0.out)) hb) hbox (gw_ g hg (ki0_ HK.out) : w.heap.size ≤ gb267) (by rw [hg]; exact Nat.ne_of_lt (IsS99.lt (show IsS99 w0 _ g s0_0 s0_1 s0_2 from iz0_ HI0.out)) : g ≠ gb267); clear HB HK HI0; obtain ⟨HI0, HK, HB, BK267, GW267, NB0_267⟩ := z_; have GE267 := M_ (Nat.le_trans HW0.out GW267.out); have NB267_0 := M_ NB0_267.out.symm; clear hb hbox hg) | ((with_reducible refine gate_callee (f := 113) rfl ?_); refine gl_ (some 5) Try.func113 #[.pointer (some ⟨g, 0, none⟩), .int .i64 9] ?_; (with_reducible refine (spec_l2Font.calls k g s0_0 s0_1 s0_2 9 t268 t269 t272 t275 t276 w0 _ ?side1 ?side2 A2.out).mono ?_); (case side1 => exact iz1_ HI0.out NB0_267.out); (case side2 => exact bw2_ HB.out (IsS99.ge HI0.out) GE267.out); rintro e w93 ⟨v270, v273, rfl, ho0, ho1, hi, hb, hk⟩; refine ⟨_, rfl, ?_⟩; have z_ := t6_ (KeepBut.blk hk (bk_ BK267.out) NB267_0.out (by simp)) (Kd.R_lower ho0 (keep_size (w := w) (g := g) (row := none) (ki1_ HK.out GW267.out))) (Kd.R_lower ho1 (keep_size (w := w) (g := g) (row := none) (ki1_ HK.out GW267.out))) (kT_ (ki1_ HK.out GW267.out) hk (.inl rfl)) hb hi; clear HI0 HB HK BK267; obtain ⟨BK267, HO271, HO274, HK, HB, HI0⟩ := z_; (try clear ho1 ho0 hi hk hb)) | ((with_reducible refine gate_dst (N := 3) rfl ?_); refine be_ 3 #[.string (⟨#[]⟩ : ByteArray), .slice none 0 0, .slice none 0 0] 25 ?_; intro gb277 hg w94 hbox hb; have z_ := t10_ (rB_ (kR_ HO271.out) hb) (rB_ (kR_ HO274.out) hb) (IsS99.below (iz1_ HI0.out NB0_267.out) hb) (bB_ (bk_ BK267.out) hb) (kT_ (ki1_ HK.out GW267.out) (kO_ hb g none) (.inl rfl)) (bS_ (bw2_ HB.out (IsS99.ge HI0.out) GE267.out) hb) hbox (gw_ g hg (ki1_ HK.out GW267.out) : w.heap.size ≤ gb277) (by rw [hg]; exact Nat.ne_of_lt (blk_lt (bk_ BK267.out)) : gb267 ≠ gb277) (by rw [hg]; exact Nat.ne_of_lt (IsS99.lt (show IsS99 w0 _ g s0_0 t275 t276 from iz1_ HI0.out NB0_267.out)) : g ≠ gb277); clear HB HK BK267 HI0 HO274 HO271; obtain ⟨HO271, HO274, HI0, BK267, HK, HB, BK277, GW277, NB267_277, NB0_277⟩ := z_; have GE277 := M_ (Nat.le_trans HW0.out GW277.out); have NB277_267 := M_ NB267_277.out.symm; have NB277_0 := M_ NB0_277.out.symm; clear hb hbox hg; have hnb95 := NB277_267.out; have hnc95 := NB267_277.out; have hnb96 := NB277_0.out; have hnc96 := NB0_277.out; have hcz97_0 := cz_ BK277.out 0 (.string (⟨#[]⟩ : ByteArray)); have hcz97_1 := cz_ BK277.out 1 (.slice none 0 0); have hcz97_2 := cz_ BK277.out 2 (.slice none 0 0); have hfz97_0 := fz_ BK277.out 0; have hfz97_1 := fz_ BK277.out 1; have hfz97_2 := fz_ BK277.out 2; obtain ⟨Ao98, co98, eo98⟩ := Kd.R_slice HO271.out; subst eo98; obtain ⟨Ao99, co99, eo99⟩ := Kd.R_slice HO274.out; subst eo99) | ((with_reducible refine gate_callee (f := 73) rfl ?_); refine gl_ (some 7) Try.func73 #[.pointer (some ⟨g, 0, none⟩), .int .i64 20] ?_; (with_reducible refine (spec_l01Below.calls g s0_0 t275 t276 20 t278 t279 t280 w0 _ ?side1 ?side2 A3.out).mono ?_); (case side1 => exact iz2_ HI0.out NB0_267.out NB0_277.out); (case side2 => exact bw3_ HB.out (IsS99.ge HI0.out) GE267.out GE277.out); rintro e w100 ⟨rfl, hi, hb, hk⟩; refine ⟨_, rfl, ?_⟩; have z_ := t7_ (KeepBut.blk hk (g' := gb267) (o := .cells #[.string (⟨#[]⟩ : ByteArray), .slice none 0 0, .slice none 0 0] 25 (0, 0)) (by refine bk_ ?_; refine blk_far ?_ NB267_277.out _; refine bk_ ?_; refine blk_far ?_ NB267_277.out _; refine bk_ ?_; refine blk_far ?_ NB267_277.out _; refine bk_ ?_; exact BK267.out) NB267_0.out (by simp)) (Kd.R_mono (Kd.R_keep (IsS99.apart (show IsS99 w0 _ g s0_0 t275 t276 from iz2_ HI0.out NB0_267.out NB0_277.out) (by refine kR_ ?_; exact (fR3_ HO271.out BK277.out)) (by decide)) hk (fun _ h => h.2)) (fun _ h => h.1)) (Kd.R_mono (Kd.R_keep (IsS99.apart (show IsS99 w0 _ g s0_0 t275 t276 from iz2_ HI0.out NB0_267.out NB0_277.out) (by refine kR_ ?_; exact (fR3_ HO274.out BK277.out)) (by decide)) hk (fun _ h => h.2)) (fun _ h => h.1)) (KeepBut.blk hk (g' := gb277) (o := .cells #[.string t268, .slice Ao98 t269.length co98, .slice Ao99 t272.length co99] 25 (0, 0)) (by refine bk_ ?_; refine blk_put (cs := #[.string t268, .slice Ao98 t269.length co98, .slice none 0 0]) ?_ 2 _ rfl; refine bk_ ?_; refine blk_put (cs := #[.string t268, .slice none 0 0, .slice none 0 0]) ?_ 1 _ rfl; refine bk_ ?_; refine blk_put (cs := #[.string (⟨#[]⟩ : ByteArray), .slice none 0 0, .slice none 0 0]) ?_ 0 _ rfl; refine bk_ ?_; exact BK277.out) NB277_0.out (by simp)) (kT_ (ki2_ HK.out GW267.out GW277.out) hk (.inl rfl)) hb hi; clear HI0 HB HK BK277 HO274 HO271 BK267; obtain ⟨BK267, HO271, HO274, BK277, HK, HB, HI0⟩ := z_; (try clear hi hk hb); have hnb101 := NB267_0.out; have hnc101 := NB0_267.out; have hcz102_0 := cz_ BK267.out 0 (.string (⟨#[]⟩ : ByteArray)); have hcz102_1 := cz_ BK267.out 1 (.slice none 0 0); have hcz102_2 := cz_ BK267.out 2 (.slice none 0 0); have hfz102_0 := fz_ BK267.out 0; have hfz102_1 := fz_ BK267.out 1; have hfz102_2 := fz_ BK267.out 2))
     refine bodyPost_ret (results_cell_row rfl _ _ gb267 25 #[.string (⟨#[]⟩ : ByteArray), .slice none 0 0, .slice none 0 0] (0, 0) _ rfl (by refine bk_ ?_; refine blk_put (cs := #[.string (⟨#[]⟩ : ByteArray), .slice none 0 0, .slice none 0 0]) ?_ 2 _ rfl; refine bk_ ?_; refine blk_put (cs := #[.string (⟨#[]⟩ : ByteArray), .slice none 0 0, .slice none 0 0]) ?_ 1 _ rfl; refine bk_ ?_; refine blk_put (cs := #[.string (⟨#[]⟩ : ByteArray), .slice none 0 0, .slice none 0 0]) ?_ 0 _ rfl; refine bk_ ?_; exact BK267.out) Try.underlying25 rfl (by kernel_rfl)) rfl ?_
     exact ⟨_, _, rb_, by first | exact Kd.R_nil _ _ _ _ _ | exact Kd.N_nil _ _ _ _ _ | exact Kd.V_nil _ _ _ _ _ | exact Kd.Q_nil _ _ _ _ _ | exact Kd.S_nil _ _ _ _ _, by first | exact Kd.R_nil _ _ _ _ _ | exact Kd.N_nil _ _ _ _ _ | exact Kd.V_nil _ _ _ _ _ | exact Kd.Q_nil _ _ _ _ _ | exact Kd.S_nil _ _ _ _ _, iz2_ HI0.out NB0_267.out NB0_277.out, bw3_ HB.out (IsS99.ge HI0.out) GE267.out GE277.out, ki2_ HK.out GW267.out GW277.out⟩
    ·rw [if_neg c91] at H
     have c91b0 : (t278 == 3) = false := beq_eq_false_iff_ne.mpr c91
     have c91b1 : (t278 != 3) = true := bne_iff_ne.mpr c91
     simp only [Option.some.injEq, Prod.mk.injEq] at H
     obtain ⟨rfl, rfl, rfl, rfl, rfl⟩ := H
     go_enter Try.func94, Try.ntmps94
     go_wp2_with (first | ((with_reducible refine gate_dst (N := 2) rfl ?_); refine be_ 2 #[.string (⟨#[]⟩ : ByteArray), .slice none 0 0, .slice none 0 0] 25 ?_; intro gb267 hg w103 hbox hb; have z_ := t6_ (IsS99.below (iz0_ HI0.out) hb) (kT_ (ki0_ HK.out) (kO_ hb g none) (.inl rfl)) (bS_ (bw1_ HB.out (IsS99.ge HI0.out)) hb) hbox (gw_ g hg (ki0_ HK.out) : w.heap.size ≤ gb267) (by rw [hg]; exact Nat.ne_of_lt (IsS99.lt (show IsS99 w0 _ g s0_0 s0_1 s0_2 from iz0_ HI0.out)) : g ≠ gb267); clear HB HK HI0; obtain ⟨HI0, HK, HB, BK267, GW267, NB0_267⟩ := z_; have GE267 := M_ (Nat.le_trans HW0.out GW267.out); have NB267_0 := M_ NB0_267.out.symm; clear hb hbox hg) | ((with_reducible refine gate_callee (f := 113) rfl ?_); refine gl_ (some 5) Try.func113 #[.pointer (some ⟨g, 0, none⟩), .int .i64 9] ?_; (with_reducible refine (spec_l2Font.calls k g s0_0 s0_1 s0_2 9 t268 t269 t272 t275 t276 w0 _ ?side1 ?side2 A2.out).mono ?_); (case side1 => exact iz1_ HI0.out NB0_267.out); (case side2 => exact bw2_ HB.out (IsS99.ge HI0.out) GE267.out); rintro e w104 ⟨v270, v273, rfl, ho0, ho1, hi, hb, hk⟩; refine ⟨_, rfl, ?_⟩; have z_ := t6_ (KeepBut.blk hk (bk_ BK267.out) NB267_0.out (by simp)) (Kd.R_lower ho0 (keep_size (w := w) (g := g) (row := none) (ki1_ HK.out GW267.out))) (Kd.R_lower ho1 (keep_size (w := w) (g := g) (row := none) (ki1_ HK.out GW267.out))) (kT_ (ki1_ HK.out GW267.out) hk (.inl rfl)) hb hi; clear HI0 HB HK BK267; obtain ⟨BK267, HO271, HO274, HK, HB, HI0⟩ := z_; (try clear ho1 ho0 hi hk hb)) | ((with_reducible refine gate_dst (N := 3) rfl ?_); refine be_ 3 #[.string (⟨#[]⟩ : ByteArray), .slice none 0 0, .slice none 0 0] 25 ?_; intro gb277 hg w105 hbox hb; have z_ := t10_ (rB_ (kR_ HO271.out) hb) (rB_ (kR_ HO274.out) hb) (IsS99.below (iz1_ HI0.out NB0_267.out) hb) (bB_ (bk_ BK267.out) hb) (kT_ (ki1_ HK.out GW267.out) (kO_ hb g none) (.inl rfl)) (bS_ (bw2_ HB.out (IsS99.ge HI0.out) GE267.out) hb) hbox (gw_ g hg (ki1_ HK.out GW267.out) : w.heap.size ≤ gb277) (by rw [hg]; exact Nat.ne_of_lt (blk_lt (bk_ BK267.out)) : gb267 ≠ gb277) (by rw [hg]; exact Nat.ne_of_lt (IsS99.lt (show IsS99 w0 _ g s0_0 t275 t276 from iz1_ HI0.out NB0_267.out)) : g ≠ gb277); clear HB HK BK267 HI0 HO274 HO271; obtain ⟨HO271, HO274, HI0, BK267, HK, HB, BK277, GW277, NB267_277, NB0_277⟩ := z_; have GE277 := M_ (Nat.le_trans HW0.out GW277.out); have NB277_267 := M_ NB267_277.out.symm; have NB277_0 := M_ NB0_277.out.symm; clear hb hbox hg; have hnb106 := NB277_267.out; have hnc106 := NB267_277.out; have hnb107 := NB277_0.out; have hnc107 := NB0_277.out; have hcz108_0 := cz_ BK277.out 0 (.string (⟨#[]⟩ : ByteArray)); have hcz108_1 := cz_ BK277.out 1 (.slice none 0 0); have hcz108_2 := cz_ BK277.out 2 (.slice none 0 0); have hfz108_0 := fz_ BK277.out 0; have hfz108_1 := fz_ BK277.out 1; have hfz108_2 := fz_ BK277.out 2; obtain ⟨Ao109, co109, eo109⟩ := Kd.R_slice HO271.out; subst eo109; obtain ⟨Ao110, co110, eo110⟩ := Kd.R_slice HO274.out; subst eo110) | ((with_reducible refine gate_callee (f := 73) rfl ?_); refine gl_ (some 7) Try.func73 #[.pointer (some ⟨g, 0, none⟩), .int .i64 20] ?_; (with_reducible refine (spec_l01Below.calls g s0_0 t275 t276 20 t278 t279 t280 w0 _ ?side1 ?side2 A3.out).mono ?_); (case side1 => exact iz2_ HI0.out NB0_267.out NB0_277.out); (case side2 => exact bw3_ HB.out (IsS99.ge HI0.out) GE267.out GE277.out); rintro e w111 ⟨rfl, hi, hb, hk⟩; refine ⟨_, rfl, ?_⟩; have z_ := t7_ (KeepBut.blk hk (g' := gb267) (o := .cells #[.string (⟨#[]⟩ : ByteArray), .slice none 0 0, .slice none 0 0] 25 (0, 0)) (by refine bk_ ?_; refine blk_far ?_ NB267_277.out _; refine bk_ ?_; refine blk_far ?_ NB267_277.out _; refine bk_ ?_; refine blk_far ?_ NB267_277.out _; refine bk_ ?_; exact BK267.out) NB267_0.out (by simp)) (Kd.R_mono (Kd.R_keep (IsS99.apart (show IsS99 w0 _ g s0_0 t275 t276 from iz2_ HI0.out NB0_267.out NB0_277.out) (by refine kR_ ?_; exact (fR3_ HO271.out BK277.out)) (by decide)) hk (fun _ h => h.2)) (fun _ h => h.1)) (Kd.R_mono (Kd.R_keep (IsS99.apart (show IsS99 w0 _ g s0_0 t275 t276 from iz2_ HI0.out NB0_267.out NB0_277.out) (by refine kR_ ?_; exact (fR3_ HO274.out BK277.out)) (by decide)) hk (fun _ h => h.2)) (fun _ h => h.1)) (KeepBut.blk hk (g' := gb277) (o := .cells #[.string t268, .slice Ao109 t269.length co109, .slice Ao110 t272.length co110] 25 (0, 0)) (by refine bk_ ?_; refine blk_put (cs := #[.string t268, .slice Ao109 t269.length co109, .slice none 0 0]) ?_ 2 _ rfl; refine bk_ ?_; refine blk_put (cs := #[.string t268, .slice none 0 0, .slice none 0 0]) ?_ 1 _ rfl; refine bk_ ?_; refine blk_put (cs := #[.string (⟨#[]⟩ : ByteArray), .slice none 0 0, .slice none 0 0]) ?_ 0 _ rfl; refine bk_ ?_; exact BK277.out) NB277_0.out (by simp)) (kT_ (ki2_ HK.out GW267.out GW277.out) hk (.inl rfl)) hb hi; clear HI0 HB HK BK277 HO274 HO271 BK267; obtain ⟨BK267, HO271, HO274, BK277, HK, HB, HI0⟩ := z_; (try clear hi hk hb); have hcz112_0 := cz_ BK277.out 0 (.string t268); have hcz112_1 := cz_ BK277.out 1 (.slice Ao109 t269.length co109); have hcz112_2 := cz_ BK277.out 2 (.slice Ao110 t272.length co110); have hfz112_0 := fz_ BK277.out 0; have hfz112_1 := fz_ BK277.out 1; have hfz112_2 := fz_ BK277.out 2; have hnb113 := NB267_0.out; have hnc113 := NB0_267.out; have hcz114_0 := cz_ BK267.out 0 (.string (⟨#[]⟩ : ByteArray)); have hcz114_1 := cz_ BK267.out 1 (.slice none 0 0); have hcz114_2 := cz_ BK267.out 2 (.slice none 0 0); have hfz114_0 := fz_ BK267.out 0; have hfz114_1 := fz_ BK267.out 1; have hfz114_2 := fz_ BK267.out 2))
     refine bodyPost_ret (results_cell_row rfl _ _ gb267 25 #[.string t268, .slice Ao109 t269.length co109, .slice Ao110 t272.length co110] (0, 0) _ rfl (by refine bk_ ?_; refine blk_put (cs := #[.string t268, .slice Ao109 t269.length co109, .slice none 0 0]) ?_ 2 _ rfl; refine bk_ ?_; refine blk_put (cs := #[.string t268, .slice none 0 0, .slice none 0 0]) ?_ 1 _ rfl; refine bk_ ?_; refine blk_put (cs := #[.string (⟨#[]⟩ : ByteArray), .slice none 0 0, .slice none 0 0]) ?_ 0 _ rfl; refine bk_ ?_; exact BK267.out) Try.underlying25 rfl (by kernel_rfl)) rfl ?_
     exact ⟨_, _, rb_, by refine kR_ ?_; exact Kd.R_mono (Kd.R_far (p := ⟨gb267, 2, none⟩) (Kd.R_far (p := ⟨gb267, 1, none⟩) (Kd.R_far (p := ⟨gb267, 0, none⟩) (Kd.R_types HO271.out BK267.out (by decide)) (fun _ hk => hk.2) (.string t268)) (fun _ hk => hk.2) (.slice Ao109 t269.length co109)) (fun _ hk => hk.2) (.slice Ao110 t272.length co110)) (fun _ hk => hk.1), by refine kR_ ?_; exact Kd.R_mono (Kd.R_far (p := ⟨gb267, 2, none⟩) (Kd.R_far (p := ⟨gb267, 1, none⟩) (Kd.R_far (p := ⟨gb267, 0, none⟩) (Kd.R_types HO274.out BK267.out (by decide)) (fun _ hk => hk.2) (.string t268)) (fun _ hk => hk.2) (.slice Ao109 t269.length co109)) (fun _ hk => hk.2) (.slice Ao110 t272.length co110)) (fun _ hk => hk.1), iz2_ HI0.out NB0_267.out NB0_277.out, bw3_ HB.out (IsS99.ge HI0.out) GE267.out GE277.out, ki2_ HK.out GW267.out GW277.out⟩

end Go.Proofs.Ytilbngklgjjblaa.Q
