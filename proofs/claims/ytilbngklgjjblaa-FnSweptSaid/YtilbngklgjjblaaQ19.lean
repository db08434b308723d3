/- Contracts of Go functions over this translation. Conditions: those that each theorem names. -/
import Derived.Test.YtilbngklgjjblaaQ0
import Derived.Test.YtilbngklgjjblaaQ1
import Derived.Test.YtilbngklgjjblaaQ10
import Derived.Test.YtilbngklgjjblaaQ18
namespace Go.Proofs.Ytilbngklgjjblaa.Q
open Go.RowKit Go.Proofs.YtilbngklgjjblaaW.PrintWords Go.Proofs.YtilbngklgjjblaaW.PrintLast Go.Proofs.YtilbngklgjjblaaW.PrintMore
attribute [local go_sem] max2_int min2_int max_two min_two max_three min_three max_four min_four
set_option linter.unusedVariables false
set_option linter.unusedSimpArgs false

attribute [local go_sem high] eqA30
def spec_DrawSweepMagazine.f (k : Nat) (l0 : List Int) : Option (ByteArray × List Int × List Int × (List (List (S30)))) := (spec_l01New.f k l0).bind fun bt413 => ((spec_l2Both.f k bt413.1 bt413.2.1 bt413.2.2).bind fun bt417 => (some (bt417.1, bt417.2.1, bt417.2.2.1, bt417.2.2.2.1)))
theorem spec_DrawSweepMagazine.mono : ∀ a0 k, LeO (spec_DrawSweepMagazine.f k a0) (spec_DrawSweepMagazine.f (k + 1) a0) := by
 intro a0 k
 unfold spec_DrawSweepMagazine.f
 repeat' first | (with_reducible first | exact spec_l01New.mono _ _ | exact spec_l2Both.mono _ _ _ _ | exact LeO.refl _ | exact LeO.none _ | refine LeO.ite ?_ ?_ | refine LeO.bind ?_ (fun _ => ?_)) | exact spec_l01New.mono _ _ | exact spec_l2Both.mono _ _ _ _ | exact LeO.none _ | refine LeO.ite ?_ ?_ | refine LeO.bind ?_ (fun _ => ?_)
set_option maxHeartbeats 8000000 in
set_option maxRecDepth 100000 in
theorem spec_DrawSweepMagazine.calls (k : Nat) (A0 : Option Addr) (c0 : Nat) (l0 : List Int) (r1 : ByteArray) (r2 : List Int) (r3 : List Int) (r4 : List (List (S30))) (w : World) (hr0 : Kd.C (Kd.int .u8) w A0 l0.length l0) (hc0 : l0.length ≤ c0) (h : spec_DrawSweepMagazine.f k l0 = some (r1, r2, r3, r4)) :
    Calls Try.prog 69 #[.slice A0 l0.length c0] w fun e w' => ∃ v1_ v2_ v3_ : Value, e = .returned (.tuple #[.agg #[.string r1, v1_, v2_], v3_]) ∧ Kd.R (Kd.int .i64) 3 w' w.heap.size (fun k_ => some k_ ≠ (v2_ : Value).ownBlock) v1_ r2 ∧ Kd.R (Kd.int .i64) 3 w' w.heap.size (fun k_ => some k_ ≠ (v1_ : Value).ownBlock) v2_ r3 ∧ Kd.S (Kd.slice 30 k30) 34 w' w.heap.size (fun _ => True) v3_ r4 ∧ Below w.heap.size w w' := by
 have hu25 := Try.underlying25
 have HR0 := M_ hr0
 have HC0 := M_ hc0
 clear hr0 hc0
 have HB := M_ (Below.refl w.heap.size w)
 have H : ((spec_l01New.f k l0).bind fun bt413 => ((spec_l2Both.f k bt413.1 bt413.2.1 bt413.2.2).bind fun bt417 => (some (bt417.1, bt417.2.1, bt417.2.2.1, bt417.2.2.2.1)))) = some (r1, r2, r3, r4) := h
 clear h
 replace H := bs_ H
 obtain ⟨⟨t413, t414, t415⟩, A20, H⟩ := H
 dsimp only at H
 have A2 := M_ A20
 clear A20
 replace H := bs_ H
 obtain ⟨⟨t417, t418, t421, t424, t427, t428⟩, A30, H⟩ := H
 dsimp only at H
 have A3 := M_ A30
 clear A30
 simp only [Option.some.injEq, Prod.mk.injEq] at H
 obtain ⟨rfl, rfl, rfl, rfl⟩ := H
 go_enter Try.func69, Try.ntmps69
 go_wp2_with (first | ((with_reducible refine gate_dst (N := 2) rfl ?_); refine be_ 2 #[.string (⟨#[]⟩ : ByteArray), .slice none 0 0, .slice none 0 0] 25 ?_; intro gb412 hg w4 hbox hb; have z_ := t3_ (bS_ (bw0_ HB.out) hb) hbox (gv_ hg (bw0_ HB.out) : w.heap.size ≤ gb412); clear HB; obtain ⟨HB, BK412, GE412⟩ := z_; clear hb hbox hg) | ((with_reducible refine gate_callee (f := 71) rfl ?_); refine gl_ (some 5) Try.func71 #[.slice A0 l0.length c0] ?_; (with_reducible refine (spec_l01New.calls k _ _ l0 t413 t414 t415 w _ ?side1 ?side2 ?side3 A2.out).mono ?_); (case side1 => exact bw1_ HB.out GE412.out); (case side2 => exact HR0.out); (case side3 => exact HC0.out); rintro e w5 ⟨g416, rfl, hi, hb, hb2⟩; refine ⟨_, rfl, ?_⟩; have z_ := t5_ (bB_ (bk_ BK412.out) hb2) hb hi (IsS99.ne_blk hi (bB_ (bk_ BK412.out) hb2) (by decide)) (Ne.symm (IsS99.ne_blk hi (bB_ (bk_ BK412.out) hb2) (by decide))); clear HB BK412; obtain ⟨BK412, HB, HI416, NB416_412, NB412_416⟩ := z_; (try clear hi hb2 hb)) | ((with_reducible refine gate_callee (f := 72) rfl ?_); refine gl_ (some 6) Try.func72 #[.pointer (some ⟨g416, 0, none⟩)] ?_; (with_reducible refine (spec_l2Both.calls k g416 t413 t414 t415 t417 t418 t421 t424 t427 t428 w _ ?side1 ?side2 A3.out).mono ?_); (case side1 => exact iz1_ HI416.out NB416_412.out); (case side2 => exact bw2_ HB.out (IsS99.ge HI416.out) GE412.out); rintro e w6 ⟨v419, v422, v425, rfl, ho0, ho1, ho2, hi, hb, hk⟩; refine ⟨_, rfl, ?_⟩; have z_ := t6_ (KeepBut.blk hk (bk_ BK412.out) NB412_416.out (by simp)) (Kd.R_lower ho0 (below_size (bw2_ HB.out (IsS99.ge HI416.out) GE412.out))) (Kd.R_lower ho1 (below_size (bw2_ HB.out (IsS99.ge HI416.out) GE412.out))) (Kd.S_lower ho2 (below_size (bw2_ HB.out (IsS99.ge HI416.out) GE412.out))) hb hi; clear HI416 HB BK412; obtain ⟨BK412, HO420, HO423, HO426, HB, HI416⟩ := z_; (try clear ho2 ho1 ho0 hi hk hb); have hnb7 := NB412_416.out; have hnc7 := NB416_412.out; have hcz8_0 := cz_ BK412.out 0 (.string (⟨#[]⟩ : ByteArray)); have hcz8_1 := cz_ BK412.out 1 (.slice none 0 0); have hcz8_2 := cz_ BK412.out 2 (.slice none 0 0); have hfz8_0 := fz_ BK412.out 0; have hfz8_1 := fz_ BK412.out 1; have hfz8_2 := fz_ BK412.out 2; obtain ⟨Ao9, co9, eo9⟩ := Kd.R_slice HO420.out; subst eo9; obtain ⟨Ao10, co10, eo10⟩ := Kd.R_slice HO423.out; subst eo10))
 refine bodyPost_ret (results_ct rfl _ _ gb412 25 #[.string t417, .slice Ao9 t418.length co9, .slice Ao10 t421.length co10] (0, 0) _ rfl (by refine bk_ ?_; refine blk_put (cs := #[.string t417, .slice Ao9 t418.length co9, .slice none 0 0]) ?_ 2 _ rfl; refine bk_ ?_; refine blk_put (cs := #[.string t417, .slice none 0 0, .slice none 0 0]) ?_ 1 _ rfl; refine bk_ ?_; refine blk_put (cs := #[.string (⟨#[]⟩ : ByteArray), .slice none 0 0, .slice none 0 0]) ?_ 0 _ rfl; refine bk_ ?_; exact BK412.out) Try.underlying25 rfl (by kernel_rfl)) rfl ?_
 exact ⟨_, _, _, rb_, by refine kR_ ?_; exact Kd.R_mono (Kd.R_far (p := ⟨gb412, 2, none⟩) (Kd.R_far (p := ⟨gb412, 1, none⟩) (Kd.R_far (p := ⟨gb412, 0, none⟩) (Kd.R_types HO420.out BK412.out (by decide)) (fun _ hk => hk.2) (.string t417)) (fun _ hk => hk.2) (.slice Ao9 t418.length co9)) (fun _ hk => hk.2) (.slice Ao10 t421.length co10)) (fun _ hk => hk.1), by refine kR_ ?_; exact Kd.R_mono (Kd.R_far (p := ⟨gb412, 2, none⟩) (Kd.R_far (p := ⟨gb412, 1, none⟩) (Kd.R_far (p := ⟨gb412, 0, none⟩) (Kd.R_types HO423.out BK412.out (by decide)) (fun _ hk => hk.2) (.string t417)) (fun _ hk => hk.2) (.slice Ao9 t418.length co9)) (fun _ hk => hk.2) (.slice Ao10 t421.length co10)) (fun _ hk => hk.1), by refine kS_ ?_; exact Kd.S_mono (Kd.S_far (p := ⟨gb412, 2, none⟩) (Kd.S_far (p := ⟨gb412, 1, none⟩) (Kd.S_far (p := ⟨gb412, 0, none⟩) (Kd.S_types HO426.out BK412.out (by decide)) (fun _ hk => hk.2) (.string t417)) (fun _ hk => hk.2) (.slice Ao9 t418.length co9)) (fun _ hk => hk.2) (.slice Ao10 t421.length co10)) (fun _ hk => trivial), bw2_ HB.out (IsS99.ge HI416.out) GE412.out⟩

def laws_pieces.l0 : Nat → List (S30) → List (S30) → Int → Int → Option (Bool)
  | 0, _, _, _, _ => none
  | k + 1, x0, x1, x12, x13 => if x13 < x12 then (if 0 ≤ x13 then (if x13 < (x0.length : Int) then (if x13 < (x1.length : Int) then (if (!(((rd_T30 x0 x13).f0) == ((rd_T30 x1 x13).f0)) || (!(((rd_T30 x0 x13).f1) == ((rd_T30 x1 x13).f1)))) = true then (some false) else (laws_pieces.l0 k x0 x1 x12 (wrap64 (x13 + 1)))) else (none)) else (none)) else (none)) else (some true)
def laws_pieces.f (k : Nat) (l0 : List (S30)) (l1 : List (S30)) : Option (Bool) := if (l0.length : Int) = (l1.length : Int) then (laws_pieces.l0 k l0 l1 (l0.length : Int) 0) else (some false)
theorem laws_pieces.mono_l : ∀ k, (∀ y0 y1 y2 y3, LeO (laws_pieces.l0 k y0 y1 y2 y3) (laws_pieces.l0 (k + 1) y0 y1 y2 y3))
  | 0 => fun _ _ _ _ r h => by simp [laws_pieces.l0] at h
  | k + 1 => by
    have ih0 := laws_pieces.mono_l k
    · intro y0 y1 y2 y3
      unfold laws_pieces.l0
      repeat' first | (with_reducible first | exact ih0 _ _ _ _ | exact LeO.refl _ | exact LeO.none _ | refine LeO.ite ?_ ?_ | refine LeO.bind ?_ (fun _ => ?_)) | exact ih0 _ _ _ _ | exact LeO.none _ | refine LeO.ite ?_ ?_ | refine LeO.bind ?_ (fun _ => ?_)
theorem laws_pieces.mono : ∀ a0 a1 k, LeO (laws_pieces.f k a0 a1) (laws_pieces.f (k + 1) a0 a1) := by
 intro a0 a1 k
 have ih0 := laws_pieces.mono_l k
 unfold laws_pieces.f
 repeat' first | (with_reducible first | exact ih0 _ _ _ _ | exact LeO.refl _ | exact LeO.none _ | refine LeO.ite ?_ ?_ | refine LeO.bind ?_ (fun _ => ?_)) | exact ih0 _ _ _ _ | exact LeO.none _ | refine LeO.ite ?_ ?_ | refine LeO.bind ?_ (fun _ => ?_)
set_option maxHeartbeats 8000000 in
set_option maxRecDepth 100000 in
theorem laws_pieces.calls (k : Nat) (A0 : Option Addr) (c0 : Nat) (l0 : List (S30)) (A1 : Option Addr) (c1 : Nat) (l1 : List (S30)) (r : Bool) (w : World) (hr0 : Kd.C k30 w A0 l0.length l0) (hc0 : l0.length ≤ c0) (hr1 : Kd.C k30 w A1 l1.length l1) (hc1 : l1.length ≤ c1) (h : laws_pieces.f k l0 l1 = some r) :
    Calls Try.prog 98 #[.slice A0 l0.length c0, .slice A1 l1.length c1] w fun e w' => e = .returned (.bool r) ∧ Drawn0 w w' := by
 have hu30 := Try.underlying30
 have HR0 := M_ hr0
 have HC0 := M_ hc0
 clear hr0 hc0
 have HR1 := M_ hr1
 have HC1 := M_ hc1
 clear hr1 hc1
 have H : (if (l0.length : Int) = (l1.length : Int) then (laws_pieces.l0 k l0 l1 (l0.length : Int) 0) else (some false)) = some r := h
 clear h
 by_cases c3 : (l0.length : Int) = (l1.length : Int)
 ·rw [if_pos c3] at H
  have c3b0 := beq_iff_eq.mpr c3
  have c3b1 := bne_eq_false_iff_eq.mpr c3
  have c3b2 : (l0.length == l1.length) = true := by first | simpa using c3 | (simp at c3 ⊢; omega)
  clear c3
  have H' := M_ H
  clear H
  go_enter Try.func98, Try.ntmps98
  go_wp2
  repeat (go_quiet (fail); try go_wp2)
  go_loopg [13] k (fun kq v13 w' => ∃ (x13_1 : Int), v13 = .int .i64 x13_1 ∧ Aside0 (laws_pieces.l0 kq l0 l1 (l0.length : Int) x13_1 = some r) ∧ Aside0 (kq ≤ k) ∧ Drawn0 w w')
  case atStart => exact ⟨(0), (by first | rfl | (simp; done) | (simp [*]; done)), H', ⟨Nat.le_refl _⟩, dr_⟩
  case round =>
   clear H'
   (try clear c3b2 c3b1 c3b0 c3 p2 c1)
   obtain ⟨x13_1, rfl, HA, HK1, ⟨m1, rfl⟩⟩ := hrel
   cases gk with
   | zero => exact absurd HA.out (by simp [laws_pieces.l0])
   | succ k1 =>
    have H := HA.out
    clear HA
    simp only [laws_pieces.l0] at H
    by_cases c4 : x13_1 < (l0.length : Int)
    ·rw [if_pos c4] at H
     have c4b0 := dt_ c4
     clear c4
     by_cases c5 : 0 ≤ x13_1
     ·rw [if_pos c5] at H
      have c5b0 := dt_ c5
      clear c5
      by_cases c6 : x13_1 < (l0.length : Int)
      ·rw [if_pos c6] at H
       have c6b0 := dt_ c6
       clear c6
       by_cases c7 : x13_1 < (l1.length : Int)
       ·rw [if_pos c7] at H
        have c7b0 := dt_ c7
        clear c7
        by_cases c8 : (!(((rd_T30 l0 x13_1).f0) == ((rd_T30 l1 x13_1).f0)) || (!(((rd_T30 l0 x13_1).f1) == ((rd_T30 l1 x13_1).f1)))) = true
        ·rw [if_pos c8] at H
         have c8b0 : (!(((rd_T30 l0 x13_1).f0) == ((rd_T30 l1 x13_1).f0)) || (!(((rd_T30 l0 x13_1).f1) == ((rd_T30 l1 x13_1).f1)))) = true := c8
         clear c8
         obtain rfl := Option.some.inj H
         have p429 : 0 ≤ (x13_1 : Int) := od_ as_
         have q429 : x13_1 < (l0.length : Int) := od_ as_
         obtain ⟨ad429, e429, hx429_0, hx429_1⟩ := at_T30 HR0.out x13_1 p429 q429
         cases e429
         replace p429 := eq_true p429
         replace q429 := eq_true q429
         have p430 : 0 ≤ (x13_1 : Int) := od_ as_
         have q430 : x13_1 < (l1.length : Int) := od_ as_
         obtain ⟨ad430, e430, hx430_0, hx430_1⟩ := at_T30 HR1.out x13_1 p430 q430
         cases e430
         replace p430 := eq_true p430
         replace q430 := eq_true q430
         go_wp2
         repeat (go_quiet (fail); try go_wp2)
         go_ret
         exact ⟨ra_, dr_⟩
        ·rw [if_neg c8] at H
         have c8b0 : (!(((rd_T30 l0 x13_1).f0) == ((rd_T30 l1 x13_1).f0)) || (!(((rd_T30 l0 x13_1).f1) == ((rd_T30 l1 x13_1).f1)))) = false := by simpa using c8
         clear c8
         have H' := M_ H
         clear H
         have p429 : 0 ≤ (x13_1 : Int) := od_ as_
         have q429 : x13_1 < (l0.length : Int) := od_ as_
         obtain ⟨ad429, e429, hx429_0, hx429_1⟩ := at_T30 HR0.out x13_1 p429 q429
         cases e429
         replace p429 := eq_true p429
         replace q429 := eq_true q429
         have p430 : 0 ≤ (x13_1 : Int) := od_ as_
         have q430 : x13_1 < (l1.length : Int) := od_ as_
         obtain ⟨ad430, e430, hx430_0, hx430_1⟩ := at_T30 HR1.out x13_1 p430 q430
         cases e430
         replace p430 := eq_true p430
         replace q430 := eq_true q430
         go_wp2
         repeat (go_quiet (fail); try go_wp2)
         go_roundg k1
         case measure => have := HK1.out; omega
         case rel => exact ⟨(wrap64 (x13_1 + 1)), (by first | rfl | (simp; done) | (simp [*]; done)), H', ⟨by have := HK1.out; omega⟩, dr_⟩
       ·rw [if_neg c7] at H
        exact absurd H (by simp)
      ·rw [if_neg c6] at H
       exact absurd H (by simp)
     ·rw [if_neg c5] at H
      exact absurd H (by simp)
    ·rw [if_neg c4] at H
     have c4b0 := decide_eq_false c4
     clear c4
     obtain rfl := Option.some.inj H
     go_wp2
     repeat (go_quiet (fail); try go_wp2)
     go_ret
     exact ⟨ra_, dr_⟩
 ·rw [if_neg c3] at H
  have c3b0 : ((l0.length : Int) == (l1.length : Int)) = false := beq_eq_false_iff_ne.mpr c3
  have c3b1 : ((l0.length : Int) != (l1.length : Int)) = true := bne_iff_ne.mpr c3
  have c3b2 : (l0.length == l1.length) = false := by first | simpa using c3 | (simp at c3 ⊢; omega)
  obtain rfl := Option.some.inj H
  go_enter Try.func98, Try.ntmps98
  go_wp2
  repeat (go_quiet (fail); try go_wp2)
  go_ret
  exact ⟨ra_, dr_⟩

def laws_stocks.l0 : Nat → List (List (S30)) → List (List (S30)) → Int → Int → Option (Bool)
  | 0, _, _, _, _ => none
  | k + 1, x0, x1, x12, x13 => if x13 < x12 then (if 0 ≤ x13 then (if x13 < (x0.length : Int) then (if x13 < (x1.length : Int) then ((laws_pieces.f k (rd_L2 x0 x13) (rd_L2 x1 x13)).bind fun t433 => (if t433 = true then (laws_stocks.l0 k x0 x1 x12 (wrap64 (x13 + 1))) else (some false))) else (none)) else (none)) else (none)) else (some true)
def laws_stocks.f (k : Nat) (l0 : List (List (S30))) (l1 : List (List (S30))) : Option (Bool) := if (l0.length : Int) = (l1.length : Int) then (laws_stocks.l0 k l0 l1 (l0.length : Int) 0) else (some false)
theorem laws_stocks.mono_l : ∀ k, (∀ y0 y1 y2 y3, LeO (laws_stocks.l0 k y0 y1 y2 y3) (laws_stocks.l0 (k + 1) y0 y1 y2 y3))
  | 0 => fun _ _ _ _ r h => by simp [laws_stocks.l0] at h
  | k + 1 => by
    have ih0 := laws_stocks.mono_l k
    · intro y0 y1 y2 y3
      unfold laws_stocks.l0
      repeat' first | (with_reducible first | exact ih0 _ _ _ _ | exact laws_pieces.mono _ _ _ | exact LeO.refl _ | exact LeO.none _ | refine LeO.ite ?_ ?_ | refine LeO.bind ?_ (fun _ => ?_)) | exact ih0 _ _ _ _ | exact laws_pieces.mono _ _ _ | exact LeO.none _ | refine LeO.ite ?_ ?_ | refine LeO.bind ?_ (fun _ => ?_)
theorem laws_stocks.mono : ∀ a0 a1 k, LeO (laws_stocks.f k a0 a1) (laws_stocks.f (k + 1) a0 a1) := by
 intro a0 a1 k
 have ih0 := laws_stocks.mono_l k
 unfold laws_stocks.f
 repeat' first | (with_reducible first | exact ih0 _ _ _ _ | exact laws_pieces.mono _ _ _ | exact LeO.refl _ | exact LeO.none _ | refine LeO.ite ?_ ?_ | refine LeO.bind ?_ (fun _ => ?_)) | exact ih0 _ _ _ _ | exact laws_pieces.mono _ _ _ | exact LeO.none _ | refine LeO.ite ?_ ?_ | refine LeO.bind ?_ (fun _ => ?_)
set_option maxHeartbeats 8000000 in
set_option maxRecDepth 100000 in
theorem laws_stocks.calls (k : Nat) (A0 : Option Addr) (c0 : Nat) (l0 : List (List (S30))) (A1 : Option Addr) (c1 : Nat) (l1 : List (List (S30))) (r : Bool) (w : World) (hr0 : Kd.C (Kd.slice 30 k30) w A0 l0.length l0) (hc0 : l0.length ≤ c0) (hr1 : Kd.C (Kd.slice 30 k30) w A1 l1.length l1) (hc1 : l1.length ≤ c1) (h : laws_stocks.f k l0 l1 = some r) :
    Calls Try.prog 70 #[.slice A0 l0.length c0, .slice A1 l1.length c1] w fun e w' => e = .returned (.bool r) ∧ Drawn0 w w' := by
 have HR0 := M_ hr0
 have HC0 := M_ hc0
 clear hr0 hc0
 have HR1 := M_ hr1
 have HC1 := M_ hc1
 clear hr1 hc1
 have H : (if (l0.length : Int) = (l1.length : Int) then (laws_stocks.l0 k l0 l1 (l0.length : Int) 0) else (some false)) = some r := h
 clear h
 by_cases c3 : (l0.length : Int) = (l1.length : Int)
 ·rw [if_pos c3] at H
  have c3b0 := beq_iff_eq.mpr c3
  have c3b1 := bne_eq_false_iff_eq.mpr c3
  have c3b2 : (l0.length == l1.length) = true := by first | simpa using c3 | (simp at c3 ⊢; omega)
  clear c3
  have H' := M_ H
  clear H
  go_enter Try.func70, Try.ntmps70
  go_wp2
  repeat (go_quiet (fail); try go_wp2)
  go_loopg [13] k (fun kq v13 w' => ∃ (x13_1 : Int), v13 = .int .i64 x13_1 ∧ Aside0 (laws_stocks.l0 kq l0 l1 (l0.length : Int) x13_1 = some r) ∧ Aside0 (kq ≤ k) ∧ Drawn0 w w')
  case atStart => exact ⟨(0), (by first | rfl | (simp; done) | (simp [*]; done)), H', ⟨Nat.le_refl _⟩, dr_⟩
  case round =>
   clear H'
   (try clear c3b2 c3b1 c3b0 c3 p2 c1)
   obtain ⟨x13_1, rfl, HA, HK1, ⟨m1, rfl⟩⟩ := hrel
   cases gk with
   | zero => exact absurd HA.out (by simp [laws_stocks.l0])
   | succ k1 =>
    have H := HA.out
    clear HA
    simp only [laws_stocks.l0] at H
    by_cases c4 : x13_1 < (l0.length : Int)
    ·rw [if_pos c4] at H
     have c4b0 := dt_ c4
     clear c4
     by_cases c5 : 0 ≤ x13_1
     ·rw [if_pos c5] at H
      have c5b0 := dt_ c5
      clear c5
      by_cases c6 : x13_1 < (l0.length : Int)
      ·rw [if_pos c6] at H
       have c6b0 := dt_ c6
       clear c6
       by_cases c7 : x13_1 < (l1.length : Int)
       ·rw [if_pos c7] at H
        have c7b0 := dt_ c7
        clear c7
        replace H := bs_ H
        obtain ⟨t433, A80, H⟩ := H
        (try dsimp only at H)
        have A8 := M_ A80
        clear A80
        by_cases c9 : t433 = true
        ·subst c9
         rw [if_pos rfl] at H
         have H' := M_ H
         clear H
         have p431 : 0 ≤ (x13_1 : Int) := od_ as_
         have q431 : x13_1 < (l0.length : Int) := od_ as_
         obtain ⟨ad431, A431_0, c431_0, e431, hx431_0, hl431_0, hi431_0⟩ := at_L2 HR0.out x13_1 p431 q431
         cases e431
         have HR431_0 := M_ hi431_0
         have HC431_0 := M_ hl431_0
         clear hi431_0 hl431_0
         replace p431 := eq_true p431
         replace q431 := eq_true q431
         have p432 : 0 ≤ (x13_1 : Int) := od_ as_
         have q432 : x13_1 < (l1.length : Int) := od_ as_
         obtain ⟨ad432, A432_0, c432_0, e432, hx432_0, hl432_0, hi432_0⟩ := at_L2 HR1.out x13_1 p432 q432
         cases e432
         have HR432_0 := M_ hi432_0
         have HC432_0 := M_ hl432_0
         clear hi432_0 hl432_0
         replace p432 := eq_true p432
         replace q432 := eq_true q432
         go_wp2_with (first | (go_at_call 98; (try simp only [i64_w, i32_w]); (with_reducible refine (laws_pieces.calls k1 _ _ (rd_L2 l0 x13_1) _ _ (rd_L2 l1 x13_1) true _ ?side1 ?side2 ?side3 ?side4 A8.out).mono ?_); (case side1 => exact kD_ HR431_0.out); (case side2 => exact HC431_0.out); (case side3 => exact kD_ HR432_0.out); (case side4 => exact HC432_0.out); rintro e w' ⟨rfl, ⟨nd, rfl⟩⟩; (try exact dw_)))
         repeat (go_quiet (first | (go_at_call 98; (try simp only [i64_w, i32_w]); (with_reducible refine (laws_pieces.calls k1 _ _ (rd_L2 l0 x13_1) _ _ (rd_L2 l1 x13_1) true _ ?side1 ?side2 ?side3 ?side4 A8.out).mono ?_); (case side1 => exact kD_ HR431_0.out); (case side2 => exact HC431_0.out); (case side3 => exact kD_ HR432_0.out); (case side4 => exact HC432_0.out); rintro e w' ⟨rfl, ⟨nd, rfl⟩⟩; (try exact dw_))); try go_wp2_with (first | (go_at_call 98; (try simp only [i64_w, i32_w]); (with_reducible refine (laws_pieces.calls k1 _ _ (rd_L2 l0 x13_1) _ _ (rd_L2 l1 x13_1) true _ ?side1 ?side2 ?side3 ?side4 A8.out).mono ?_); (case side1 => exact kD_ HR431_0.out); (case side2 => exact HC431_0.out); (case side3 => exact kD_ HR432_0.out); (case side4 => exact HC432_0.out); rintro e w' ⟨rfl, ⟨nd, rfl⟩⟩; (try exact dw_))))
         go_roundg k1
         case measure => have := HK1.out; omega
         case rel => exact ⟨(wrap64 (x13_1 + 1)), (by first | rfl | (simp; done) | (simp [*]; done)), H', ⟨by have := HK1.out; omega⟩, dr_⟩
        ·replace c9 := Bool.eq_false_iff.mpr c9
         subst c9
         rw [if_neg (show ¬ (false = true) by decide)] at H
         obtain rfl := Option.some.inj H
         have p431 : 0 ≤ (x13_1 : Int) := od_ as_
         have q431 : x13_1 < (l0.length : Int) := od_ as_
         obtain ⟨ad431, A431_0, c431_0, e431, hx431_0, hl431_0, hi431_0⟩ := at_L2 HR0.out x13_1 p431 q431
         cases e431
         have HR431_0 := M_ hi431_0
         have HC431_0 := M_ hl431_0
         clear hi431_0 hl431_0
         replace p431 := eq_true p431
         replace q431 := eq_true q431
         have p432 : 0 ≤ (x13_1 : Int) := od_ as_
         have q432 : x13_1 < (l1.length : Int) := od_ as_
         obtain ⟨ad432, A432_0, c432_0, e432, hx432_0, hl432_0, hi432_0⟩ := at_L2 HR1.out x13_1 p432 q432
         cases e432
         have HR432_0 := M_ hi432_0
         have HC432_0 := M_ hl432_0
         clear hi432_0 hl432_0
         replace p432 := eq_true p432
         replace q432 := eq_true q432
         go_wp2_with (first | (go_at_call 98; (try simp only [i64_w, i32_w]); (with_reducible refine (laws_pieces.calls k1 _ _ (rd_L2 l0 x13_1) _ _ (rd_L2 l1 x13_1) false _ ?side1 ?side2 ?side3 ?side4 A8.out).mono ?_); (case side1 => exact kD_ HR431_0.out); (case side2 => exact HC431_0.out); (case side3 => exact kD_ HR432_0.out); (case side4 => exact HC432_0.out); rintro e w' ⟨rfl, ⟨nd, rfl⟩⟩; (try exact dw_)))
         repeat (go_quiet (first | (go_at_call 98; (try simp only [i64_w, i32_w]); (with_reducible refine (laws_pieces.calls k1 _ _ (rd_L2 l0 x13_1) _ _ (rd_L2 l1 x13_1) false _ ?side1 ?side2 ?side3 ?side4 A8.out).mono ?_); (case side1 => exact kD_ HR431_0.out); (case side2 => exact HC431_0.out); (case side3 => exact kD_ HR432_0.out); (case side4 => exact HC432_0.out); rintro e w' ⟨rfl, ⟨nd, rfl⟩⟩; (try exact dw_))); try go_wp2_with (first | (go_at_call 98; (try simp only [i64_w, i32_w]); (with_reducible refine (laws_pieces.calls k1 _ _ (rd_L2 l0 x13_1) _ _ (rd_L2 l1 x13_1) false _ ?side1 ?side2 ?side3 ?side4 A8.out).mono ?_); (case side1 => exact kD_ HR431_0.out); (case side2 => exact HC431_0.out); (case side3 => exact kD_ HR432_0.out); (case side4 => exact HC432_0.out); rintro e w' ⟨rfl, ⟨nd, rfl⟩⟩; (try exact dw_))))
         go_ret
         exact ⟨ra_, dr_⟩
       ·rw [if_neg c7] at H
        exact absurd H (by simp)
      ·rw [if_neg c6] at H
       exact absurd H (by simp)
     ·rw [if_neg c5] at H
      exact absurd H (by simp)
    ·rw [if_neg c4] at H
     have c4b0 := decide_eq_false c4
     clear c4
     obtain rfl := Option.some.inj H
     go_wp2
     repeat (go_quiet (fail); try go_wp2)
     go_ret
     exact ⟨ra_, dr_⟩
 ·rw [if_neg c3] at H
  have c3b0 : ((l0.length : Int) == (l1.length : Int)) = false := beq_eq_false_iff_ne.mpr c3
  have c3b1 : ((l0.length : Int) != (l1.length : Int)) = true := bne_iff_ne.mpr c3
  have c3b2 : (l0.length == l1.length) = false := by first | simpa using c3 | (simp at c3 ⊢; omega)
  obtain rfl := Option.some.inj H
  go_enter Try.func70, Try.ntmps70
  go_wp2
  repeat (go_quiet (fail); try go_wp2)
  go_ret
  exact ⟨ra_, dr_⟩

end Go.Proofs.Ytilbngklgjjblaa.Q
