/- Contracts of Go functions over this translation. Conditions: those that each theorem names. -/
import Derived.Test.YtilbngklgjjblaaQ0
import Derived.Test.YtilbngklgjjblaaQ1
namespace Go.Proofs.Ytilbngklgjjblaa.Q
open Go.RowKit Go.Proofs.YtilbngklgjjblaaW.PrintWords Go.Proofs.YtilbngklgjjblaaW.PrintLast Go.Proofs.YtilbngklgjjblaaW.PrintMore
attribute [local go_sem] max2_int min2_int max_two min_two max_three min_three max_four min_four
set_option linter.unusedVariables false
set_option linter.unusedSimpArgs false

mutual
def spec_l1Sets.l0 : Nat → List Int → List Int → Int → Int → Option (Bool)
  | 0, _, _, _, _ => none
  | k + 1, x0, x7, x8, x9 => if x9 < x8 then (if 0 ≤ x9 then (if x9 < (x7.length : Int) then (if x9 ≤ (x0.length : Int) then (spec_l1Sets.l1 k x0 (rd x7 x9) x7 x8 x9 (x0.take (x9 : Int).toNat) (max x9 0) 0) else (none)) else (none)) else (none)) else ((spec_IsBar.f k x0).bind fun t176 => (some t176))
def spec_l1Sets.l1 : Nat → List Int → Int → List Int → Int → Int → List Int → Int → Int → Option (Bool)
  | 0, _, _, _, _, _, _, _, _ => none
  | k + 1, x0, x4, x7, x8, x9, x16, x17, x18 => if x18 < x17 then (if 0 ≤ x18 then (if x18 < (x16.length : Int) then (if x4 = (rd x16 x18) then (some false) else (spec_l1Sets.l1 k x0 x4 x7 x8 x9 x16 x17 (wrap64 (x18 + 1)))) else (none)) else (none)) else (spec_l1Sets.l0 k x0 x7 x8 (wrap64 (x9 + 1)))
end
def spec_l1Sets.f (k : Nat) (l0 : List Int) : Option (Bool) := spec_l1Sets.l0 k l0 l0 (l0.length : Int) 0
theorem spec_l1Sets.mono_l : ∀ k, (∀ y0 y1 y2 y3, LeO (spec_l1Sets.l0 k y0 y1 y2 y3) (spec_l1Sets.l0 (k + 1) y0 y1 y2 y3)) ∧ (∀ y0 y1 y2 y3 y4 y5 y6 y7, LeO (spec_l1Sets.l1 k y0 y1 y2 y3 y4 y5 y6 y7) (spec_l1Sets.l1 (k + 1) y0 y1 y2 y3 y4 y5 y6 y7))
  | 0 => ⟨fun _ _ _ _ r h => by simp [spec_l1Sets.l0] at h, fun _ _ _ _ _ _ _ _ r h => by simp [spec_l1Sets.l1] at h⟩
  | k + 1 => by
    obtain ⟨ih0, ih1⟩ := spec_l1Sets.mono_l k
    refine ⟨?_, ?_⟩ <;> intros <;> (first | unfold spec_l1Sets.l0 | unfold spec_l1Sets.l1) <;> repeat' first | (with_reducible first | exact ih0 _ _ _ _ | exact ih1 _ _ _ _ _ _ _ _ | exact spec_IsBar.mono _ _ | exact LeO.refl _ | exact LeO.none _ | refine LeO.ite ?_ ?_ | refine LeO.bind ?_ (fun _ => ?_)) | exact ih0 _ _ _ _ | exact ih1 _ _ _ _ _ _ _ _ | exact spec_IsBar.mono _ _ | exact LeO.none _ | refine LeO.ite ?_ ?_ | refine LeO.bind ?_ (fun _ => ?_)
theorem spec_l1Sets.mono : ∀ a0 k, LeO (spec_l1Sets.f k a0) (spec_l1Sets.f (k + 1) a0) := by
 intro a0 k
 obtain ⟨ih0, ih1⟩ := spec_l1Sets.mono_l k
 unfold spec_l1Sets.f
 repeat' first | (with_reducible first | exact ih0 _ _ _ _ | exact ih1 _ _ _ _ _ _ _ _ | exact spec_IsBar.mono _ _ | exact LeO.refl _ | exact LeO.none _ | refine LeO.ite ?_ ?_ | refine LeO.bind ?_ (fun _ => ?_)) | exact ih0 _ _ _ _ | exact ih1 _ _ _ _ _ _ _ _ | exact spec_IsBar.mono _ _ | exact LeO.none _ | refine LeO.ite ?_ ?_ | refine LeO.bind ?_ (fun _ => ?_)
set_option maxHeartbeats 8000000 in
set_option maxRecDepth 100000 in
theorem spec_l1Sets.calls (k : Nat) (A0 : Option Addr) (c0 : Nat) (l0 : List Int) (r : Bool) (w : World) (hr0 : Kd.C (Kd.int .i64) w A0 l0.length l0) (hc0 : l0.length ≤ c0) (h : spec_l1Sets.f k l0 = some r) :
    Calls Try.prog 119 #[.slice A0 l0.length c0] w fun e w' => e = .returned (.bool r) ∧ Drawn0 w w' := by
 have HR0 := M_ hr0
 have HC0 := M_ hc0
 clear hr0 hc0
 have H : (spec_l1Sets.l0 k l0 l0 (l0.length : Int) 0) = some r := h
 clear h
 have H' := M_ H
 clear H
 go_enter Try.func119, Try.ntmps119
 go_wp2
 go_loopg [9] k (fun kq v9 w' => ∃ (x9_1 : Int), v9 = .int .i64 x9_1 ∧ Aside0 (spec_l1Sets.l0 kq l0 l0 (l0.length : Int) x9_1 = some r) ∧ Aside0 (kq ≤ k) ∧ Drawn0 w w')
 case atStart => exact ⟨(0), (by first | rfl | (simp; done) | (simp [*]; done)), H', ⟨Nat.le_refl _⟩, dr_⟩
 case round =>
  clear H'
  try clear c1
  obtain ⟨x9_1, rfl, HA, HK1, ⟨m1, rfl⟩⟩ := hrel
  cases gk with
  | zero => exact absurd HA.out (by simp [spec_l1Sets.l0])
  | succ k1 =>
   have H := HA.out
   clear HA
   simp only [spec_l1Sets.l0] at H
   by_cases c2 : x9_1 < (l0.length : Int)
   ·rw [if_pos c2] at H
    have c2b0 := dt_ c2
    clear c2
    by_cases c3 : 0 ≤ x9_1
    ·rw [if_pos c3] at H
     have c3b0 := dt_ c3
     clear c3
     by_cases c4 : x9_1 < (l0.length : Int)
     ·rw [if_pos c4] at H
      have c4b0 := dt_ c4
      clear c4
      have c5b0 := eq_true (od_ as_ : 0 ≤ x9_1)
      by_cases c6 : x9_1 ≤ (l0.length : Int)
      ·rw [if_pos c6] at H
       have c6b0 := eq_true c6
       have c6b1 := dt_ c6
       clear c6
       have H' := M_ H
       clear H
       have p177 : 0 ≤ (x9_1 : Int) := od_ as_
       have q177 : x9_1 < (l0.length : Int) := od_ as_
       obtain ⟨ad177, e177, hx177_0⟩ := Kd.at_int HR0.out x9_1 p177 q177
       cases e177
       replace p177 := eq_true p177
       replace q177 := eq_true q177
       obtain ⟨i07, hi07, _, hsz7, _⟩ := info_parts info3
       obtain ⟨hcut7, hA7, hC7⟩ := print_take_of (P := Try.prog) (Value.int .i64) 0 23 3 .i64 Try.underlying23 hi07 hsz7 (some ad177) c0 l0 x9_1 (od_ as_) (od_ as_) HC0.out
       have HR178 := M_ (Kd.C_of_reads (h1 := fun _ => rfl) (hA7 _ (Kd.reads_of_C HR0.out)))
       have HC178 := M_ hC7
       clear hA7 hC7 hi07 hsz7
       go_wp2
       go_loopg [18] k1 (fun kq v18 w' => ∃ (x18_2 : Int), v18 = .int .i64 x18_2 ∧ Aside0 (spec_l1Sets.l1 kq l0 (rd l0 x9_1) l0 (l0.length : Int) x9_1 (l0.take (x9_1 : Int).toNat) (max x9_1 0) x18_2 = some r) ∧ Aside0 (kq ≤ k1) ∧ Drawn0 w w')
       case atStart => exact ⟨(0), (by first | rfl | (simp; done) | (simp [*]; done)), H', ⟨Nat.le_refl _⟩, dr_⟩
       case round =>
        clear H'
        (try clear q177 p177 hx177_0 c6b1 c6b0 c6 c5b0 c5 c4b0 c4 c3b0 c3 p2 c2b0 c2 hx1 q1 p1 c1)
        obtain ⟨x18_2, rfl, HA, HK2, ⟨m2, rfl⟩⟩ := hrel
        cases gk with
        | zero => exact absurd HA.out (by simp [spec_l1Sets.l1])
        | succ k2 =>
         have H := HA.out
         clear HA
         simp only [spec_l1Sets.l1] at H
         by_cases c8 : x18_2 < (max x9_1 0)
         ·rw [if_pos c8] at H
          have c8b0 := dt_ c8
          clear c8
          by_cases c9 : 0 ≤ x18_2
          ·rw [if_pos c9] at H
           have c9b0 := dt_ c9
           clear c9
           by_cases c10 : x18_2 < ((l0.take (x9_1 : Int).toNat).length : Int)
           ·rw [if_pos c10] at H
            have c10b0 := dt_ c10
            clear c10
            by_cases c11 : (rd l0 x9_1) = (rd (l0.take (x9_1 : Int).toNat) x18_2)
            ·rw [if_pos c11] at H
             have c11b0 := beq_iff_eq.mpr c11
             have c11b1 := bne_eq_false_iff_eq.mpr c11
             clear c11
             obtain rfl := Option.some.inj H
             have p179 : 0 ≤ (x18_2 : Int) := od_ as_
             have q179 : x18_2 < ((l0.take (x9_1 : Int).toNat).length : Int) := od_ as_
             have qm179 : (x18_2 < max x9_1 0) = True := eq_true (by have h_ := q179; rw [List.length_take] at h_; omega)
             obtain ⟨ad179, e179, hx179_0⟩ := Kd.at_int HR178.out x18_2 p179 q179
             obtain rfl : ad177 = ad179 := (by injection e179)
             replace p179 := eq_true p179
             replace q179 := eq_true q179
             go_wp2
             go_ret
             exact ⟨ra_, dr_⟩
            ·rw [if_neg c11] at H
             have c11b0 : ((rd l0 x9_1) == (rd (l0.take (x9_1 : Int).toNat) x18_2)) = false := beq_eq_false_iff_ne.mpr c11
             have c11b1 : ((rd l0 x9_1) != (rd (l0.take (x9_1 : Int).toNat) x18_2)) = true := bne_iff_ne.mpr c11
             have H' := M_ H
             clear H
             have p179 : 0 ≤ (x18_2 : Int) := od_ as_
             have q179 : x18_2 < ((l0.take (x9_1 : Int).toNat).length : Int) := od_ as_
             have qm179 : (x18_2 < max x9_1 0) = True := eq_true (by have h_ := q179; rw [List.length_take] at h_; omega)
             obtain ⟨ad179, e179, hx179_0⟩ := Kd.at_int HR178.out x18_2 p179 q179
             obtain rfl : ad177 = ad179 := (by injection e179)
             replace p179 := eq_true p179
             replace q179 := eq_true q179
             go_wp2
             go_roundg k2
             case measure => have := HK1.out; have := HK2.out; omega
             case rel => exact ⟨(wrap64 (x18_2 + 1)), (by first | rfl | (simp; done) | (simp [*]; done)), H', ⟨by have := HK1.out; have := HK2.out; omega⟩, dr_⟩
           ·rw [if_neg c10] at H
            exact absurd H (by simp)
          ·rw [if_neg c9] at H
           exact absurd H (by simp)
         ·rw [if_neg c8] at H
          have c8b0 := decide_eq_false c8
          clear c8
          have H' := M_ H
          clear H
          go_wp2
          go_roundg k2
          case measure => have := HK1.out; have := HK2.out; omega
          case rel => exact ⟨(wrap64 (x9_1 + 1)), (by first | rfl | (simp; done) | (simp [*]; done)), H', ⟨by have := HK1.out; have := HK2.out; omega⟩, dr_⟩
      ·rw [if_neg c6] at H
       exact absurd H (by simp)
     ·rw [if_neg c4] at H
      exact absurd H (by simp)
    ·rw [if_neg c3] at H
     exact absurd H (by simp)
   ·rw [if_neg c2] at H
    have c2b0 := decide_eq_false c2
    clear c2
    replace H := bs_ H
    obtain ⟨t176, A120, H⟩ := H
    (try dsimp only at H)
    have A12 := M_ A120
    clear A120
    obtain rfl := Option.some.inj H
    go_wp2_with (first | ((with_reducible refine gate_callee (f := 108) rfl ?_); refine gl_ (some 28) Try.func108 #[.slice A0 l0.length c0] ?_; (with_reducible refine (spec_IsBar.calls k1 _ _ l0 t176 _ ?side1 ?side2 A12.out).mono ?_); (case side1 => exact kD_ HR0.out); (case side2 => exact HC0.out); rintro e w' ⟨rfl, ⟨nd, rfl⟩⟩; refine ⟨_, rfl, ?_⟩))
    go_ret
    exact ⟨ra_, dr_⟩

def spec_l1Free.l0 : Nat → List Int → List Bool → Int → List Int → Int → Int → Option (Bool)
  | 0, _, _, _, _, _, _ => none
  | k + 1, x0, x1, x2, x9, x10, x11 => if x11 < x10 then (if 0 ≤ x11 then (if x11 < (x9.length : Int) then (if x11 = x2 then (spec_l1Free.l0 k x0 x1 x2 x9 x10 (wrap64 (x11 + 1))) else (if x11 < (x1.length : Int) then (if rdOf false x1 x11 = true then (if 0 ≤ x2 then (if x2 < (x0.length : Int) then ((spec_l1Part.f (rd x9 x11) (rd x0 x2)).bind fun t183 => (if t183 = true then (some false) else (spec_l1Free.l0 k x0 x1 x2 x9 x10 (wrap64 (x11 + 1))))) else (none)) else (none)) else (spec_l1Free.l0 k x0 x1 x2 x9 x10 (wrap64 (x11 + 1)))) else (none))) else (none)) else (none)) else (some true)
def spec_l1Free.f (k : Nat) (l0 : List Int) (l1 : List Bool) (a2 : Int) : Option (Bool) := spec_l1Free.l0 k l0 l1 a2 l0 (l0.length : Int) 0
theorem spec_l1Free.mono_l : ∀ k, (∀ y0 y1 y2 y3 y4 y5, LeO (spec_l1Free.l0 k y0 y1 y2 y3 y4 y5) (spec_l1Free.l0 (k + 1) y0 y1 y2 y3 y4 y5))
  | 0 => fun _ _ _ _ _ _ r h => by simp [spec_l1Free.l0] at h
  | k + 1 => by
    have ih0 := spec_l1Free.mono_l k
    · intro y0 y1 y2 y3 y4 y5
      unfold spec_l1Free.l0
      repeat' first | (with_reducible first | exact ih0 _ _ _ _ _ _ | exact LeO.refl _ | exact LeO.none _ | refine LeO.ite ?_ ?_ | refine LeO.bind ?_ (fun _ => ?_)) | exact ih0 _ _ _ _ _ _ | exact LeO.none _ | refine LeO.ite ?_ ?_ | refine LeO.bind ?_ (fun _ => ?_)
theorem spec_l1Free.mono : ∀ a0 a1 a2 k, LeO (spec_l1Free.f k a0 a1 a2) (spec_l1Free.f (k + 1) a0 a1 a2) := by
 intro a0 a1 a2 k
 have ih0 := spec_l1Free.mono_l k
 unfold spec_l1Free.f
 repeat' first | (with_reducible first | exact ih0 _ _ _ _ _ _ | exact LeO.refl _ | exact LeO.none _ | refine LeO.ite ?_ ?_ | refine LeO.bind ?_ (fun _ => ?_)) | exact ih0 _ _ _ _ _ _ | exact LeO.none _ | refine LeO.ite ?_ ?_ | refine LeO.bind ?_ (fun _ => ?_)
set_option maxHeartbeats 8000000 in
set_option maxRecDepth 100000 in
theorem spec_l1Free.calls (k : Nat) (A0 : Option Addr) (c0 : Nat) (l0 : List Int) (A1 : Option Addr) (c1 : Nat) (l1 : List Bool) (a2 : Int) (r : Bool) (w : World) (hr0 : Kd.C (Kd.int .i64) w A0 l0.length l0) (hc0 : l0.length ≤ c0) (hr1 : Kd.C Kd.bool w A1 l1.length l1) (hc1 : l1.length ≤ c1) (h : spec_l1Free.f k l0 l1 a2 = some r) :
    Calls Try.prog 121 #[.slice A0 l0.length c0, .slice A1 l1.length c1, .int .i64 a2] w fun e w' => e = .returned (.bool r) ∧ Drawn0 w w' := by
 have HR0 := M_ hr0
 have HC0 := M_ hc0
 clear hr0 hc0
 have HR1 := M_ hr1
 have HC1 := M_ hc1
 clear hr1 hc1
 have H : (spec_l1Free.l0 k l0 l1 a2 l0 (l0.length : Int) 0) = some r := h
 clear h
 have H' := M_ H
 clear H
 go_enter Try.func121, Try.ntmps121
 go_wp2
 go_loopg [11] k (fun kq v11 w' => ∃ (x11_1 : Int), v11 = .int .i64 x11_1 ∧ Aside0 (spec_l1Free.l0 kq l0 l1 a2 l0 (l0.length : Int) x11_1 = some r) ∧ Aside0 (kq ≤ k) ∧ Drawn0 w w')
 case atStart => exact ⟨(0), (by first | rfl | (simp; done) | (simp [*]; done)), H', ⟨Nat.le_refl _⟩, dr_⟩
 case round =>
  clear H'
  (try clear p2 c1)
  obtain ⟨x11_1, rfl, HA, HK1, ⟨m1, rfl⟩⟩ := hrel
  cases gk with
  | zero => exact absurd HA.out (by simp [spec_l1Free.l0])
  | succ k1 =>
   have H := HA.out
   clear HA
   simp only [spec_l1Free.l0] at H
   by_cases c4 : x11_1 < (l0.length : Int)
   ·rw [if_pos c4] at H
    have c4b0 := dt_ c4
    clear c4
    by_cases c5 : 0 ≤ x11_1
    ·rw [if_pos c5] at H
     have c5b0 := dt_ c5
     clear c5
     by_cases c6 : x11_1 < (l0.length : Int)
     ·rw [if_pos c6] at H
      have c6b0 := dt_ c6
      clear c6
      by_cases c7 : x11_1 = a2
      ·rw [if_pos c7] at H
       have c7b0 := beq_iff_eq.mpr c7
       have c7b1 := bne_eq_false_iff_eq.mpr c7
       clear c7
       have H' := M_ H
       clear H
       have p180 : 0 ≤ (x11_1 : Int) := od_ as_
       have q180 : x11_1 < (l0.length : Int) := od_ as_
       obtain ⟨ad180, e180, hx180_0⟩ := Kd.at_int HR0.out x11_1 p180 q180
       cases e180
       replace p180 := eq_true p180
       replace q180 := eq_true q180
       go_wp2
       go_roundg k1
       case measure => have := HK1.out; omega
       case rel => exact ⟨(wrap64 (x11_1 + 1)), (by first | rfl | (simp; done) | (simp [*]; done)), H', ⟨by have := HK1.out; omega⟩, dr_⟩
      ·rw [if_neg c7] at H
       have c7b0 : (x11_1 == a2) = false := beq_eq_false_iff_ne.mpr c7
       have c7b1 : (x11_1 != a2) = true := bne_iff_ne.mpr c7
       by_cases c8 : x11_1 < (l1.length : Int)
       ·rw [if_pos c8] at H
        have c8b0 := dt_ c8
        clear c8
        obtain ⟨bq9, hbq9⟩ : ∃ b_ : Bool, b_ = (rdOf false l1 x11_1) := ⟨_, rfl⟩
        replace H : (if bq9 = true then (if 0 ≤ a2 then (if a2 < (l0.length : Int) then ((spec_l1Part.f (rd l0 x11_1) (rd l0 a2)).bind fun t183 => (if t183 = true then (some false) else (spec_l1Free.l0 k1 l0 l1 a2 l0 (l0.length : Int) (wrap64 (x11_1 + 1))))) else (none)) else (none)) else (spec_l1Free.l0 k1 l0 l1 a2 l0 (l0.length : Int) (wrap64 (x11_1 + 1)))) = some r := by rw [← hbq9] at H; exact H
        have Nbq9 := M_ hbq9
        clear hbq9
        by_cases c10 : bq9 = true
        ·subst c10
         rw [if_pos rfl] at H
         by_cases c11 : 0 ≤ a2
         ·rw [if_pos c11] at H
          have c11b0 := dt_ c11
          clear c11
          by_cases c12 : a2 < (l0.length : Int)
          ·rw [if_pos c12] at H
           have c12b0 := dt_ c12
           clear c12
           replace H := bs_ H
           obtain ⟨t183, A130, H⟩ := H
           (try dsimp only at H)
           have A13 := M_ A130
           clear A130
           by_cases c14 : t183 = true
           ·subst c14
            rw [if_pos rfl] at H
            obtain rfl := Option.some.inj H
            have p180 : 0 ≤ (x11_1 : Int) := od_ as_
            have q180 : x11_1 < (l0.length : Int) := od_ as_
            obtain ⟨ad180, e180, hx180_0⟩ := Kd.at_int HR0.out x11_1 p180 q180
            cases e180
            replace p180 := eq_true p180
            replace q180 := eq_true q180
            have p181 : 0 ≤ (x11_1 : Int) := od_ as_
            have q181 : x11_1 < (l1.length : Int) := od_ as_
            obtain ⟨ad181, e181, hx181_0⟩ := Kd.at_bool HR1.out x11_1 p181 q181
            (try rw [← Nbq9.out] at hx181_0)
            cases e181
            replace p181 := eq_true p181
            replace q181 := eq_true q181
            have p182 : 0 ≤ (a2 : Int) := od_ as_
            have q182 : a2 < (l0.length : Int) := od_ as_
            obtain ⟨ad182, e182, hx182_0⟩ := Kd.at_int HR0.out a2 p182 q182
            obtain rfl : ad180 = ad182 := (by injection e182)
            replace p182 := eq_true p182
            replace q182 := eq_true q182
            go_wp2_with (first | (go_at_call 104; (with_reducible refine (spec_l1Part.calls (rd l0 x11_1) (rd l0 a2) true _ A13.out).mono ?_); rintro e w' ⟨rfl, ⟨nd, rfl⟩⟩))
            go_ret
            exact ⟨ra_, dr_⟩
           ·replace c14 := Bool.eq_false_iff.mpr c14
            subst c14
            rw [if_neg (show ¬ (false = true) by decide)] at H
            have H' := M_ H
            clear H
            have p180 : 0 ≤ (x11_1 : Int) := od_ as_
            have q180 : x11_1 < (l0.length : Int) := od_ as_
            obtain ⟨ad180, e180, hx180_0⟩ := Kd.at_int HR0.out x11_1 p180 q180
            cases e180
            replace p180 := eq_true p180
            replace q180 := eq_true q180
            have p181 : 0 ≤ (x11_1 : Int) := od_ as_
            have q181 : x11_1 < (l1.length : Int) := od_ as_
            obtain ⟨ad181, e181, hx181_0⟩ := Kd.at_bool HR1.out x11_1 p181 q181
            (try rw [← Nbq9.out] at hx181_0)
            cases e181
            replace p181 := eq_true p181
            replace q181 := eq_true q181
            have p182 : 0 ≤ (a2 : Int) := od_ as_
            have q182 : a2 < (l0.length : Int) := od_ as_
            obtain ⟨ad182, e182, hx182_0⟩ := Kd.at_int HR0.out a2 p182 q182
            obtain rfl : ad180 = ad182 := (by injection e182)
            replace p182 := eq_true p182
            replace q182 := eq_true q182
            go_wp2_with (first | (go_at_call 104; (with_reducible refine (spec_l1Part.calls (rd l0 x11_1) (rd l0 a2) false _ A13.out).mono ?_); rintro e w' ⟨rfl, ⟨nd, rfl⟩⟩))
            go_roundg k1
            case measure => have := HK1.out; omega
            case rel => exact ⟨(wrap64 (x11_1 + 1)), (by first | rfl | (simp; done) | (simp [*]; done)), H', ⟨by have := HK1.out; omega⟩, dr_⟩
          ·rw [if_neg c12] at H
           exact absurd H (by simp)
         ·rw [if_neg c11] at H
          exact absurd H (by simp)
        ·replace c10 := Bool.eq_false_iff.mpr c10
         subst c10
         rw [if_neg (show ¬ (false = true) by decide)] at H
         have H' := M_ H
         clear H
         have p180 : 0 ≤ (x11_1 : Int) := od_ as_
         have q180 : x11_1 < (l0.length : Int) := od_ as_
         obtain ⟨ad180, e180, hx180_0⟩ := Kd.at_int HR0.out x11_1 p180 q180
         cases e180
         replace p180 := eq_true p180
         replace q180 := eq_true q180
         have p181 : 0 ≤ (x11_1 : Int) := od_ as_
         have q181 : x11_1 < (l1.length : Int) := od_ as_
         obtain ⟨ad181, e181, hx181_0⟩ := Kd.at_bool HR1.out x11_1 p181 q181
         (try rw [← Nbq9.out] at hx181_0)
         cases e181
         replace p181 := eq_true p181
         replace q181 := eq_true q181
         go_wp2
         go_roundg k1
         case measure => have := HK1.out; omega
         case rel => exact ⟨(wrap64 (x11_1 + 1)), (by first | rfl | (simp; done) | (simp [*]; done)), H', ⟨by have := HK1.out; omega⟩, dr_⟩
       ·rw [if_neg c8] at H
        exact absurd H (by simp)
     ·rw [if_neg c6] at H
      exact absurd H (by simp)
    ·rw [if_neg c5] at H
     exact absurd H (by simp)
   ·rw [if_neg c4] at H
    have c4b0 := decide_eq_false c4
    clear c4
    obtain rfl := Option.some.inj H
    go_wp2
    go_ret
    exact ⟨ra_, dr_⟩

end Go.Proofs.Ytilbngklgjjblaa.Q
