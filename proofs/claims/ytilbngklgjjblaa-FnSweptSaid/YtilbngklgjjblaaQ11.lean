/- Contracts of Go functions over this translation. Conditions: those that each theorem names. -/
import Derived.Test.YtilbngklgjjblaaQ0
import Derived.Test.YtilbngklgjjblaaQ2
namespace Go.Proofs.Ytilbngklgjjblaa.Q
open Go.RowKit Go.Proofs.YtilbngklgjjblaaW.PrintWords Go.Proofs.YtilbngklgjjblaaW.PrintLast Go.Proofs.YtilbngklgjjblaaW.PrintMore
attribute [local go_sem] max2_int min2_int max_two min_two max_three min_three max_four min_four
set_option linter.unusedVariables false
set_option linter.unusedSimpArgs false

def spec_l1Free.l0 : Nat → List Int → List Bool → Int → List Int → Int → Int → Option (Bool)
  | 0, _, _, _, _, _, _ => none
  | k + 1, x0, x1, x2, x9, x10, x11 => if x11 < x10 then (if 0 ≤ x11 then (if x11 < (x9.length : Int) then (if x11 = x2 then (spec_l1Free.l0 k x0 x1 x2 x9 x10 (wrap64 (x11 + 1))) else (if x11 < (x1.length : Int) then (if rdOf false x1 x11 = true then (if 0 ≤ x2 then (if x2 < (x0.length : Int) then ((spec_l1Part.f (rd x9 x11) (rd x0 x2)).bind fun t210 => (if t210 = true then (some false) else (spec_l1Free.l0 k x0 x1 x2 x9 x10 (wrap64 (x11 + 1))))) else (none)) else (none)) else (spec_l1Free.l0 k x0 x1 x2 x9 x10 (wrap64 (x11 + 1)))) else (none))) else (none)) else (none)) else (some true)
def spec_l1Free.f (k : Nat) (l0 : List Int) (l1 : List Bool) (a2 : Int) : Option (Bool) := spec_l1Free.l0 k l0 l1 a2 l0 (l0.length : Int) 0
theorem spec_l1Free.mono_l : ∀ k, (∀ y0 y1 y2 y3 y4 y5, LeO (spec_l1Free.l0 k y0 y1 y2 y3 y4 y5) (spec_l1Free.l0 (k + 1) y0 y1 y2 y3 y4 y5))
  | 0 => fun _ _ _ _ _ _ r h => by simp [spec_l1Free.l0] at h
  | k + 1 => by
    have ih0 := spec_l1Free.mono_l k
    · intro y0 y1 y2 y3 y4 y5
      unfold spec_l1Free.l0
      repeat' first | (with_reducible first | exact ih0 _ _ _ _ _ _ | exact LeO.refl _ | exact LeO.none _ | refine LeO.ite ?_ ?_ | refine LeO.bind ?_ (fun _ => ?_)) | exact ih0 _ _ _ _ _ _ | exact LeO.none _ | refine LeO.ite ?_ ?_ | refine LeO.bind ?_ (fun _ => ?_)
theorem spec_l1Free.mono : ∀ a0 a1 a2 k, LeO (spec_l1Free.f k a0 a1 a2) (spec_l1Free.f (k + 1) a0 a1 a2) := by
 intro a0 a1 a2 k
 have ih0 := spec_l1Free.mono_l k
 unfold spec_l1Free.f
 repeat' first | (with_reducible first | exact ih0 _ _ _ _ _ _ | exact LeO.refl _ | exact LeO.none _ | refine LeO.ite ?_ ?_ | refine LeO.bind ?_ (fun _ => ?_)) | exact ih0 _ _ _ _ _ _ | exact LeO.none _ | refine LeO.ite ?_ ?_ | refine LeO.bind ?_ (fun _ => ?_)
set_option maxHeartbeats 8000000 in
set_option maxRecDepth 100000 in
theorem spec_l1Free.calls (k : Nat) (A0 : Option Addr) (c0 : Nat) (l0 : List Int) (A1 : Option Addr) (c1 : Nat) (l1 : List Bool) (a2 : Int) (r : Bool) (w : World) (hr0 : Kd.C (Kd.int .i64) w A0 l0.length l0) (hc0 : l0.length ≤ c0) (hr1 : Kd.C Kd.bool w A1 l1.length l1) (hc1 : l1.length ≤ c1) (h : spec_l1Free.f k l0 l1 a2 = some r) :
    Calls Try.prog 121 #[.slice A0 l0.length c0, .slice A1 l1.length c1, .int .i64 a2] w fun e w' => e = .returned (.bool r) ∧ Drawn0 w w' := by
 have HR0 := M_ hr0
 have HC0 := M_ hc0
 clear hr0 hc0
 have HR1 := M_ hr1
 have HC1 := M_ hc1
 clear hr1 hc1
 have H : (spec_l1Free.l0 k l0 l1 a2 l0 (l0.length : Int) 0) = some r := h
 clear h
 have H' := M_ H
 clear H
 go_enter Try.func121, Try.ntmps121
 go_wp2
 go_loopg [11] k (fun kq v11 w' => ∃ (x11_1 : Int), v11 = .int .i64 x11_1 ∧ Aside0 (spec_l1Free.l0 kq l0 l1 a2 l0 (l0.length : Int) x11_1 = some r) ∧ Aside0 (kq ≤ k) ∧ Drawn0 w w')
 case atStart => exact ⟨(0), (by first | rfl | (simp; done) | (simp [*]; done)), H', ⟨Nat.le_refl _⟩, dr_⟩
 case round =>
  clear H'
  (try clear p2 c1)
  obtain ⟨x11_1, rfl, HA, HK1, ⟨m1, rfl⟩⟩ := hrel
  cases gk with
  | zero => exact absurd HA.out (by simp [spec_l1Free.l0])
  | succ k1 =>
   have H := HA.out
   clear HA
   simp only [spec_l1Free.l0] at H
   by_cases c4 : x11_1 < (l0.length : Int)
   ·rw [if_pos c4] at H
    have c4b0 := dt_ c4
    clear c4
    by_cases c5 : 0 ≤ x11_1
    ·rw [if_pos c5] at H
     have c5b0 := dt_ c5
     clear c5
     by_cases c6 : x11_1 < (l0.length : Int)
     ·rw [if_pos c6] at H
      have c6b0 := dt_ c6
      clear c6
      by_cases c7 : x11_1 = a2
      ·rw [if_pos c7] at H
       have c7b0 := beq_iff_eq.mpr c7
       have c7b1 := bne_eq_false_iff_eq.mpr c7
       clear c7
       have H' := M_ H
       clear H
       have p207 : 0 ≤ (x11_1 : Int) := od_ as_
       have q207 : x11_1 < (l0.length : Int) := od_ as_
       obtain ⟨ad207, e207, hx207_0⟩ := Kd.at_int HR0.out x11_1 p207 q207
       cases e207
       replace p207 := eq_true p207
       replace q207 := eq_true q207
       go_wp2
       go_roundg k1
       case measure => have := HK1.out; omega
       case rel => exact ⟨(wrap64 (x11_1 + 1)), (by first | rfl | (simp; done) | (simp [*]; done)), H', ⟨by have := HK1.out; omega⟩, dr_⟩
      ·rw [if_neg c7] at H
       have c7b0 : (x11_1 == a2) = false := beq_eq_false_iff_ne.mpr c7
       have c7b1 : (x11_1 != a2) = true := bne_iff_ne.mpr c7
       by_cases c8 : x11_1 < (l1.length : Int)
       ·rw [if_pos c8] at H
        have c8b0 := dt_ c8
        clear c8
        obtain ⟨bq9, hbq9⟩ : ∃ b_ : Bool, b_ = (rdOf false l1 x11_1) := ⟨_, rfl⟩
        replace H : (if bq9 = true then (if 0 ≤ a2 then (if a2 < (l0.length : Int) then ((spec_l1Part.f (rd l0 x11_1) (rd l0 a2)).bind fun t210 => (if t210 = true then (some false) else (spec_l1Free.l0 k1 l0 l1 a2 l0 (l0.length : Int) (wrap64 (x11_1 + 1))))) else (none)) else (none)) else (spec_l1Free.l0 k1 l0 l1 a2 l0 (l0.length : Int) (wrap64 (x11_1 + 1)))) = some r := by rw [← hbq9] at H; exact H
        have Nbq9 := M_ hbq9
        clear hbq9
        by_cases c10 : bq9 = true
        ·subst c10
         rw [if_pos rfl] at H
         by_cases c11 : 0 ≤ a2
         ·rw [if_pos c11] at H
          have c11b0 := dt_ c11
          clear c11
          by_cases c12 : a2 < (l0.length : Int)
          ·rw [if_pos c12] at H
           have c12b0 := dt_ c12
           clear c12
           replace H := bs_ H
           obtain ⟨t210, A130, H⟩ := H
           (try dsimp only at H)
           have A13 := M_ A130
           clear A130
           by_cases c14 : t210 = true
           ·subst c14
            rw [if_pos rfl] at H
            obtain rfl := Option.some.inj H
            have p207 : 0 ≤ (x11_1 : Int) := od_ as_
            have q207 : x11_1 < (l0.length : Int) := od_ as_
            obtain ⟨ad207, e207, hx207_0⟩ := Kd.at_int HR0.out x11_1 p207 q207
            cases e207
            replace p207 := eq_true p207
            replace q207 := eq_true q207
            have p208 : 0 ≤ (x11_1 : Int) := od_ as_
            have q208 : x11_1 < (l1.length : Int) := od_ as_
            obtain ⟨ad208, e208, hx208_0⟩ := Kd.at_bool HR1.out x11_1 p208 q208
            (try rw [← Nbq9.out] at hx208_0)
            cases e208
            replace p208 := eq_true p208
            replace q208 := eq_true q208
            have p209 : 0 ≤ (a2 : Int) := od_ as_
            have q209 : a2 < (l0.length : Int) := od_ as_
            obtain ⟨ad209, e209, hx209_0⟩ := Kd.at_int HR0.out a2 p209 q209
            obtain rfl : ad207 = ad209 := (by injection e209)
            replace p209 := eq_true p209
            replace q209 := eq_true q209
            go_wp2_with (first | (go_at_call 104; (with_reducible refine (spec_l1Part.calls (rd l0 x11_1) (rd l0 a2) true _ A13.out).mono ?_); rintro e w' ⟨rfl, ⟨nd, rfl⟩⟩))
            go_ret
            exact ⟨ra_, dr_⟩
           ·replace c14 := Bool.eq_false_iff.mpr c14
            subst c14
            rw [if_neg (show ¬ (false = true) by decide)] at H
            have H' := M_ H
            clear H
            have p207 : 0 ≤ (x11_1 : Int) := od_ as_
            have q207 : x11_1 < (l0.length : Int) := od_ as_
            obtain ⟨ad207, e207, hx207_0⟩ := Kd.at_int HR0.out x11_1 p207 q207
            cases e207
            replace p207 := eq_true p207
            replace q207 := eq_true q207
            have p208 : 0 ≤ (x11_1 : Int) := od_ as_
            have q208 : x11_1 < (l1.length : Int) := od_ as_
            obtain ⟨ad208, e208, hx208_0⟩ := Kd.at_bool HR1.out x11_1 p208 q208
            (try rw [← Nbq9.out] at hx208_0)
            cases e208
            replace p208 := eq_true p208
            replace q208 := eq_true q208
            have p209 : 0 ≤ (a2 : Int) := od_ as_
            have q209 : a2 < (l0.length : Int) := od_ as_
            obtain ⟨ad209, e209, hx209_0⟩ := Kd.at_int HR0.out a2 p209 q209
            obtain rfl : ad207 = ad209 := (by injection e209)
            replace p209 := eq_true p209
            replace q209 := eq_true q209
            go_wp2_with (first | (go_at_call 104; (with_reducible refine (spec_l1Part.calls (rd l0 x11_1) (rd l0 a2) false _ A13.out).mono ?_); rintro e w' ⟨rfl, ⟨nd, rfl⟩⟩))
            go_roundg k1
            case measure => have := HK1.out; omega
            case rel => exact ⟨(wrap64 (x11_1 + 1)), (by first | rfl | (simp; done) | (simp [*]; done)), H', ⟨by have := HK1.out; omega⟩, dr_⟩
          ·rw [if_neg c12] at H
           exact absurd H (by simp)
         ·rw [if_neg c11] at H
          exact absurd H (by simp)
        ·replace c10 := Bool.eq_false_iff.mpr c10
         subst c10
         rw [if_neg (show ¬ (false = true) by decide)] at H
         have H' := M_ H
         clear H
         have p207 : 0 ≤ (x11_1 : Int) := od_ as_
         have q207 : x11_1 < (l0.length : Int) := od_ as_
         obtain ⟨ad207, e207, hx207_0⟩ := Kd.at_int HR0.out x11_1 p207 q207
         cases e207
         replace p207 := eq_true p207
         replace q207 := eq_true q207
         have p208 : 0 ≤ (x11_1 : Int) := od_ as_
         have q208 : x11_1 < (l1.length : Int) := od_ as_
         obtain ⟨ad208, e208, hx208_0⟩ := Kd.at_bool HR1.out x11_1 p208 q208
         (try rw [← Nbq9.out] at hx208_0)
         cases e208
         replace p208 := eq_true p208
         replace q208 := eq_true q208
         go_wp2
         go_roundg k1
         case measure => have := HK1.out; omega
         case rel => exact ⟨(wrap64 (x11_1 + 1)), (by first | rfl | (simp; done) | (simp [*]; done)), H', ⟨by have := HK1.out; omega⟩, dr_⟩
       ·rw [if_neg c8] at H
        exact absurd H (by simp)
     ·rw [if_neg c6] at H
      exact absurd H (by simp)
    ·rw [if_neg c5] at H
     exact absurd H (by simp)
   ·rw [if_neg c4] at H
    have c4b0 := decide_eq_false c4
    clear c4
    obtain rfl := Option.some.inj H
    go_wp2
    go_ret
    exact ⟨ra_, dr_⟩

end Go.Proofs.Ytilbngklgjjblaa.Q
