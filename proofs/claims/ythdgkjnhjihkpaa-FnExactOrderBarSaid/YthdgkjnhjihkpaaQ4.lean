/- Contracts of Go functions over this translation: each call returns what the Lean function of the same name gives, and writes into no memory that was there. Written by a program of this claim's author (mp.py) over the kit's print. Conditions: those that each theorem names. -/
import Derived.Test.YthdgkjnhjihkpaaQ0
import Derived.Test.YthdgkjnhjihkpaaQ3
namespace Go.Proofs.Ythdgkjnhjihkpaa.Q
open Go.RowKit Go.Proofs.YthdgkjnhjihkpaaW.PrintWords Go.Proofs.YthdgkjnhjihkpaaW.PrintLast Go.Proofs.YthdgkjnhjihkpaaW.PrintMore
attribute [local go_sem] max2_int min2_int max_two min_two max_three min_three max_four min_four   -- for this text's walks alone
set_option linter.unusedVariables false
set_option linter.unusedSimpArgs false

/-! ### slices_Index_int_int: function 83 -/
def slices_Index_int_int.l0 : Nat → List Int → Int → Int → Int → Option (Int)
  | 0, _, _, _, _ => none
  | k + 1, x0, x1, x7, x8 => if x8 < x7 then (if 0 ≤ x8 then (if x8 < (x0.length : Int) then (if x1 = (rd x0 x8) then (some x8) else (slices_Index_int_int.l0 k x0 x1 x7 (wrap64 (x8 + 1)))) else (none)) else (none)) else (some (-1))
def slices_Index_int_int.f (k : Nat) (l0 : List Int) (a1 : Int) : Option (Int) := slices_Index_int_int.l0 k l0 a1 (l0.length : Int) 0
theorem slices_Index_int_int.mono_l : ∀ k, (∀ y0 y1 y2 y3, LeO (slices_Index_int_int.l0 k y0 y1 y2 y3) (slices_Index_int_int.l0 (k + 1) y0 y1 y2 y3))
  | 0 => fun _ _ _ _ r h => by simp [slices_Index_int_int.l0] at h
  | k + 1 => by
    have ih0 := slices_Index_int_int.mono_l k
    · intro y0 y1 y2 y3
      unfold slices_Index_int_int.l0
      repeat' first
      | (with_reducible exact ih0 _ _ _ _)
      | (with_reducible exact LeO.refl _)
      | (with_reducible exact LeO.none _)
      | (with_reducible refine LeO.ite ?_ ?_)
      | (with_reducible refine LeO.bind ?_ (fun _ => ?_))
      | exact ih0 _ _ _ _
      | exact LeO.none _
      | refine LeO.ite ?_ ?_
      | refine LeO.bind ?_ (fun _ => ?_)
theorem slices_Index_int_int.mono : ∀ a0 a1 k, LeO (slices_Index_int_int.f k a0 a1) (slices_Index_int_int.f (k + 1) a0 a1) := by
  intro a0 a1 k
  have ih0 := slices_Index_int_int.mono_l k
  unfold slices_Index_int_int.f
  repeat' first
      | (with_reducible exact ih0 _ _ _ _)
      | (with_reducible exact LeO.refl _)
      | (with_reducible exact LeO.none _)
      | (with_reducible refine LeO.ite ?_ ?_)
      | (with_reducible refine LeO.bind ?_ (fun _ => ?_))
      | exact ih0 _ _ _ _
      | exact LeO.none _
      | refine LeO.ite ?_ ?_
      | refine LeO.bind ?_ (fun _ => ?_)
set_option maxHeartbeats 8000000 in
set_option maxRecDepth 100000 in
theorem slices_Index_int_int.calls (k : Nat) (A0 : Option Addr) (c0 : Nat) (l0 : List Int) (a1 : Int) (r : Int) (w : World) (hr0 : Kd.C (Kd.int .i64) w A0 l0.length l0) (hc0 : l0.length ≤ c0) (h : slices_Index_int_int.f k l0 a1 = some r) :
    Calls Try.prog 83 #[.slice A0 l0.length c0, .int .i64 a1] w fun e w' => e = .returned (.int .i64 r) ∧ Drawn0 w w' := by
  have HR0 := Aside0.mk hr0
  have HC0 := Aside0.mk hc0
  clear hr0 hc0
  have H : (slices_Index_int_int.l0 k l0 a1 (l0.length : Int) 0) = some r := h
  clear h
  have H' := Aside0.mk H
  clear H
  go_enter Try.func83, Try.ntmps83
  go_wp2
  go_loopg [8] k (fun kq v8 w' => ∃ (x8_1 : Int), v8 = .int .i64 x8_1 ∧ Aside0 (slices_Index_int_int.l0 kq l0 a1 (l0.length : Int) x8_1 = some r) ∧ Aside0 (kq ≤ k) ∧ Drawn0 w w')
  case atStart => exact ⟨(0), (by first | rfl | (simp; done) | (simp [*]; done)), H', ⟨Nat.le_refl _⟩, by repeat (first | exact Drawn0.refl _ | apply Drawn0.step)⟩
  case round =>
    clear H'
    try clear p2
    obtain ⟨x8_1, rfl, HA, HK1, ⟨m1, rfl⟩⟩ := hrel
    cases gk with
    | zero => exact absurd HA.out (by simp [slices_Index_int_int.l0])
    | succ k1 =>
      have H := HA.out
      clear HA
      simp only [slices_Index_int_int.l0] at H
      by_cases c3 : x8_1 < (l0.length : Int)
      · rw [if_pos c3] at H
        have c3b0 : decide (x8_1 < (l0.length : Int)) = true := decide_eq_true c3
        clear c3
        by_cases c4 : 0 ≤ x8_1
        · rw [if_pos c4] at H
          have c4b0 : decide (0 ≤ x8_1) = true := decide_eq_true c4
          clear c4
          by_cases c5 : x8_1 < (l0.length : Int)
          · rw [if_pos c5] at H
            have c5b0 : decide (x8_1 < (l0.length : Int)) = true := decide_eq_true c5
            clear c5
            by_cases c6 : a1 = (rd l0 x8_1)
            · rw [if_pos c6] at H
              have c6b0 : (a1 == (rd l0 x8_1)) = true := beq_iff_eq.mpr c6
              have c6b1 : (a1 != (rd l0 x8_1)) = false := bne_eq_false_iff_eq.mpr c6
              clear c6
              obtain rfl := Option.some.inj H
              have p137 : 0 ≤ (x8_1 : Int) := of_decide_eq_true (by first | (with_reducible assumption) | assumption)
              have q137 : x8_1 < (l0.length : Int) := of_decide_eq_true (by first | (with_reducible assumption) | assumption)
              obtain ⟨ad137, e137, hx137_0⟩ := Kd.at_int HR0.out x8_1 p137 q137
              cases e137
              replace p137 := eq_true p137
              replace q137 := eq_true q137
              go_wp2
              go_ret
              exact ⟨by first | rfl | (simp only [i64_w, i32_w, wrap64_zero, Int.sub_zero, Int.add_zero, Int.mul_zero, Int.zero_mul]; rfl) | (simp; done) | (simp [*]; done), by repeat (first | exact Drawn0.refl _ | apply Drawn0.step)⟩
            · rw [if_neg c6] at H
              have c6b0 : (a1 == (rd l0 x8_1)) = false := beq_eq_false_iff_ne.mpr c6
              have c6b1 : (a1 != (rd l0 x8_1)) = true := bne_iff_ne.mpr c6
              have H' := Aside0.mk H
              clear H
              have p137 : 0 ≤ (x8_1 : Int) := of_decide_eq_true (by first | (with_reducible assumption) | assumption)
              have q137 : x8_1 < (l0.length : Int) := of_decide_eq_true (by first | (with_reducible assumption) | assumption)
              obtain ⟨ad137, e137, hx137_0⟩ := Kd.at_int HR0.out x8_1 p137 q137
              cases e137
              replace p137 := eq_true p137
              replace q137 := eq_true q137
              go_wp2
              go_roundg k1
              case measure => have := HK1.out; omega
              case rel => exact ⟨(wrap64 (x8_1 + 1)), (by first | rfl | (simp; done) | (simp [*]; done)), H', ⟨by have := HK1.out; omega⟩, by repeat (first | exact Drawn0.refl _ | apply Drawn0.step)⟩
          · rw [if_neg c5] at H
            exact absurd H (by simp)
        · rw [if_neg c4] at H
          exact absurd H (by simp)
      · rw [if_neg c3] at H
        have c3b0 : decide (x8_1 < (l0.length : Int)) = false := decide_eq_false c3
        clear c3
        obtain rfl := Option.some.inj H
        go_wp2
        go_ret
        exact ⟨by first | rfl | (simp only [i64_w, i32_w, wrap64_zero, Int.sub_zero, Int.add_zero, Int.mul_zero, Int.zero_mul]; rfl) | (simp; done) | (simp [*]; done), by repeat (first | exact Drawn0.refl _ | apply Drawn0.step)⟩

/-! ### slices_Contains_int_int: function 68 -/
def slices_Contains_int_int.f (k : Nat) (l0 : List Int) (a1 : Int) : Option (Bool) := (slices_Index_int_int.f k l0 a1).bind fun t138 => (some (decide (t138 ≥ 0)))
theorem slices_Contains_int_int.mono : ∀ a0 a1 k, LeO (slices_Contains_int_int.f k a0 a1) (slices_Contains_int_int.f (k + 1) a0 a1) := by
  intro a0 a1 k
  unfold slices_Contains_int_int.f
  repeat' first
      | (with_reducible exact slices_Index_int_int.mono _ _ _)
      | (with_reducible exact LeO.refl _)
      | (with_reducible exact LeO.none _)
      | (with_reducible refine LeO.ite ?_ ?_)
      | (with_reducible refine LeO.bind ?_ (fun _ => ?_))
      | exact slices_Index_int_int.mono _ _ _
      | exact LeO.none _
      | refine LeO.ite ?_ ?_
      | refine LeO.bind ?_ (fun _ => ?_)
set_option maxHeartbeats 8000000 in
set_option maxRecDepth 100000 in
theorem slices_Contains_int_int.calls (k : Nat) (A0 : Option Addr) (c0 : Nat) (l0 : List Int) (a1 : Int) (r : Bool) (w : World) (hr0 : Kd.C (Kd.int .i64) w A0 l0.length l0) (hc0 : l0.length ≤ c0) (h : slices_Contains_int_int.f k l0 a1 = some r) :
    Calls Try.prog 68 #[.slice A0 l0.length c0, .int .i64 a1] w fun e w' => e = .returned (.bool r) ∧ Drawn0 w w' := by
  have HR0 := Aside0.mk hr0
  have HC0 := Aside0.mk hc0
  clear hr0 hc0
  have H : ((slices_Index_int_int.f k l0 a1).bind fun t138 => (some (decide (t138 ≥ 0)))) = some r := h
  clear h
  replace H := Option.bind_eq_some_iff.mp H
  obtain ⟨t138, A30, H⟩ := H
  replace H : (some (decide (t138 ≥ 0))) = some r := H
  have A3 := Aside0.mk A30
  clear A30
  obtain rfl := Option.some.inj H
  go_enter Try.func68, Try.ntmps68
  go_wp2_with (first | ((with_reducible refine gate_callee (f := 83) rfl ?_); refine goesL_ (some 7) rfl rfl Try.func83 (by kernel_rfl) rfl #[.slice A0 l0.length c0, .int .i64 a1] rfl (by (try simp only [List.map_toArray, List.map_cons, List.map_nil]); first | done | rfl | (simp only [List.length_drop, List.length_take]; rfl)) ?_; (with_reducible refine (slices_Index_int_int.calls k _ _ l0 a1 t138 _ ?side1 ?side2 A3.out).mono ?_); (case side1 => repeat (first | exact HR0.out | (with_reducible refine Kd.C_alloc ?_ _) | (with_reducible refine Kd.C_drewN ?_ _) | (with_reducible refine Kd.C_drew ?_))); (case side2 => exact HC0.out); rintro e w' ⟨rfl, ⟨nd, rfl⟩⟩; refine ⟨_, rfl, ?_⟩))
  go_ret
  exact ⟨by first | rfl | (simp only [i64_w, i32_w, wrap64_zero, Int.sub_zero, Int.add_zero, Int.mul_zero, Int.zero_mul]; rfl) | (simp; done) | (simp [*]; done), by repeat (first | exact Drawn0.refl _ | apply Drawn0.step)⟩

/-! ### impl_twice: function 62 -/
def impl_twice.l0 : Nat → List Int → List Int → Int → Int → Option (Bool)
  | 0, _, _, _, _ => none
  | k + 1, x0, x5, x6, x7 => if x7 < x6 then (if 0 ≤ x7 then (if x7 < (x5.length : Int) then (if x7 ≤ (x0.length : Int) then ((slices_Contains_int_int.f k (x0.take (x7 : Int).toNat) (rd x5 x7)).bind fun t141 => (if t141 = true then (some true) else (impl_twice.l0 k x0 x5 x6 (wrap64 (x7 + 1))))) else (none)) else (none)) else (none)) else (some false)
def impl_twice.f (k : Nat) (l0 : List Int) : Option (Bool) := impl_twice.l0 k l0 l0 (l0.length : Int) 0
theorem impl_twice.mono_l : ∀ k, (∀ y0 y1 y2 y3, LeO (impl_twice.l0 k y0 y1 y2 y3) (impl_twice.l0 (k + 1) y0 y1 y2 y3))
  | 0 => fun _ _ _ _ r h => by simp [impl_twice.l0] at h
  | k + 1 => by
    have ih0 := impl_twice.mono_l k
    · intro y0 y1 y2 y3
      unfold impl_twice.l0
      repeat' first
      | (with_reducible exact ih0 _ _ _ _)
      | (with_reducible exact slices_Contains_int_int.mono _ _ _)
      | (with_reducible exact LeO.refl _)
      | (with_reducible exact LeO.none _)
      | (with_reducible refine LeO.ite ?_ ?_)
      | (with_reducible refine LeO.bind ?_ (fun _ => ?_))
      | exact ih0 _ _ _ _
      | exact slices_Contains_int_int.mono _ _ _
      | exact LeO.none _
      | refine LeO.ite ?_ ?_
      | refine LeO.bind ?_ (fun _ => ?_)
theorem impl_twice.mono : ∀ a0 k, LeO (impl_twice.f k a0) (impl_twice.f (k + 1) a0) := by
  intro a0 k
  have ih0 := impl_twice.mono_l k
  unfold impl_twice.f
  repeat' first
      | (with_reducible exact ih0 _ _ _ _)
      | (with_reducible exact slices_Contains_int_int.mono _ _ _)
      | (with_reducible exact LeO.refl _)
      | (with_reducible exact LeO.none _)
      | (with_reducible refine LeO.ite ?_ ?_)
      | (with_reducible refine LeO.bind ?_ (fun _ => ?_))
      | exact ih0 _ _ _ _
      | exact slices_Contains_int_int.mono _ _ _
      | exact LeO.none _
      | refine LeO.ite ?_ ?_
      | refine LeO.bind ?_ (fun _ => ?_)
set_option maxHeartbeats 8000000 in
set_option maxRecDepth 100000 in
theorem impl_twice.calls (k : Nat) (A0 : Option Addr) (c0 : Nat) (l0 : List Int) (r : Bool) (w : World) (hr0 : Kd.C (Kd.int .i64) w A0 l0.length l0) (hc0 : l0.length ≤ c0) (h : impl_twice.f k l0 = some r) :
    Calls Try.prog 62 #[.slice A0 l0.length c0] w fun e w' => e = .returned (.bool r) ∧ Drawn0 w w' := by
  have HR0 := Aside0.mk hr0
  have HC0 := Aside0.mk hc0
  clear hr0 hc0
  have H : (impl_twice.l0 k l0 l0 (l0.length : Int) 0) = some r := h
  clear h
  have H' := Aside0.mk H
  clear H
  go_enter Try.func62, Try.ntmps62
  go_wp2
  go_loopg [7] k (fun kq v7 w' => ∃ (x7_1 : Int), v7 = .int .i64 x7_1 ∧ Aside0 (impl_twice.l0 kq l0 l0 (l0.length : Int) x7_1 = some r) ∧ Aside0 (kq ≤ k) ∧ Drawn0 w w')
  case atStart => exact ⟨(0), (by first | rfl | (simp; done) | (simp [*]; done)), H', ⟨Nat.le_refl _⟩, by repeat (first | exact Drawn0.refl _ | apply Drawn0.step)⟩
  case round =>
    clear H'
    obtain ⟨x7_1, rfl, HA, HK1, ⟨m1, rfl⟩⟩ := hrel
    cases gk with
    | zero => exact absurd HA.out (by simp [impl_twice.l0])
    | succ k1 =>
      have H := HA.out
      clear HA
      simp only [impl_twice.l0] at H
      by_cases c2 : x7_1 < (l0.length : Int)
      · rw [if_pos c2] at H
        have c2b0 : decide (x7_1 < (l0.length : Int)) = true := decide_eq_true c2
        clear c2
        by_cases c3 : 0 ≤ x7_1
        · rw [if_pos c3] at H
          have c3b0 : decide (0 ≤ x7_1) = true := decide_eq_true c3
          clear c3
          by_cases c4 : x7_1 < (l0.length : Int)
          · rw [if_pos c4] at H
            have c4b0 : decide (x7_1 < (l0.length : Int)) = true := decide_eq_true c4
            clear c4
            have c5b0 := eq_true (of_decide_eq_true (by first | (with_reducible assumption) | assumption) : 0 ≤ x7_1)
            by_cases c6 : x7_1 ≤ (l0.length : Int)
            · rw [if_pos c6] at H
              have c6b0 := eq_true c6
              have c6b1 : decide (x7_1 ≤ (l0.length : Int)) = true := decide_eq_true c6
              clear c6
              replace H := Option.bind_eq_some_iff.mp H
              obtain ⟨t141, A70, H⟩ := H
              replace H : (if t141 = true then (some true) else (impl_twice.l0 k1 l0 l0 (l0.length : Int) (wrap64 (x7_1 + 1)))) = some r := H
              have A7 := Aside0.mk A70
              clear A70
              by_cases c8 : t141 = true
              · subst c8
                have H1 : (some true) = some r := by rw [if_pos rfl] at H; exact H
                clear H
                have H := H1
                clear H1
                obtain rfl := Option.some.inj H
                have p139 : 0 ≤ (x7_1 : Int) := of_decide_eq_true (by first | (with_reducible assumption) | assumption)
                have q139 : x7_1 < (l0.length : Int) := of_decide_eq_true (by first | (with_reducible assumption) | assumption)
                obtain ⟨ad139, e139, hx139_0⟩ := Kd.at_int HR0.out x7_1 p139 q139
                cases e139
                replace p139 := eq_true p139
                replace q139 := eq_true q139
                obtain ⟨i09, hi09, _, hsz9, _⟩ := info_parts info3
                obtain ⟨hcut9, hA9, hC9⟩ := print_take_of (P := Try.prog) (Value.int .i64) 0 23 3 .i64 Try.underlying23 hi09 hsz9 (some ad139) c0 l0 x7_1 (of_decide_eq_true (by first | (with_reducible assumption) | assumption)) (of_decide_eq_true (by first | (with_reducible assumption) | assumption)) HC0.out
                have HR140 := Aside0.mk (Kd.C_of_reads (h1 := fun _ => rfl) (hA9 _ (Kd.reads_of_C HR0.out)))
                have HC140 := Aside0.mk hC9
                clear hA9 hC9 hi09 hsz9
                go_wp2_with (first | ((with_reducible refine gate_callee (f := 68) rfl ?_); refine goesL_ (some 16) rfl rfl Try.func68 (by kernel_rfl) rfl #[.slice (some ad139) (l0.take (x7_1 : Int).toNat).length c0, .int .i64 (rd l0 x7_1)] rfl (by (try simp only [List.map_toArray, List.map_cons, List.map_nil]); first | done | (rw [show (l0.take (x7_1 : Int).toNat).length = x7_1.toNat from (by rw [List.length_take]; have h_ : (x7_1 : Int) ≤ (l0.length : Int) := of_decide_eq_true (by first | (with_reducible assumption) | assumption); omega)] <;> rfl) | rfl | (simp only [List.length_drop, List.length_take]; rfl)) ?_; (with_reducible refine (slices_Contains_int_int.calls k1 _ _ (l0.take (x7_1 : Int).toNat) (rd l0 x7_1) true _ ?side1 ?side2 A7.out).mono ?_); (case side1 => repeat (first | exact HR140.out | (with_reducible refine Kd.C_alloc ?_ _) | (with_reducible refine Kd.C_drewN ?_ _) | (with_reducible refine Kd.C_drew ?_))); (case side2 => exact HC140.out); rintro e w' ⟨rfl, ⟨nd, rfl⟩⟩; refine ⟨_, rfl, ?_⟩))
                go_ret
                exact ⟨by first | rfl | (simp only [i64_w, i32_w, wrap64_zero, Int.sub_zero, Int.add_zero, Int.mul_zero, Int.zero_mul]; rfl) | (simp; done) | (simp [*]; done), by repeat (first | exact Drawn0.refl _ | apply Drawn0.step)⟩
              · replace c8 := Bool.eq_false_iff.mpr c8
                subst c8
                have H1 : (impl_twice.l0 k1 l0 l0 (l0.length : Int) (wrap64 (x7_1 + 1))) = some r := by rw [if_neg (show ¬ (false = true) by decide)] at H; exact H
                clear H
                have H := H1
                clear H1
                have H' := Aside0.mk H
                clear H
                have p139 : 0 ≤ (x7_1 : Int) := of_decide_eq_true (by first | (with_reducible assumption) | assumption)
                have q139 : x7_1 < (l0.length : Int) := of_decide_eq_true (by first | (with_reducible assumption) | assumption)
                obtain ⟨ad139, e139, hx139_0⟩ := Kd.at_int HR0.out x7_1 p139 q139
                cases e139
                replace p139 := eq_true p139
                replace q139 := eq_true q139
                obtain ⟨i010, hi010, _, hsz10, _⟩ := info_parts info3
                obtain ⟨hcut10, hA10, hC10⟩ := print_take_of (P := Try.prog) (Value.int .i64) 0 23 3 .i64 Try.underlying23 hi010 hsz10 (some ad139) c0 l0 x7_1 (of_decide_eq_true (by first | (with_reducible assumption) | assumption)) (of_decide_eq_true (by first | (with_reducible assumption) | assumption)) HC0.out
                have HR140 := Aside0.mk (Kd.C_of_reads (h1 := fun _ => rfl) (hA10 _ (Kd.reads_of_C HR0.out)))
                have HC140 := Aside0.mk hC10
                clear hA10 hC10 hi010 hsz10
                go_wp2_with (first | ((with_reducible refine gate_callee (f := 68) rfl ?_); refine goesL_ (some 16) rfl rfl Try.func68 (by kernel_rfl) rfl #[.slice (some ad139) (l0.take (x7_1 : Int).toNat).length c0, .int .i64 (rd l0 x7_1)] rfl (by (try simp only [List.map_toArray, List.map_cons, List.map_nil]); first | done | (rw [show (l0.take (x7_1 : Int).toNat).length = x7_1.toNat from (by rw [List.length_take]; have h_ : (x7_1 : Int) ≤ (l0.length : Int) := of_decide_eq_true (by first | (with_reducible assumption) | assumption); omega)] <;> rfl) | rfl | (simp only [List.length_drop, List.length_take]; rfl)) ?_; (with_reducible refine (slices_Contains_int_int.calls k1 _ _ (l0.take (x7_1 : Int).toNat) (rd l0 x7_1) false _ ?side1 ?side2 A7.out).mono ?_); (case side1 => repeat (first | exact HR140.out | (with_reducible refine Kd.C_alloc ?_ _) | (with_reducible refine Kd.C_drewN ?_ _) | (with_reducible refine Kd.C_drew ?_))); (case side2 => exact HC140.out); rintro e w' ⟨rfl, ⟨nd, rfl⟩⟩; refine ⟨_, rfl, ?_⟩))
                go_roundg k1
                case measure => have := HK1.out; omega
                case rel => exact ⟨(wrap64 (x7_1 + 1)), (by first | rfl | (simp; done) | (simp [*]; done)), H', ⟨by have := HK1.out; omega⟩, by repeat (first | exact Drawn0.refl _ | apply Drawn0.step)⟩
            · rw [if_neg c6] at H
              exact absurd H (by simp)
          · rw [if_neg c4] at H
            exact absurd H (by simp)
        · rw [if_neg c3] at H
          exact absurd H (by simp)
      · rw [if_neg c2] at H
        have c2b0 : decide (x7_1 < (l0.length : Int)) = false := decide_eq_false c2
        clear c2
        obtain rfl := Option.some.inj H
        go_wp2
        go_ret
        exact ⟨by first | rfl | (simp only [i64_w, i32_w, wrap64_zero, Int.sub_zero, Int.add_zero, Int.mul_zero, Int.zero_mul]; rfl) | (simp; done) | (simp [*]; done), by repeat (first | exact Drawn0.refl _ | apply Drawn0.step)⟩

/-! ### impl_part: function 63 -/
def impl_part.f (a0 : Int) (a1 : Int) : Option (Bool) := some ((Go.bits .andNot .i64 a0 a1) == 0)
set_option maxHeartbeats 8000000 in
set_option maxRecDepth 100000 in
theorem impl_part.calls (a0 : Int) (a1 : Int) (r : Bool) (w : World) (h : impl_part.f a0 a1 = some r) :
    Calls Try.prog 63 #[.int .i64 a0, .int .i64 a1] w fun e w' => e = .returned (.bool r) ∧ Drawn0 w w' := by
  have H : (some ((Go.bits .andNot .i64 a0 a1) == 0)) = some r := h
  clear h
  obtain rfl := Option.some.inj H
  go_enter Try.func63, Try.ntmps63
  go_wp2
  go_ret
  exact ⟨by first | rfl | (simp only [i64_w, i32_w, wrap64_zero, Int.sub_zero, Int.add_zero, Int.mul_zero, Int.zero_mul]; rfl) | (simp; done) | (simp [*]; done), by repeat (first | exact Drawn0.refl _ | apply Drawn0.step)⟩

/-! ### slices_Clone_int_int: function 65 -/
/-- slices.Clone: the same elements in memory of its own. -/
def slices_Clone_int_int.f (l0 : List Int) : Option (List Int) := if l0.length * 8 ≤ 140737488355328 then some l0 else none
set_option maxHeartbeats 2000000 in
set_option maxRecDepth 100000 in
theorem slices_Clone_int_int.calls (A0 : Option Addr) (c0 : Nat) (l0 : List Int) (r : List Int) (w : World) (hr0 : Kd.C (Kd.int .i64) w A0 l0.length l0) (hc0 : l0.length ≤ c0) (h : slices_Clone_int_int.f l0 = some r) :
    Calls Try.prog 65 #[.slice A0 l0.length c0] w fun e w' => ∃ v0_ : Value, e = .returned (v0_) ∧ Kd.R (Kd.int .i64) 3 w' w.heap.size (fun _ => True) v0_ r ∧ Below w.heap.size w w' := by
  unfold slices_Clone_int_int.f at h
  by_cases hlim : l0.length * 8 ≤ 140737488355328
  case neg => rw [if_neg hlim] at h; exact absurd h (by simp)
  rw [if_pos hlim] at h
  obtain rfl := Option.some.inj h
  clear h
  have hq : ∀ (W : World) (a : Option Addr) (n c n' c' : Nat), (binOp .eql 23 (.slice a n c) (.slice none n' c')).run Try.prog W = .ok (.bool a.isNone) W := fun W a n c n' c' => Lib.run_eql_slice_nil W _ _ a n c n' c' Try.underlying23
  cases A0 with
  | none =>
    have hl : l0 = [] := by
      cases l0 with
      | nil => rfl
      | cons a t =>
        obtain ⟨ad, e1, _⟩ := hr0.2.2 (by simp)
        exact absurd e1 (by simp)
    subst hl
    clear hr0 hlim
    go_enter Try.func65, Try.ntmps65
    go_wp2
    go_ret
    exact ⟨_, rfl, Kd.R_nil _ _ _ _ _, Below.refl _ _⟩
  | some ad =>
    have HR0 := Aside0.mk hr0
    have HC0 := Aside0.mk hc0
    have LMc16 := Aside0.mk hlim
    have HB := Aside0.mk (Below.refl w.heap.size w)
    clear hr0 hc0 hlim
    obtain ⟨y404, hy404⟩ : ∃ y_ : List Int, y_ = ([] : List Int) := ⟨_, rfl⟩
    obtain ⟨y407, hy407⟩ : ∃ y_ : List Int, y_ = y404 ++ l0 := ⟨_, rfl⟩
    have Ny404 := Aside0.mk hy404
    have Ny407 := Aside0.mk hy407
    clear hy404 hy407
    go_enter Try.func65, Try.ntmps65
    go_wp2_with (first | ((with_reducible refine gate_dst (N := 5) rfl ?_); refine Kd.R_lit (Kd.int .i64) _ 3 ?hg (N := 5) ?hd (xs := ([] : List Int)) (inner := []) (ok := fun _ => True) (okp := fun _ => True) ?hr ?hp (fun _ hk => hk) trivial (Below.refl _ _) (Nat.le_refl _) (by simp) ?_; (case hd => rfl); (case hg => rfl); (case hr => first | (go_simp; done) | (go_simp; rfl)); (case hp => exact (Reps.none _ _)); intro v405 w21 ho22 hb hg_ hnew_; clear hg_ hnew_; rw [← Ny404.out] at ho22; have n0_ := Aside0.mk (Kd.R_lower ho22 (below_size (by repeat (first | (with_reducible first | exact HB.out | apply below_alloc | apply pw_below_drewN | apply below_drew1) | exact HB.out)))); have n1_ := Aside0.mk (below_step (by repeat (first | (with_reducible first | exact HB.out | apply below_alloc | apply pw_below_drewN | apply below_drew1) | exact HB.out)) hb); clear HB; have HO406 := n0_; have HB := n1_; clear n0_ n1_; clear hb ho22) | ((with_reducible refine gate_builtin (b := .append) (xs := #[.tmp 5, .tmp 6]) rfl ?_); at_builtin; refine Kd.R_append_rows (Kd.int .i64) (w0 := w) w.heap.size rfl (.tmp 5) (.tmp 6) 23 3 (.int .i64 0) 8 rfl Try.underlying23 info3 rfl (by decide) (by omega) v405 y404 l0 _ _ _ (fun _ => True) (fun _ => False) rfl rfl ?aO ?aR (fun _ _ h => h) (fun _ h => h.elim) ?aF ?aB ?aS ?aL ?_; (case aR => repeat (first | exact (Kd.C_below HR0.out HB.out) | (with_reducible refine Kd.C_alloc ?_ _) | (with_reducible refine Kd.C_drewN ?_ _) | (with_reducible refine Kd.C_drew ?_))); (case aB => exact (by repeat (first | (with_reducible first | exact HB.out | apply below_alloc | apply pw_below_drewN | apply below_drew1) | exact HB.out))); (case aF => exact (fun _ _ => trivial)); (case aO => exact (by (with_reducible repeat (first | apply Kd.R_alloc | apply Kd.R_drewN | apply Kd.R_drew)); exact HO406.out)); (case aS => exact (below_size (by repeat (first | (with_reducible first | exact HB.out | apply below_alloc | apply pw_below_drewN | apply below_drew1) | exact HB.out)))); (case aL => have := LMc16.out; rw [Ny404.out]; simpa using this); intro v408 w23 ho hb hg hat; rw [← Ny407.out] at ho; have n0_ := Aside0.mk (hb); have n1_ := Aside0.mk (ho); clear HB; clear HO406; have HB := n0_; have HO409 := n1_; clear n0_ n1_; clear ho hb hg hat))
    go_ret
    have E : y407 = l0 := by rw [Ny407.out, Ny404.out]; rfl
    exact ⟨_, rfl, E ▸ HO409.out, HB.out⟩

-- NOT PRINTED: function 71 (impl_OrderBar_1)

-- NOT PRINTED: function 72 (impl_OrderBar_1_1)

/-! ### slices_Delete_int_int: function 73 -/
theorem nums_repsD {w : World} {base : Nat} {ok : Nat → Prop} : ∀ (l : List Int) (inner : List Value), Reps ((Kd.int .i64).M w base ok) 1 l inner → inner = l.map (Value.int .i64) := by
  intro l inner h
  apply List.ext_getElem
  · rw [h.1]; simp
  · intro j h1 h2
    have hj : j < l.length := by simpa using h2
    have h3 := h.2 j l[j] (List.getElem?_eq_getElem hj)
    have h4 : (inner.drop (j * 1)).take 1 = [Value.int .i64 l[j]] := h3
    rw [Nat.mul_one, List.drop_eq_getElem_cons h1, List.take_succ_cons, List.take_zero] at h4
    rw [List.getElem_map]
    exact (List.cons.inj h4).1
theorem reps_numsD {w : World} {base : Nat} {ok : Nat → Prop} (l : List Int) : Reps ((Kd.int .i64).M w base ok) 1 l (l.map (Value.int .i64)) := by
  refine ⟨by simp, fun j p hj => ?_⟩
  obtain ⟨h1, h2⟩ := List.getElem?_eq_some_iff.1 hj
  subst h2
  have hl : j < (l.map (Value.int .i64)).length := by simpa using h1
  show ((l.map (Value.int .i64)).drop (j * 1)).take 1 = [Value.int .i64 l[j]]
  rw [Nat.mul_one, List.drop_eq_getElem_cons hl, List.take_succ_cons, List.take_zero, List.getElem_map]
/-- A row of numbers of the call's own, laid open. -/
theorem row_openD {e : Nat} {w : World} {base : Nat} {ok : Nat → Prop} {v : Value} {l : List Int} (h : Kd.R (Kd.int .i64) e w base ok v l) :
    (v = .slice none 0 0 ∧ l = []) ∨ ∃ g cap cur, v = .slice (some ⟨g, 0, none⟩) l.length cap ∧ ok g ∧ base ≤ g ∧ w.heap[g]? = some (.cells cur e (0, 0)) ∧ l.length ≤ cap ∧ cap ≤ maxLen ∧ cur.size = cap ∧ cur.toList.take l.length = l.map (Value.int .i64) := by
  obtain ⟨h0, inner, ⟨_, ho⟩, hr⟩ := h
  have hi := nums_repsD l inner hr
  rcases ho with ⟨h1, h2⟩ | ⟨g, cap, cur, h1, h2, h3, h4, h5, h6, h7⟩
  · exact Or.inl ⟨h1, List.length_eq_zero_iff.1 h2⟩
  · refine Or.inr ⟨g, cap, cur, h1, h0 g (by rw [h1]; rfl), h2, h3, h4, h5, ?_, ?_⟩
    · rw [h6]; exact Nat.mul_one cap
    · rw [← hi, ← h7]; congr 1; exact (Nat.mul_one _).symm
theorem row_shutD {e : Nat} {w : World} {base : Nat} {ok : Nat → Prop} {l : List Int} {g cap n : Nat} {cur : Array Value} (hn : n = l.length) (h0 : ok g) (h2 : base ≤ g) (h3 : w.heap[g]? = some (.cells cur e (0, 0))) (h4 : l.length ≤ cap) (h5 : cap ≤ maxLen) (h6 : cur.size = cap) (h7 : cur.toList.take l.length = l.map (Value.int .i64)) :
    Kd.R (Kd.int .i64) e w base ok (.slice (some ⟨g, 0, none⟩) n cap) l := by
  subst hn
  refine ⟨fun k hk => ?_, l.map (Value.int .i64), ⟨by simp [Kd.int, Kd.scalar], Or.inr ⟨g, cap, cur, rfl, h2, h3, h4, h5, ?_, ?_⟩⟩, reps_numsD l⟩
  · have : g = k := by simpa [Value.ownBlock] using hk
    subst this; exact h0
  · show cur.size = cap * 1
    rw [h6, Nat.mul_one]
  · show cur.toList.take (l.length * 1) = _
    rw [Nat.mul_one]; exact h7
set_option maxHeartbeats 2000000 in
/-- slices.Delete of one element of a row of the call's own. -/
theorem slices_Delete_int_int.calls {base : Nat} {ok : Nat → Prop} (v : Value) (l0 : List Int) (i : Nat) (w : World) (ho : Kd.R (Kd.int .i64) 3 w base ok v l0) (hi : i < l0.length) :
    Calls Try.prog 73 #[v, .int .i64 (i : Int), .int .i64 ((i + 1 : Nat) : Int)] w fun e w' => ∃ v1, e = .returned v1 ∧ Kd.R (Kd.int .i64) 3 w' base ok v1 (l0.eraseIdx i) ∧ v1.ownBlock = v.ownBlock ∧ w.grownBy w' v.ownBlock := by
  rcases row_openD ho with ⟨rfl, rfl⟩ | ⟨g, cap, cur, rfl, hok, hbase, hheap, hle, hcap, hcur, hcells⟩
  · exact absurd hi (Nat.not_lt_zero _)
  · have hg : g < w.heap.size := (Array.getElem?_eq_some_iff.1 hheap).1
    have hH : Go.Sort.Holds (Value.int .i64) w g 0 l0.toArray := by
      intro j hj
      have hj' : j < l0.length := by simpa using hj
      have hjc : j < cur.size := by omega
      have e1 : cur[j]? = some (.int .i64 l0[j]) := by
        have : cur.toList[j]? = some (.int .i64 l0[j]) := by
          have h8 : (cur.toList.take l0.length)[j]? = some (.int .i64 l0[j]) := by rw [hcells, List.getElem?_map, List.getElem?_eq_getElem hj']; rfl
          rw [List.getElem?_take_of_lt hj'] at h8
          exact h8
        simpa using this
      constructor
      · simp only [World.cell?, hheap, Nat.zero_add]
        simp [e1, hj']
      · simp [World.frozen?, hheap]
    refine (Any.slices_Delete_int Try.laysDelete g 0 cap i (i + 1) l0 w hH hle (by unfold maxLen at hcap; omega) (Nat.le_succ _) hi).mono ?_
    rintro e w' ⟨rfl, n, rfl⟩
    have hs : (l0.take i ++ l0.drop (i + 1) ++ List.replicate (i + 1 - i) (0 : Int)).length = l0.length := by simp; omega
    have hel : (l0.eraseIdx i).length = l0.length - (i + 1 - i) := by rw [List.length_eraseIdx_of_lt hi]; omega
    have hheap' : (Go.Sort.putRow (Value.int .i64) (Go.Sort.ahead w n) g 0 (l0.take i ++ l0.drop (i + 1) ++ List.replicate (i + 1 - i) (0 : Int)).toArray).heap[g]? = some (.cells (Go.Sort.putCells (Value.int .i64) 0 (l0.take i ++ l0.drop (i + 1) ++ List.replicate (i + 1 - i) (0 : Int)).toArray cur) 3 (0, 0)) := by
      simp [Go.Sort.putRow, Go.Sort.mapBlock, Go.Sort.ahead, Array.getElem?_modify, hheap, Go.Sort.onCells]
    refine ⟨_, rfl, row_shutD hel.symm hok hbase hheap' (by omega) hcap (by simp [Go.Sort.putCells, hcur]) ?_, rfl, ⟨rfl, rfl, rfl, ?_, fun k hk hne => ?_⟩⟩
    · apply List.ext_getElem?
      intro j
      rw [List.getElem?_take, List.getElem?_map]
      by_cases hj : j < (l0.eraseIdx i).length
      · rw [if_pos hj]
        have hjc : j < cur.size := by omega
        have hj2 : j < (l0.take i ++ l0.drop (i + 1) ++ List.replicate (i + 1 - i) (0 : Int)).length := by omega
        have he : (l0.take i ++ l0.drop (i + 1) ++ List.replicate (i + 1 - i) (0 : Int))[j]? = (l0.eraseIdx i)[j]? := by
          rw [List.getElem?_append_left (by simp; omega), List.eraseIdx_eq_take_drop_succ]
        have hv : (Go.Sort.putCells (Value.int .i64) 0 (l0.take i ++ l0.drop (i + 1) ++ List.replicate (i + 1 - i) (0 : Int)).toArray cur).toList[j]? = some (.int .i64 (l0.take i ++ l0.drop (i + 1) ++ List.replicate (i + 1 - i) (0 : Int))[j]) := by
          generalize (l0.take i ++ l0.drop (i + 1) ++ List.replicate (i + 1 - i) (0 : Int)) = q at hj2 ⊢
          simp [Go.Sort.putCells, hjc, hj2, List.getElem?_eq_getElem hj2]
        rw [hv, ← he, List.getElem?_eq_getElem hj2]; rfl
      · rw [if_neg hj, List.getElem?_eq_none (by omega)]; rfl
    · simp [Go.Sort.putRow, Go.Sort.mapBlock, Go.Sort.ahead]
    · have hkg : g ≠ k := fun e => hne (by rw [← e]; rfl)
      simp [Go.Sort.putRow, Go.Sort.mapBlock, Go.Sort.ahead, Array.getElem?_modify, hkg]

/-! ### impl_OrderBar: function 44 -/
def partX (s t : Int) : Bool := (Go.bits .andNot .i64 s t) == 0
/-- Is no other one of a list part of a set? -/
def minX (L : List Int) (s : Int) : Bool := !(L.any fun t => !(t == s) && partX t s)
/-- The sets in order: each time the first one of those that are left. -/
def ordX : Nat → List Int → List Int → Option (List Int)
  | 0, L, out => if L = [] then some out else none
  | c + 1, L, out => if L = [] then some out else if L.findIdx (minX L) < L.length then ordX c (L.eraseIdx (L.findIdx (minX L))) (out ++ [L.getD (L.findIdx (minX L)) 0]) else none
def impl_OrderBar.f (k : Nat) (l0 : List Int) : Option (List Int × Bool) := if isBar l0 = true then ((impl_twice.f k l0).bind fun t => if t = true then some ([], false) else (ordX l0.length l0 []).bind fun o => some (o, true)) else some ([], false)
theorem impl_OrderBar.mono : ∀ a0 k, LeO (impl_OrderBar.f k a0) (impl_OrderBar.f (k + 1) a0) := by
  intro a0 k
  unfold impl_OrderBar.f
  refine LeO.ite ?_ (LeO.refl _)
  exact LeO.bind (impl_twice.mono _ _) (fun _ => LeO.refl _)
set_option maxHeartbeats 1000000 in
theorem impl_OrderBar_1_1.calls (t s : Int) (q : Nat) (w : World) (h1 : w.cell? ⟨q, 0, none⟩ = some (.int .i64 s)) :
    Calls Try.prog 72 #[.int .i64 t, .pointer (some ⟨q, 0, none⟩)] w fun e w' => e = .returned (.bool (!(t == s) && partX t s)) ∧ Drawn0 w w' := by
  by_cases h : t = s
  · have hb : (t != s) = false := by simp [h]
    go_enter Try.func72, Try.ntmps72
    go_wp2_with fail
    repeat (go_quiet (fail); try go_wp2_with fail)
    all_goals go_ret
    all_goals exact ⟨by simp [h], by first | exact Drawn0.refl _ | exact ⟨_, rfl⟩⟩
  · have hb : (t != s) = true := by simp [h]
    have hp : impl_part.f t s = some (partX t s) := rfl
    generalize hx : partX t s = x at hp ⊢
    have HP := Aside0.mk hp
    have hn : (!(t == s)) = true := by simp [h]
    rw [hn]
    clear hx hp hn
    go_enter Try.func72, Try.ntmps72
    go_wp2_with (go_at_call 63; refine (impl_part.calls t s x _ HP.out).mono ?_; rintro e w' ⟨rfl, ⟨nd, rfl⟩⟩)
    all_goals go_ret
    all_goals exact ⟨by simp, by first | exact Drawn0.refl _ | exact ⟨_, rfl⟩⟩
set_option maxHeartbeats 2000000 in
theorem impl_OrderBar_1.calls (s : Int) (gL : Nat) (A : Option Addr) (c : Nat) (L : List Int) (w : World) (hL : w.cell? ⟨gL, 0, none⟩ = some (.slice A L.length c)) (hr : Kd.C (Kd.int .i64) w A L.length L) (hc : L.length ≤ c) :
    Calls Try.prog 71 #[.int .i64 s, .pointer (some ⟨gL, 0, none⟩)] w fun e w' => e = .returned (.bool (minX L s)) ∧ Below w.heap.size w w' := by
  have hg : gL < w.heap.size := World.block_lt_of_cell? w _ hL
  have eg : ∀ args w, (callFunc 72 args).run Try.prog w = .ok (.enter 72 args) w := enters_of Try.func72 (by kernel_rfl) rfl
  have hb := below_alloc (Below.refl w.heap.size w) (.cells #[.int .i64 s] 3)
  have hL2 := (hb.cell (p := ⟨gL, 0, none⟩) hg).trans hL
  have hcf := slices_ContainsFunc_int_int.calls (fun t => !(t == s) && partX t s) 72 #[.pointer (some ⟨w.heap.size, 0, none⟩)] (fun W => Drawn0 (w.alloc (.cells #[.int .i64 s] 3)) W) A c L (w.alloc (.cells #[.int .i64 s] 3)) eg
    (Kd.C_alloc hr _) hc (fun W e => e.below) (Drawn0.refl _) (fun W x _ e => (impl_OrderBar_1_1.calls x s w.heap.size W (by obtain ⟨n, rfl⟩ := e.out; simp)).mono fun _ _ ⟨h1, h2⟩ => ⟨h1, by obtain ⟨m, hm⟩ := h2.out; subst hm; exact e.step m⟩)
  unfold minX
  generalize (L.any fun t => !(t == s) && partX t s) = b at hcf ⊢
  have HC := Aside0.mk hcf
  have HB := Aside0.mk hb
  clear hcf hr eg hb hL
  go_enter Try.func71, Try.ntmps71
  go_wp2_with (go_at_call 53; refine HC.out.mono ?_; rintro e w' ⟨rfl, hd⟩; have HD := Aside0.mk hd; clear hd)
  go_ret
  exact ⟨by simp, HB.out.trans (HD.out.below.mono (by simp))⟩
set_option maxHeartbeats 4000000 in
set_option maxRecDepth 100000 in
theorem impl_OrderBar.calls (k : Nat) (A0 : Option Addr) (c0 : Nat) (l0 : List Int) (r1 : List Int) (r2 : Bool) (w : World) (hr0 : Kd.C (Kd.int .i64) w A0 l0.length l0) (hc0 : l0.length ≤ c0) (h : impl_OrderBar.f k l0 = some (r1, r2)) :
    Calls Try.prog 44 #[.slice A0 l0.length c0] w fun e w' => ∃ v0_ : Value, e = .returned (.tuple #[v0_, .bool r2]) ∧ Kd.R (Kd.int .i64) 3 w' w.heap.size (fun _ => True) v0_ r1 ∧ Below w.heap.size w w' := by
  have HR0 := Aside0.mk hr0
  have HC0 := Aside0.mk hc0
  have HB := Aside0.mk (Below.refl w.heap.size w)
  clear hr0 hc0
  unfold impl_OrderBar.f at h
  by_cases hb : isBar l0 = true
  case neg =>
    rw [if_neg hb] at h
    obtain ⟨rfl, rfl⟩ := Prod.mk.inj (Option.some.inj h)
    have HI := Aside0.mk (show impl_IsBar.f l0 = some false from by unfold impl_IsBar.f; rw [show isBar l0 = false by simpa using hb])
    clear h hb
    go_enter Try.func44, Try.ntmps44
    go_wp2_with (go_at_call 21; refine (impl_IsBar.calls A0 c0 l0 false _ HR0.out HC0.out HI.out).mono ?_; rintro e w' ⟨rfl, hd⟩; have HD := Aside0.mk hd; clear hd)
    go_ret2
    exact ⟨_, rfl, Kd.R_nil _ _ _ _ _, HD.out.below⟩
  rw [if_pos hb] at h
  obtain ⟨t, ht, h⟩ := Option.bind_eq_some_iff.1 h
  have HI := Aside0.mk (show impl_IsBar.f l0 = some true from by unfold impl_IsBar.f; rw [hb])
  have HT := Aside0.mk ht
  cases t with
  | true =>
    rw [if_pos rfl] at h
    obtain ⟨rfl, rfl⟩ := Prod.mk.inj (Option.some.inj h)
    clear h hb ht
    go_enter Try.func44, Try.ntmps44
    go_wp2_with (first
      | (go_at_call 21; refine (impl_IsBar.calls A0 c0 l0 true _ HR0.out HC0.out HI.out).mono ?_; rintro e w' ⟨rfl, hd⟩; have HD := Aside0.mk hd.below; clear hd)
      | (go_at_call 62; refine (impl_twice.calls k A0 c0 l0 true _ (Kd.C_below HR0.out HD.out) HC0.out HT.out).mono ?_; rintro e w'' ⟨rfl, hd⟩; have HD2 := Aside0.mk (HD.out.trans (hd.below.mono HD.out.size)); clear hd))
    go_ret2
    exact ⟨_, rfl, Kd.R_nil _ _ _ _ _, HD2.out⟩
  | false =>
    rw [if_neg (by decide)] at h
    obtain ⟨o, ho, h⟩ := Option.bind_eq_some_iff.1 h
    obtain ⟨rfl, rfl⟩ := Prod.mk.inj (Option.some.inj h)
    have HO := Aside0.mk ho
    have h40 : l0.length ≤ 40 := by
      have hb2 := hb
      unfold isBar at hb2
      simp only [Bool.and_eq_true, decide_eq_true_eq] at hb2
      exact hb2.1.2
    have HCL := Aside0.mk (show slices_Clone_int_int.f l0 = some l0 from by unfold slices_Clone_int_int.f; rw [if_pos (by omega)])
    have H40 := Aside0.mk h40
    clear h hb ht ho h40
    go_enter Try.func44, Try.ntmps44
    go_wp2_with (first
      | (go_at_call 21; refine (impl_IsBar.calls A0 c0 l0 true _ HR0.out HC0.out HI.out).mono ?_; rintro e w' ⟨rfl, hd⟩; have HD := Aside0.mk hd.below; clear hd)
      | (go_at_call 62; refine (impl_twice.calls k A0 c0 l0 false _ (Kd.C_below HR0.out HD.out) HC0.out HT.out).mono ?_; rintro e w'' ⟨rfl, hd⟩; have HD2 := Aside0.mk (HD.out.trans (hd.below.mono HD.out.size)); clear hd)
      | (go_at_call 65; refine (slices_Clone_int_int.calls A0 c0 l0 l0 _ (Kd.C_below HR0.out HD2.out) HC0.out HCL.out).mono ?_; rintro e w3 ⟨vL, rfl, hor, hbl⟩; obtain ⟨AL, cL, eL⟩ := Kd.R_slice hor; subst eL; have HOL := Aside0.mk (Kd.R_lower hor HD2.out.size); have HB3 := Aside0.mk (HD2.out.trans (hbl.mono HD2.out.size)); clear hor hbl))
    have hbase3 := HB3.out.size
    have hB4 := below_alloc (below_alloc HB3.out (.cells #[] 3)) (.cells #[.slice AL l0.length cL] 23)
    have hnew : ((w3.alloc (.cells #[] 3)).alloc (.cells #[.slice AL l0.length cL] 23)).heap[w3.heap.size]? = some (.cells #[] 3 (0, 0)) := blk_alloc (blk_new w3 _) _
    have hbox : ((w3.alloc (.cells #[] 3)).alloc (.cells #[.slice AL l0.length cL] 23)).heap[w3.heap.size + 1]? = some (.cells #[.slice AL l0.length cL] 23 (0, 0)) := by
      have h_ := blk_new (w3.alloc (.cells #[] 3)) (.cells #[.slice AL l0.length cL] 23)
      rw [World.size_alloc] at h_
      exact h_
    have hlt : ∀ q, (Value.slice AL l0.length cL).ownBlock = some q → q < w3.heap.size := by
      intro q hq
      obtain ⟨inner, hown⟩ := Kd.R_own HOL.out
      exact own_lt hown q hq
    have hout : Kd.R (Kd.int .i64) 3 ((w3.alloc (.cells #[] 3)).alloc (.cells #[.slice AL l0.length cL] 23)) w.heap.size (fun q => some q ≠ (Value.slice AL l0.length cL).ownBlock) (.slice (some ⟨w3.heap.size, 0, none⟩) 0 0) [] := by
      refine ⟨fun q hq e => ?_, [], ⟨rfl, Or.inr ⟨w3.heap.size, 0, #[], rfl, hbase3, hnew, Nat.le_refl _, by unfold maxLen; omega, rfl, rfl⟩⟩, Reps.none _ _⟩
      have h1 : w3.heap.size = q := by simpa [Value.ownBlock] using hq
      have h2 := hlt q e.symm
      omega
    have hol : Kd.R (Kd.int .i64) 3 ((w3.alloc (.cells #[] 3)).alloc (.cells #[.slice AL l0.length cL] 23)) w.heap.size (fun _ => True) (.slice AL l0.length cL) l0 := Kd.R_alloc (Kd.R_alloc HOL.out _) _
    have h40 := H40.out
    have HH1 := Aside0.mk hB4
    have HH2 := Aside0.mk hbox
    have HH3 := Aside0.mk hout
    have HH4 := Aside0.mk hol
    clear hB4 hbox hout hol hnew hlt hbase3
    go_loopg [5, 6] l0.length (fun gg s5 s6 wx => ∃ (L out : List Int) (AL' : Option Addr) (cL' : Nat), Aside0 (ordX gg L out = some o) ∧ L.length + out.length ≤ 40 ∧ Aside0 (wx.heap[w3.heap.size + 1]? = some (.cells #[.slice AL' L.length cL'] 23 (0, 0))) ∧ Aside0 (Kd.R (Kd.int .i64) 3 wx w.heap.size (fun _ => True) (.slice AL' L.length cL') L) ∧ Aside0 (Kd.R (Kd.int .i64) 3 wx w.heap.size (fun q => some q ≠ (Value.slice AL' L.length cL').ownBlock) s5 out) ∧ Aside0 (Below w.heap.size w wx))
    case atStart => exact ⟨l0, [], AL, cL, HO, by simp; omega, HH2, HH4, HH3, HH1⟩
    case round =>
      obtain ⟨L, out, AL', cL', HX, hlen, BKL, HL, HOUT, HBX⟩ := hrel
      have hcz : wr.cell? ⟨w3.heap.size + 1, 0, none⟩ = some (.slice AL' L.length cL') := (blk_cell BKL.out 0).trans rfl
      have hfz := blk_frozen BKL.out 0
      by_cases hL : L = []
      · subst hL
        have hres : out = o := by
          have h2 := HX.out
          cases gk with
          | zero => rw [ordX, if_pos rfl] at h2; exact Option.some.inj h2
          | succ g => rw [ordX, if_pos rfl] at h2; exact Option.some.inj h2
        subst hres
        go_wp2_with fail
        go_ret2
        exact ⟨_, rfl, Kd.R_mono HOUT.out (fun _ _ => trivial), HBX.out⟩
      · cases gk with
        | zero =>
          have h2 := HX.out
          rw [ordX, if_neg hL] at h2
          cases h2
        | succ g =>
          have h2 := HX.out
          rw [ordX, if_neg hL] at h2
          by_cases hq : L.findIdx (minX L) < L.length
          case neg => rw [if_neg hq] at h2; cases h2
          rw [if_pos hq] at h2
          have hidx : idxF (minX L) L = ((L.findIdx (minX L) : Nat) : Int) := idxF_hit _ _ _ hq (List.findIdx_getElem (w := hq)) (fun j hj hlt => by simpa using List.not_of_lt_findIdx (p := minX L) (xs := L) hlt)
          have hgd : L.getD (L.findIdx (minX L)) 0 = rd L ((L.findIdx (minX L) : Nat) : Int) := by simp [rd]
          rw [hgd] at h2
          have eg : ∀ args w, (callFunc 71 args).run Try.prog w = .ok (.enter 71 args) w := enters_of Try.func71 (by kernel_rfl) rfl
          have hrd := Kd.R_reads' HL.out
          have hif := slices_IndexFunc_int_int.calls (minX L) 71 #[.pointer (some ⟨w3.heap.size + 1, 0, none⟩)] (fun W => Below wr.heap.size wr W) AL' cL' L wr eg hrd.2.2 hrd.2.1 (fun W e => e) (Below.refl _ _)
            (fun W x _ e => (impl_OrderBar_1.calls x (w3.heap.size + 1) AL' cL' L W ((e.cell (p := ⟨w3.heap.size + 1, 0, none⟩) (World.block_lt_of_cell? wr _ hcz)).trans hcz) (Kd.C_below hrd.2.2 e) hrd.2.1).mono fun _ _ ⟨h1, h2⟩ => ⟨h1, e.trans (h2.mono e.size)⟩)
          rw [hidx] at hif
          have hel : (L.eraseIdx (L.findIdx (minX L))).length + 1 = L.length := by rw [List.length_eraseIdx_of_lt hq]; omega
          generalize L.findIdx (minX L) = q at hif h2 hq hel
          have HIF := Aside0.mk hif
          have HX2 := Aside0.mk h2
          have HEL := Aside0.mk hel
          have HLEN := Aside0.mk hlen
          have HQ := Aside0.mk hq
          have p18 : (0 ≤ (q : Int)) = True := eq_true (by omega)
          have q18 : ((q : Int) < (L.length : Int)) = True := eq_true (by omega)
          have hw1 : wrap64 ((q : Int) + 1) = ((q + 1 : Nat) : Int) := by unfold wrap64; omega
          have hpos : decide (0 < L.length) = true := by simp; omega
          have hpos2 : decide (0 < (L.length : Int)) = true := by simp; omega
          clear hif h2 hidx hgd eg hrd hel hq hlen
          go_wp2_with (first
            | (go_at_call 70; refine HIF.out.mono ?_; rintro e w5 ⟨rfl, hb5⟩; have BK5 := Aside0.mk (blk_below BKL.out hb5); have HL5 := Aside0.mk (Kd.R_below HL.out hb5); have HO5 := Aside0.mk (Kd.R_below HOUT.out hb5); have HB5 := Aside0.mk (HBX.out.trans (hb5.mono HBX.out.size)); have hcz5 : w5.cell? ⟨w3.heap.size + 1, 0, none⟩ = some (.slice AL' L.length cL') := (blk_cell BK5.out 0).trans rfl; have hfz5 := blk_frozen BK5.out 0; clear hb5; obtain ⟨ad5, e5, hx5⟩ := Kd.at_int (Kd.R_reads' HL5.out).2.2 (q : Int) (of_eq_true p18) (of_eq_true q18); cases e5; (try simp only [Int.toNat_natCast] at hx5))
            | ((with_reducible refine gate_builtin (b := .append) (xs := #[.tmp 23, .tmp 28]) rfl ?_); at_builtin; refine Kd.R_append (Kd.int .i64) (w0 := w) w.heap.size rfl (.tmp 23) (.tmp 28) 23 3 (.int .i64 0) 8 rfl Try.underlying23 info3 rfl (by decide) (by omega) _ out (rd L (q : Int)) [.int .i64 (rd L (q : Int))] (fun q => some q ≠ (Value.slice (some ad5) L.length cL').ownBlock) (fun _ => False) rfl rfl ?aP (fun _ hk => hk.elim) ?aF ?aO ?aB ?aS ?aL ?_; (case aP => exact rfl); (case aB => exact (by repeat (first | exact HB5.out | apply below_alloc | apply pw_below_drewN | apply below_drew1))); (case aO => exact (by (with_reducible repeat (first | apply Kd.R_alloc | apply Kd.R_drewN | apply Kd.R_drew)); exact HO5.out)); (case aS => exact (below_size (by repeat (first | exact HB5.out | apply below_alloc | apply pw_below_drewN | apply below_drew1)))); (case aL => have := HLEN.out; omega); (case aF => intro k_ hk_ he_; obtain ⟨inner_, hown_⟩ := Kd.R_own HL5.out; have h_ := own_lt hown_ k_ he_.symm; have h2_ : w5.heap.size ≤ k_ := hk_; omega); intro v6 w6 ho6 hb6 hg6 hat6; have HO6 := Aside0.mk ho6; have HB6 := Aside0.mk hb6; have BK6 := Aside0.mk (blk_grown BK5.out hg6 (Kd.R_ne HO5.out BK5.out (by decide))); have HL6 := Aside0.mk (Kd.R_grown (ok := fun q => some q = (Value.slice (some ad5) L.length cL').ownBlock) ⟨fun q hq => hq.symm, HL5.out.2⟩ hg6 (fun q hq he => HO5.out.1 q he.symm hq)); have hcz6 : w6.cell? ⟨w3.heap.size + 1, 0, none⟩ = some (.slice (some ad5) L.length cL') := (blk_cell BK6.out 0).trans rfl; have hfz6 := blk_frozen BK6.out 0; clear ho6 hb6 hg6 hat6)
            | (go_at_call 73; refine (slices_Delete_int_int.calls (.slice (some ad5) L.length cL') L q _ HL6.out HQ.out).mono ?_; rintro e w7 ⟨v7, rfl, hr7, hown7, hg7⟩; obtain ⟨A7, c7, e7⟩ := Kd.R_slice hr7; subst e7; have BK7 := Aside0.mk (blk_grown BK6.out hg7 (Kd.R_ne HL6.out BK6.out (by decide))); have HL7 := Aside0.mk (Kd.R_mono (ok' := fun _ => True) hr7 (fun _ _ => trivial)); have HO7 := Aside0.mk (Kd.R_grown HO6.out hg7 (fun q hq => hq)); have HW7 := Aside0.mk hown7; have HG7 := Aside0.mk hg7; have hcz7 : w7.cell? ⟨w3.heap.size + 1, 0, none⟩ = some (.slice (some ad5) L.length cL') := (blk_cell BK7.out 0).trans rfl; have hfz7 := blk_frozen BK7.out 0; clear hr7 hown7 hg7))
          go_roundg g
          case measure => omega
          case rel =>
            have hB7 : Below w.heap.size w w7 := ⟨HG7.out.os.trans HB6.out.os, HG7.out.tape.trans HB6.out.tape, HG7.out.output.trans HB6.out.output, Nat.le_trans HB6.out.size HG7.out.size, fun q hq => (HG7.out.block q (Nat.lt_of_lt_of_le hq HB6.out.size) (fun e => by
              obtain ⟨inner_, hown_⟩ := Kd.R_own HL6.out
              have h_ := own_base hown_ q e.symm
              omega)).trans (HB6.out.block q hq)⟩
            have hle3 := HB3.out.size
            refine ⟨L.eraseIdx q, out ++ [rd L (q : Int)], A7, c7, HX2, ?_, ⟨blk_put BK7.out 0 _ rfl⟩, ⟨Kd.R_set HL7.out BK7.out (by intro x hx; simp [Kd.int, Kd.scalar] at hx; omega) 0 _⟩, ⟨Kd.R_set (Kd.R_mono HO7.out (fun x hx => by rw [HW7.out]; exact hx)) BK7.out (by intro x hx; simp [Kd.int, Kd.scalar] at hx; omega) 0 _⟩, ⟨below_set hB7 (by omega)⟩⟩
            have h1 := HEL.out
            have h2 := HLEN.out
            simp only [List.length_append, List.length_singleton]
            omega

end Go.Proofs.Ythdgkjnhjihkpaa.Q
