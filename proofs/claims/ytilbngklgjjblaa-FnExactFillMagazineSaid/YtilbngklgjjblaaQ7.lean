/- Contracts of Go functions over this translation: each call returns what the Lean function of the same name gives, and writes into no memory that was there. Written by a program of this claim's author (mp.py) over the kit's print. Conditions: those that each theorem names. -/
import Derived.Test.YtilbngklgjjblaaQ0
import Derived.Test.YtilbngklgjjblaaQ6
namespace Go.Proofs.Ytilbngklgjjblaa.Q
open Go.RowKit Go.Proofs.YtilbngklgjjblaaW.PrintWords Go.Proofs.YtilbngklgjjblaaW.PrintLast Go.Proofs.YtilbngklgjjblaaW.PrintMore
attribute [local go_sem] max2_int min2_int max_two min_two max_three min_three max_four min_four   -- for this text's walks alone
set_option linter.unusedVariables false
set_option linter.unusedSimpArgs false

/-! ### impl_fall: function 77 -/
def impl_fall.l0 : Nat → List Int → Int → List Int → Int → Int → Option (Int)
  | 0, _, _, _, _, _ => none
  | k + 1, x0, x1, x7, x8, x9 => if x9 < x8 then (if 0 ≤ x9 then (if x9 < (x7.length : Int) then ((impl_part.f x1 (rd x7 x9)).bind fun t159 => (if t159 = true then (some x9) else (impl_fall.l0 k x0 x1 x7 x8 (wrap64 (x9 + 1))))) else (none)) else (none)) else (some (x0.length : Int))
def impl_fall.f (k : Nat) (l0 : List Int) (a1 : Int) : Option (Int) := impl_fall.l0 k l0 a1 l0 (l0.length : Int) 0
theorem impl_fall.mono_l : ∀ k, (∀ y0 y1 y2 y3 y4, LeO (impl_fall.l0 k y0 y1 y2 y3 y4) (impl_fall.l0 (k + 1) y0 y1 y2 y3 y4))
  | 0 => fun _ _ _ _ _ r h => by simp [impl_fall.l0] at h
  | k + 1 => by
    have ih0 := impl_fall.mono_l k
    · intro y0 y1 y2 y3 y4
      unfold impl_fall.l0
      repeat' first
      | (with_reducible exact ih0 _ _ _ _ _)
      | (with_reducible exact LeO.refl _)
      | (with_reducible exact LeO.none _)
      | (with_reducible refine LeO.ite ?_ ?_)
      | (with_reducible refine LeO.bind ?_ (fun _ => ?_))
      | exact ih0 _ _ _ _ _
      | exact LeO.none _
      | refine LeO.ite ?_ ?_
      | refine LeO.bind ?_ (fun _ => ?_)
theorem impl_fall.mono : ∀ a0 a1 k, LeO (impl_fall.f k a0 a1) (impl_fall.f (k + 1) a0 a1) := by
  intro a0 a1 k
  have ih0 := impl_fall.mono_l k
  unfold impl_fall.f
  repeat' first
      | (with_reducible exact ih0 _ _ _ _ _)
      | (with_reducible exact LeO.refl _)
      | (with_reducible exact LeO.none _)
      | (with_reducible refine LeO.ite ?_ ?_)
      | (with_reducible refine LeO.bind ?_ (fun _ => ?_))
      | exact ih0 _ _ _ _ _
      | exact LeO.none _
      | refine LeO.ite ?_ ?_
      | refine LeO.bind ?_ (fun _ => ?_)
set_option maxHeartbeats 8000000 in
set_option maxRecDepth 100000 in
theorem impl_fall.calls (k : Nat) (A0 : Option Addr) (c0 : Nat) (l0 : List Int) (a1 : Int) (r : Int) (w : World) (hr0 : Kd.C (Kd.int .i64) w A0 l0.length l0) (hc0 : l0.length ≤ c0) (h : impl_fall.f k l0 a1 = some r) :
    Calls Try.prog 77 #[.slice A0 l0.length c0, .int .i64 a1] w fun e w' => e = .returned (.int .i64 r) ∧ Drawn0 w w' := by
  have HR0 := Aside0.mk hr0
  have HC0 := Aside0.mk hc0
  clear hr0 hc0
  have H : (impl_fall.l0 k l0 a1 l0 (l0.length : Int) 0) = some r := h
  clear h
  have H' := Aside0.mk H
  clear H
  go_enter Try.func77, Try.ntmps77
  go_wp2
  go_loopg [9] k (fun kq v9 w' => ∃ (x9_1 : Int), v9 = .int .i64 x9_1 ∧ Aside0 (impl_fall.l0 kq l0 a1 l0 (l0.length : Int) x9_1 = some r) ∧ Aside0 (kq ≤ k) ∧ Drawn0 w w')
  case atStart => exact ⟨(0), (by first | rfl | (simp; done) | (simp [*]; done)), H', ⟨Nat.le_refl _⟩, by repeat (first | exact Drawn0.refl _ | apply Drawn0.step)⟩
  case round =>
    clear H'
    try clear p2
    obtain ⟨x9_1, rfl, HA, HK1, ⟨m1, rfl⟩⟩ := hrel
    cases gk with
    | zero => exact absurd HA.out (by simp [impl_fall.l0])
    | succ k1 =>
      have H := HA.out
      clear HA
      simp only [impl_fall.l0] at H
      by_cases c3 : x9_1 < (l0.length : Int)
      · rw [if_pos c3] at H
        have c3b0 : decide (x9_1 < (l0.length : Int)) = true := decide_eq_true c3
        clear c3
        by_cases c4 : 0 ≤ x9_1
        · rw [if_pos c4] at H
          have c4b0 : decide (0 ≤ x9_1) = true := decide_eq_true c4
          clear c4
          by_cases c5 : x9_1 < (l0.length : Int)
          · rw [if_pos c5] at H
            have c5b0 : decide (x9_1 < (l0.length : Int)) = true := decide_eq_true c5
            clear c5
            replace H := Option.bind_eq_some_iff.mp H
            obtain ⟨t159, A60, H⟩ := H
            replace H : (if t159 = true then (some x9_1) else (impl_fall.l0 k1 l0 a1 l0 (l0.length : Int) (wrap64 (x9_1 + 1)))) = some r := H
            have A6 := Aside0.mk A60
            clear A60
            by_cases c7 : t159 = true
            · subst c7
              have H1 : (some x9_1) = some r := by rw [if_pos rfl] at H; exact H
              clear H
              have H := H1
              clear H1
              obtain rfl := Option.some.inj H
              have p158 : 0 ≤ (x9_1 : Int) := of_decide_eq_true (by first | (with_reducible assumption) | assumption)
              have q158 : x9_1 < (l0.length : Int) := of_decide_eq_true (by first | (with_reducible assumption) | assumption)
              obtain ⟨ad158, e158, hx158_0⟩ := Kd.at_int HR0.out x9_1 p158 q158
              cases e158
              replace p158 := eq_true p158
              replace q158 := eq_true q158
              go_wp2_with (first | ((with_reducible refine gate_callee (f := 105) rfl ?_); refine goesL_ (some 16) rfl rfl Try.func105 (by kernel_rfl) rfl #[.int .i64 a1, .int .i64 (rd l0 x9_1)] rfl (by (try simp only [List.map_toArray, List.map_cons, List.map_nil]); first | done | rfl | (simp only [List.length_drop, List.length_take]; rfl)) ?_; (with_reducible refine (impl_part.calls a1 (rd l0 x9_1) true _ A6.out).mono ?_); rintro e w' ⟨rfl, ⟨nd, rfl⟩⟩; refine ⟨_, rfl, ?_⟩))
              go_ret
              exact ⟨by first | rfl | (simp only [i64_w, i32_w, wrap64_zero, Int.sub_zero, Int.add_zero, Int.mul_zero, Int.zero_mul]; rfl) | (simp; done) | (simp [*]; done), by repeat (first | exact Drawn0.refl _ | apply Drawn0.step)⟩
            · replace c7 := Bool.eq_false_iff.mpr c7
              subst c7
              have H1 : (impl_fall.l0 k1 l0 a1 l0 (l0.length : Int) (wrap64 (x9_1 + 1))) = some r := by rw [if_neg (show ¬ (false = true) by decide)] at H; exact H
              clear H
              have H := H1
              clear H1
              have H' := Aside0.mk H
              clear H
              have p158 : 0 ≤ (x9_1 : Int) := of_decide_eq_true (by first | (with_reducible assumption) | assumption)
              have q158 : x9_1 < (l0.length : Int) := of_decide_eq_true (by first | (with_reducible assumption) | assumption)
              obtain ⟨ad158, e158, hx158_0⟩ := Kd.at_int HR0.out x9_1 p158 q158
              cases e158
              replace p158 := eq_true p158
              replace q158 := eq_true q158
              go_wp2_with (first | ((with_reducible refine gate_callee (f := 105) rfl ?_); refine goesL_ (some 16) rfl rfl Try.func105 (by kernel_rfl) rfl #[.int .i64 a1, .int .i64 (rd l0 x9_1)] rfl (by (try simp only [List.map_toArray, List.map_cons, List.map_nil]); first | done | rfl | (simp only [List.length_drop, List.length_take]; rfl)) ?_; (with_reducible refine (impl_part.calls a1 (rd l0 x9_1) false _ A6.out).mono ?_); rintro e w' ⟨rfl, ⟨nd, rfl⟩⟩; refine ⟨_, rfl, ?_⟩))
              go_roundg k1
              case measure => have := HK1.out; omega
              case rel => exact ⟨(wrap64 (x9_1 + 1)), (by first | rfl | (simp; done) | (simp [*]; done)), H', ⟨by have := HK1.out; omega⟩, by repeat (first | exact Drawn0.refl _ | apply Drawn0.step)⟩
          · rw [if_neg c5] at H
            exact absurd H (by simp)
        · rw [if_neg c4] at H
          exact absurd H (by simp)
      · rw [if_neg c3] at H
        have c3b0 : decide (x9_1 < (l0.length : Int)) = false := decide_eq_false c3
        clear c3
        obtain rfl := Option.some.inj H
        go_wp2
        go_ret
        exact ⟨by first | rfl | (simp only [i64_w, i32_w, wrap64_zero, Int.sub_zero, Int.add_zero, Int.mul_zero, Int.zero_mul]; rfl) | (simp; done) | (simp [*]; done), by repeat (first | exact Drawn0.refl _ | apply Drawn0.step)⟩

/-! ### impl_isSet: function 79 -/
def impl_isSet.f (a0 : Int) : Option (Bool) := if a0 ≥ 0 then (some (decide (a0 ≤ 127))) else (some false)
set_option maxHeartbeats 8000000 in
set_option maxRecDepth 100000 in
theorem impl_isSet.calls (a0 : Int) (r : Bool) (w : World) (h : impl_isSet.f a0 = some r) :
    Calls Try.prog 79 #[.int .i64 a0] w fun e w' => e = .returned (.bool r) ∧ Drawn0 w w' := by
  have H : (if a0 ≥ 0 then (some (decide (a0 ≤ 127))) else (some false)) = some r := h
  clear h
  by_cases c2 : a0 ≥ 0
  · rw [if_pos c2] at H
    have c2b0 : decide (0 ≤ a0) = true := decide_eq_true c2
    clear c2
    obtain rfl := Option.some.inj H
    go_enter Try.func79, Try.ntmps79
    go_wp2
    go_ret
    exact ⟨by first | rfl | (simp only [i64_w, i32_w, wrap64_zero, Int.sub_zero, Int.add_zero, Int.mul_zero, Int.zero_mul]; rfl) | (simp; done) | (simp [*]; done), by repeat (first | exact Drawn0.refl _ | apply Drawn0.step)⟩
  · rw [if_neg c2] at H
    have c2b0 : decide (0 ≤ a0) = false := decide_eq_false c2
    clear c2
    obtain rfl := Option.some.inj H
    go_enter Try.func79, Try.ntmps79
    go_wp2
    go_ret
    exact ⟨by first | rfl | (simp only [i64_w, i32_w, wrap64_zero, Int.sub_zero, Int.add_zero, Int.mul_zero, Int.zero_mul]; rfl) | (simp; done) | (simp [*]; done), by repeat (first | exact Drawn0.refl _ | apply Drawn0.step)⟩

-- NOT PRINTED: function 107 (impl_IsBar_1)

/-! ### impl_IsBar: function 78 -/
def isBar (l : List Int) : Bool := decide (1 ≤ l.length) && decide (l.length ≤ 40) && l.all (fun s => decide (0 ≤ s) && decide (s ≤ 127))
def impl_IsBar.f (l0 : List Int) : Option Bool := some (isBar l0)
theorem impl_IsBar_1.calls (x : Int) (w : World) : Calls Try.prog 107 #[.int .i64 x] w fun e w' => e = .returned (.bool (!(decide (0 ≤ x) && decide (x ≤ 127)))) ∧ w = w' := by
  by_cases h1 : 0 ≤ x
  · by_cases h2 : x ≤ 127
    · go_enter Try.func107, Try.ntmps107
      go_wp2
      go_ret
      exact ⟨by simp [h1, h2], rfl⟩
    · go_enter Try.func107, Try.ntmps107
      go_wp2
      go_ret
      exact ⟨by simp [h1, h2], rfl⟩
  · go_enter Try.func107, Try.ntmps107
    go_wp2
    go_ret
    exact ⟨by simp [h1], rfl⟩
set_option maxHeartbeats 2000000 in
theorem impl_IsBar.calls (A0 : Option Addr) (c0 : Nat) (l0 : List Int) (r : Bool) (w : World) (hr0 : Kd.C (Kd.int .i64) w A0 l0.length l0) (hc0 : l0.length ≤ c0) (h : impl_IsBar.f l0 = some r) :
    Calls Try.prog 78 #[.slice A0 l0.length c0] w fun e w' => e = .returned (.bool r) ∧ Drawn0 w w' := by
  obtain rfl := Option.some.inj h
  clear h
  have eg : ∀ args w, (callFunc 107 args).run Try.prog w = .ok (.enter 107 args) w := enters_of Try.func107 (by kernel_rfl) rfl
  have hc := slices_ContainsFunc_int_int.calls (fun s => !(decide (0 ≤ s) && decide (s ≤ 127))) 107 #[] (fun W => w = W) A0 c0 l0 w eg hr0 hc0 (fun W e => e ▸ Below.refl _ _) rfl
    (fun W x _ e => (impl_IsBar_1.calls x W).mono fun _ _ ⟨h1, h2⟩ => ⟨h1, e.trans h2⟩)
  have HE : (l0.any fun s => !(decide (0 ≤ s) && decide (s ≤ 127))) = !(l0.all (fun s => decide (0 ≤ s) && decide (s ≤ 127))) := by simp [List.any_eq_not_all_not]
  rw [HE] at hc
  unfold isBar
  clear HE eg
  generalize (l0.all fun s => decide (0 ≤ s) && decide (s ≤ 127)) = b at hc ⊢
  have HC := Aside0.mk hc
  clear hc hr0
  by_cases h1 : 1 ≤ l0.length
  · by_cases h2 : l0.length ≤ 40
    · have g1 : decide ((l0.length : Int) ≥ 1) = true := by simp; omega
      have g2 : decide ((l0.length : Int) ≤ 40) = true := by simp; omega
      go_enter Try.func78, Try.ntmps78
      go_wp2_with (go_at_call 106; refine HC.out.mono ?_; rintro e w' ⟨rfl, rfl⟩)
      go_ret
      exact ⟨by simp [h1, h2], Drawn0.refl _⟩
    · have g1 : decide ((l0.length : Int) ≥ 1) = true := by simp; omega
      have g2 : decide ((l0.length : Int) ≤ 40) = false := by simp; omega
      go_enter Try.func78, Try.ntmps78
      go_wp2_with fail
      go_ret
      exact ⟨by simp [h2], Drawn0.refl _⟩
  · have g1 : decide ((l0.length : Int) ≥ 1) = false := by simp; omega
    go_enter Try.func78, Try.ntmps78
    go_wp2_with fail
    go_ret
    exact ⟨by simp [h1], Drawn0.refl _⟩

/-! ### impl_SortsAll: function 85 -/
def impl_SortsAll.l0 : Nat → List Int → List Int → Int → Int → Option (Bool)
  | 0, _, _, _, _ => none
  | k + 1, x0, x8, x9, x10 => if x10 < x9 then (if 0 ≤ x10 then (if x10 < (x8.length : Int) then ((impl_fall.f k x0 (rd x8 x10)).bind fun t162 => (if t162 = x10 then (impl_SortsAll.l0 k x0 x8 x9 (wrap64 (x10 + 1))) else (some false))) else (none)) else (none)) else (some true)
def impl_SortsAll.f (k : Nat) (l0 : List Int) : Option (Bool) := (impl_IsBar.f l0).bind fun t160 => (if t160 = true then (impl_SortsAll.l0 k l0 l0 (l0.length : Int) 0) else (some false))
theorem impl_SortsAll.mono_l : ∀ k, (∀ y0 y1 y2 y3, LeO (impl_SortsAll.l0 k y0 y1 y2 y3) (impl_SortsAll.l0 (k + 1) y0 y1 y2 y3))
  | 0 => fun _ _ _ _ r h => by simp [impl_SortsAll.l0] at h
  | k + 1 => by
    have ih0 := impl_SortsAll.mono_l k
    · intro y0 y1 y2 y3
      unfold impl_SortsAll.l0
      repeat' first
      | (with_reducible exact ih0 _ _ _ _)
      | (with_reducible exact impl_fall.mono _ _ _)
      | (with_reducible exact LeO.refl _)
      | (with_reducible exact LeO.none _)
      | (with_reducible refine LeO.ite ?_ ?_)
      | (with_reducible refine LeO.bind ?_ (fun _ => ?_))
      | exact ih0 _ _ _ _
      | exact impl_fall.mono _ _ _
      | exact LeO.none _
      | refine LeO.ite ?_ ?_
      | refine LeO.bind ?_ (fun _ => ?_)
theorem impl_SortsAll.mono : ∀ a0 k, LeO (impl_SortsAll.f k a0) (impl_SortsAll.f (k + 1) a0) := by
  intro a0 k
  have ih0 := impl_SortsAll.mono_l k
  unfold impl_SortsAll.f
  repeat' first
      | (with_reducible exact ih0 _ _ _ _)
      | (with_reducible exact impl_fall.mono _ _ _)
      | (with_reducible exact LeO.refl _)
      | (with_reducible exact LeO.none _)
      | (with_reducible refine LeO.ite ?_ ?_)
      | (with_reducible refine LeO.bind ?_ (fun _ => ?_))
      | exact ih0 _ _ _ _
      | exact impl_fall.mono _ _ _
      | exact LeO.none _
      | refine LeO.ite ?_ ?_
      | refine LeO.bind ?_ (fun _ => ?_)
set_option maxHeartbeats 8000000 in
set_option maxRecDepth 100000 in
theorem impl_SortsAll.calls (k : Nat) (A0 : Option Addr) (c0 : Nat) (l0 : List Int) (r : Bool) (w : World) (hr0 : Kd.C (Kd.int .i64) w A0 l0.length l0) (hc0 : l0.length ≤ c0) (h : impl_SortsAll.f k l0 = some r) :
    Calls Try.prog 85 #[.slice A0 l0.length c0] w fun e w' => e = .returned (.bool r) ∧ Drawn0 w w' := by
  have HR0 := Aside0.mk hr0
  have HC0 := Aside0.mk hc0
  clear hr0 hc0
  have H : ((impl_IsBar.f l0).bind fun t160 => (if t160 = true then (impl_SortsAll.l0 k l0 l0 (l0.length : Int) 0) else (some false))) = some r := h
  clear h
  replace H := Option.bind_eq_some_iff.mp H
  obtain ⟨t160, A20, H⟩ := H
  replace H : (if t160 = true then (impl_SortsAll.l0 k l0 l0 (l0.length : Int) 0) else (some false)) = some r := H
  have A2 := Aside0.mk A20
  clear A20
  by_cases c3 : t160 = true
  · subst c3
    have H1 : (impl_SortsAll.l0 k l0 l0 (l0.length : Int) 0) = some r := by rw [if_pos rfl] at H; exact H
    clear H
    have H := H1
    clear H1
    have H' := Aside0.mk H
    clear H
    go_enter Try.func85, Try.ntmps85
    go_wp2_with (first | ((with_reducible refine gate_callee (f := 78) rfl ?_); refine goesL_ (some 6) rfl rfl Try.func78 (by kernel_rfl) rfl #[.slice A0 l0.length c0] rfl (by (try simp only [List.map_toArray, List.map_cons, List.map_nil]); first | done | rfl | (simp only [List.length_drop, List.length_take]; rfl)) ?_; (with_reducible refine (impl_IsBar.calls _ _ l0 true _ ?side1 ?side2 A2.out).mono ?_); (case side1 => repeat (first | exact HR0.out | (with_reducible refine Kd.C_alloc ?_ _) | (with_reducible refine Kd.C_drewN ?_ _) | (with_reducible refine Kd.C_drew ?_))); (case side2 => exact HC0.out); rintro e w' ⟨rfl, ⟨nd, rfl⟩⟩; refine ⟨_, rfl, ?_⟩))
    go_loopg [10] k (fun kq v10 w' => ∃ (x10_1 : Int), v10 = .int .i64 x10_1 ∧ Aside0 (impl_SortsAll.l0 kq l0 l0 (l0.length : Int) x10_1 = some r) ∧ Aside0 (kq ≤ k) ∧ Drawn0 w w')
    case atStart => exact ⟨(0), (by first | rfl | (simp; done) | (simp [*]; done)), H', ⟨Nat.le_refl _⟩, by repeat (first | exact Drawn0.refl _ | apply Drawn0.step)⟩
    case round =>
      clear H'
      try clear p2
      try clear c3
      obtain ⟨x10_1, rfl, HA, HK1, ⟨m1, rfl⟩⟩ := hrel
      cases gk with
      | zero => exact absurd HA.out (by simp [impl_SortsAll.l0])
      | succ k1 =>
        have H := HA.out
        clear HA
        simp only [impl_SortsAll.l0] at H
        by_cases c4 : x10_1 < (l0.length : Int)
        · rw [if_pos c4] at H
          have c4b0 : decide (x10_1 < (l0.length : Int)) = true := decide_eq_true c4
          clear c4
          by_cases c5 : 0 ≤ x10_1
          · rw [if_pos c5] at H
            have c5b0 : decide (0 ≤ x10_1) = true := decide_eq_true c5
            clear c5
            by_cases c6 : x10_1 < (l0.length : Int)
            · rw [if_pos c6] at H
              have c6b0 : decide (x10_1 < (l0.length : Int)) = true := decide_eq_true c6
              clear c6
              replace H := Option.bind_eq_some_iff.mp H
              obtain ⟨t162, A70, H⟩ := H
              replace H : (if t162 = x10_1 then (impl_SortsAll.l0 k1 l0 l0 (l0.length : Int) (wrap64 (x10_1 + 1))) else (some false)) = some r := H
              have A7 := Aside0.mk A70
              clear A70
              by_cases c8 : t162 = x10_1
              · rw [if_pos c8] at H
                have c8b0 : (t162 == x10_1) = true := beq_iff_eq.mpr c8
                have c8b1 : (t162 != x10_1) = false := bne_eq_false_iff_eq.mpr c8
                clear c8
                have H' := Aside0.mk H
                clear H
                have p161 : 0 ≤ (x10_1 : Int) := of_decide_eq_true (by first | (with_reducible assumption) | assumption)
                have q161 : x10_1 < (l0.length : Int) := of_decide_eq_true (by first | (with_reducible assumption) | assumption)
                obtain ⟨ad161, e161, hx161_0⟩ := Kd.at_int HR0.out x10_1 p161 q161
                cases e161
                replace p161 := eq_true p161
                replace q161 := eq_true q161
                go_wp2_with (first | ((with_reducible refine gate_callee (f := 77) rfl ?_); refine goesL_ (some 17) rfl rfl Try.func77 (by kernel_rfl) rfl #[.slice (some ad161) l0.length c0, .int .i64 (rd l0 x10_1)] rfl (by (try simp only [List.map_toArray, List.map_cons, List.map_nil]); first | done | rfl | (simp only [List.length_drop, List.length_take]; rfl)) ?_; (with_reducible refine (impl_fall.calls k1 _ _ l0 (rd l0 x10_1) t162 _ ?side1 ?side2 A7.out).mono ?_); (case side1 => repeat (first | exact HR0.out | (with_reducible refine Kd.C_alloc ?_ _) | (with_reducible refine Kd.C_drewN ?_ _) | (with_reducible refine Kd.C_drew ?_))); (case side2 => exact HC0.out); rintro e w' ⟨rfl, ⟨nd, rfl⟩⟩; refine ⟨_, rfl, ?_⟩))
                go_roundg k1
                case measure => have := HK1.out; omega
                case rel => exact ⟨(wrap64 (x10_1 + 1)), (by first | rfl | (simp; done) | (simp [*]; done)), H', ⟨by have := HK1.out; omega⟩, by repeat (first | exact Drawn0.refl _ | apply Drawn0.step)⟩
              · rw [if_neg c8] at H
                have c8b0 : (t162 == x10_1) = false := beq_eq_false_iff_ne.mpr c8
                have c8b1 : (t162 != x10_1) = true := bne_iff_ne.mpr c8
                obtain rfl := Option.some.inj H
                have p161 : 0 ≤ (x10_1 : Int) := of_decide_eq_true (by first | (with_reducible assumption) | assumption)
                have q161 : x10_1 < (l0.length : Int) := of_decide_eq_true (by first | (with_reducible assumption) | assumption)
                obtain ⟨ad161, e161, hx161_0⟩ := Kd.at_int HR0.out x10_1 p161 q161
                cases e161
                replace p161 := eq_true p161
                replace q161 := eq_true q161
                go_wp2_with (first | ((with_reducible refine gate_callee (f := 77) rfl ?_); refine goesL_ (some 17) rfl rfl Try.func77 (by kernel_rfl) rfl #[.slice (some ad161) l0.length c0, .int .i64 (rd l0 x10_1)] rfl (by (try simp only [List.map_toArray, List.map_cons, List.map_nil]); first | done | rfl | (simp only [List.length_drop, List.length_take]; rfl)) ?_; (with_reducible refine (impl_fall.calls k1 _ _ l0 (rd l0 x10_1) t162 _ ?side1 ?side2 A7.out).mono ?_); (case side1 => repeat (first | exact HR0.out | (with_reducible refine Kd.C_alloc ?_ _) | (with_reducible refine Kd.C_drewN ?_ _) | (with_reducible refine Kd.C_drew ?_))); (case side2 => exact HC0.out); rintro e w' ⟨rfl, ⟨nd, rfl⟩⟩; refine ⟨_, rfl, ?_⟩))
                go_ret
                exact ⟨by first | rfl | (simp only [i64_w, i32_w, wrap64_zero, Int.sub_zero, Int.add_zero, Int.mul_zero, Int.zero_mul]; rfl) | (simp; done) | (simp [*]; done), by repeat (first | exact Drawn0.refl _ | apply Drawn0.step)⟩
            · rw [if_neg c6] at H
              exact absurd H (by simp)
          · rw [if_neg c5] at H
            exact absurd H (by simp)
        · rw [if_neg c4] at H
          have c4b0 : decide (x10_1 < (l0.length : Int)) = false := decide_eq_false c4
          clear c4
          obtain rfl := Option.some.inj H
          go_wp2
          go_ret
          exact ⟨by first | rfl | (simp only [i64_w, i32_w, wrap64_zero, Int.sub_zero, Int.add_zero, Int.mul_zero, Int.zero_mul]; rfl) | (simp; done) | (simp [*]; done), by repeat (first | exact Drawn0.refl _ | apply Drawn0.step)⟩
  · replace c3 := Bool.eq_false_iff.mpr c3
    subst c3
    have H1 : (some false) = some r := by rw [if_neg (show ¬ (false = true) by decide)] at H; exact H
    clear H
    have H := H1
    clear H1
    obtain rfl := Option.some.inj H
    go_enter Try.func85, Try.ntmps85
    go_wp2_with (first | ((with_reducible refine gate_callee (f := 78) rfl ?_); refine goesL_ (some 6) rfl rfl Try.func78 (by kernel_rfl) rfl #[.slice A0 l0.length c0] rfl (by (try simp only [List.map_toArray, List.map_cons, List.map_nil]); first | done | rfl | (simp only [List.length_drop, List.length_take]; rfl)) ?_; (with_reducible refine (impl_IsBar.calls _ _ l0 false _ ?side1 ?side2 A2.out).mono ?_); (case side1 => repeat (first | exact HR0.out | (with_reducible refine Kd.C_alloc ?_ _) | (with_reducible refine Kd.C_drewN ?_ _) | (with_reducible refine Kd.C_drew ?_))); (case side2 => exact HC0.out); rintro e w' ⟨rfl, ⟨nd, rfl⟩⟩; refine ⟨_, rfl, ?_⟩))
    go_ret
    exact ⟨by first | rfl | (simp only [i64_w, i32_w, wrap64_zero, Int.sub_zero, Int.add_zero, Int.mul_zero, Int.zero_mul]; rfl) | (simp; done) | (simp [*]; done), by repeat (first | exact Drawn0.refl _ | apply Drawn0.step)⟩

/-! ### impl_FontOk: function 31 -/
/-- Are the bytes behind some others letters, each once? -/
def letA : List UInt8 → List UInt8 → Bool
  | _, [] => true
  | d, c :: r => decide (33 ≤ (c.toNat : Int)) && decide ((c.toNat : Int) ≤ 126) && !d.contains c && letA (d ++ [c]) r
def impl_FontOk.f (k : Nat) (a0_0 : ByteArray) (l0_1 l0_2 : List Int) : Option Bool :=
  if 1 ≤ a0_0.size then (if a0_0.size ≤ 40 then (if l0_1.length = a0_0.size then (if l0_2.length = a0_0.size then (if letA [] a0_0.data.toList = true then (if between l0_1 1 60 = true then impl_SortsAll.f k l0_2 else some false) else some false) else some false) else some false) else some false) else some false
theorem impl_FontOk.mono : ∀ a0 a1 a2 k, LeO (impl_FontOk.f k a0 a1 a2) (impl_FontOk.f (k + 1) a0 a1 a2) := by
  intro a0 a1 a2 k
  unfold impl_FontOk.f
  repeat' first
    | (with_reducible exact impl_SortsAll.mono _ _)
    | (with_reducible exact LeO.refl _)
    | (with_reducible refine LeO.ite ?_ ?_)
theorem letA_step (a : ByteArray) (i : Nat) (hi : i < a.size) (x : UInt8) (hx : a.data.toList[i]? = some x) : letA (a.data.toList.take i) (a.data.toList.drop i) = (decide (33 ≤ (x.toNat : Int)) && decide ((x.toNat : Int) ≤ 126) && !(a.data.toList.take i).contains x && letA (a.data.toList.take (i + 1)) (a.data.toList.drop (i + 1))) := by
  obtain ⟨h1, h2⟩ := List.getElem?_eq_some_iff.1 hx
  rw [List.drop_eq_getElem_cons h1, h2, letA, List.take_succ_eq_append_getElem h1, h2]
set_option maxHeartbeats 4000000 in
set_option maxRecDepth 100000 in
theorem impl_FontOk.calls (k : Nat) (a0_0 : ByteArray) (A0_1 : Option Addr) (c0_1 : Nat) (l0_1 : List Int) (A0_2 : Option Addr) (c0_2 : Nat) (l0_2 : List Int) (r : Bool) (w : World)
    (hr0_1 : Kd.C (Kd.int .i64) w A0_1 l0_1.length l0_1) (hc0_1 : l0_1.length ≤ c0_1) (hr0_2 : Kd.C (Kd.int .i64) w A0_2 l0_2.length l0_2) (hc0_2 : l0_2.length ≤ c0_2)
    (h : impl_FontOk.f k a0_0 l0_1 l0_2 = some r) :
    Calls Try.prog 31 #[.agg #[.string a0_0, .slice A0_1 l0_1.length c0_1, .slice A0_2 l0_2.length c0_2]] w fun e w' => e = .returned (.bool r) ∧ Below w.heap.size w w' := by
  have hu25 := Try.underlying25
  have HR1 := Aside0.mk hr0_1
  have HR2 := Aside0.mk hr0_2
  have HC1 := Aside0.mk hc0_1
  have HC2 := Aside0.mk hc0_2
  have HB := Aside0.mk (Below.refl w.heap.size w)
  clear hr0_1 hc0_1 hr0_2 hc0_2
  by_cases c1 : 1 ≤ a0_0.size
  case neg =>
    unfold impl_FontOk.f at h
    rw [if_neg c1] at h
    obtain rfl := Option.some.inj h
    clear h
    have g1 : decide ((a0_0.size : Int) < 1) = true := by simp; omega
    go_enter Try.func31, Try.ntmps31
    go_wp2_with fail
    go_ret
    exact ⟨rfl, by first | exact HB.out | exact below_alloc HB.out _⟩
  by_cases c2 : a0_0.size ≤ 40
  case neg =>
    unfold impl_FontOk.f at h
    rw [if_pos c1, if_neg c2] at h
    obtain rfl := Option.some.inj h
    clear h
    have g1 : decide ((a0_0.size : Int) < 1) = false := by simp; omega
    have g2 : decide ((40 : Int) < (a0_0.size : Int)) = true := by simp; omega
    go_enter Try.func31, Try.ntmps31
    go_wp2_with fail
    go_ret
    exact ⟨rfl, by first | exact HB.out | exact below_alloc HB.out _⟩
  by_cases c3 : l0_1.length = a0_0.size
  case neg =>
    unfold impl_FontOk.f at h
    rw [if_pos c1, if_pos c2, if_neg c3] at h
    obtain rfl := Option.some.inj h
    clear h
    have g1 : decide ((a0_0.size : Int) < 1) = false := by simp; omega
    have g2 : decide ((40 : Int) < (a0_0.size : Int)) = false := by simp; omega
    have g3 : ¬ ((l0_1.length : Int) = (a0_0.size : Int)) := by omega
    go_enter Try.func31, Try.ntmps31
    go_wp2_with fail
    go_ret
    exact ⟨rfl, by first | exact HB.out | exact below_alloc HB.out _⟩
  by_cases c4 : l0_2.length = a0_0.size
  case neg =>
    unfold impl_FontOk.f at h
    rw [if_pos c1, if_pos c2, if_pos c3, if_neg c4] at h
    obtain rfl := Option.some.inj h
    clear h
    have g1 : decide ((a0_0.size : Int) < 1) = false := by simp; omega
    have g2 : decide ((40 : Int) < (a0_0.size : Int)) = false := by simp; omega
    have g3 : (l0_1.length : Int) = (a0_0.size : Int) := by omega
    have g4 : ¬ ((l0_2.length : Int) = (a0_0.size : Int)) := by omega
    go_enter Try.func31, Try.ntmps31
    go_wp2_with fail
    go_ret
    exact ⟨rfl, by first | exact HB.out | exact below_alloc HB.out _⟩
  unfold impl_FontOk.f at h
  rw [if_pos c1, if_pos c2, if_pos c3, if_pos c4] at h
  have HH := Aside0.mk h
  clear h
  have g1 : decide ((a0_0.size : Int) < 1) = false := by simp; omega
  have g2 : decide ((40 : Int) < (a0_0.size : Int)) = false := by simp; omega
  have g3 : (l0_1.length : Int) = (a0_0.size : Int) := by omega
  have g4 : (l0_2.length : Int) = (a0_0.size : Int) := by omega
  have C3 := Aside0.mk c3
  have C4 := Aside0.mk c4
  clear c3 c4
  go_enter Try.func31, Try.ntmps31
  go_wp2_with fail
  rw [show Try.zeroCells89 = Lib.setCells (a0_0.data.toList.take 0) from by rw [List.take_zero]; kernel_rfl]
  go_loopg [4, 5, 37] a0_0.size (fun gg s4 s5 s37 wx => ∃ j : Int, 0 ≤ j ∧ j + gg = a0_0.size ∧ s37 = .int .i64 j ∧ Aside0 (letA [] a0_0.data.toList = letA (a0_0.data.toList.take j.toNat) (a0_0.data.toList.drop j.toNat)) ∧ Aside0 (wx.heap[w.heap.size]? = some (.cells #[.string a0_0, .slice A0_1 l0_1.length c0_1, .slice A0_2 l0_2.length c0_2] 25 (0, 0))) ∧ Aside0 (wx.heap[w.heap.size + 1]? = some (.cells (Lib.setCells (a0_0.data.toList.take j.toNat)) 89 (0, 0))) ∧ Aside0 (Below w.heap.size w wx))
  case atStart => exact ⟨0, by omega, by omega, rfl, ⟨by simp⟩, ⟨by first | exact blk_alloc (blk_new w _) _ | (rw [C3.out, C4.out]; exact blk_alloc (blk_new w _) _)⟩, ⟨by have h_ := blk_new (w.alloc (.cells #[.string a0_0, .slice A0_1 l0_1.length c0_1, .slice A0_2 l0_2.length c0_2] 25)) (.cells (Lib.setCells (a0_0.data.toList.take 0)) 89); rw [World.size_alloc] at h_; exact h_⟩, ⟨below_alloc (below_alloc HB.out _) _⟩⟩
  case round =>
    obtain ⟨j, hj0, hjg, rfl, HL, BK0, BK1, HBX⟩ := hrel
    have hcz_0 : wr.cell? ⟨w.heap.size, 0, none⟩ = some (.string a0_0) := (blk_cell BK0.out 0).trans rfl
    have hcz_1 : wr.cell? ⟨w.heap.size, 1, none⟩ = some (.slice A0_1 l0_1.length c0_1) := (blk_cell BK0.out 1).trans rfl
    have hcz_2 : wr.cell? ⟨w.heap.size, 2, none⟩ = some (.slice A0_2 l0_2.length c0_2) := (blk_cell BK0.out 2).trans rfl
    have hfz_0 := blk_frozen BK0.out 0
    have hfz_1 := blk_frozen BK0.out 1
    have hfz_2 := blk_frozen BK0.out 2
    cases gk with
    | zero =>
      have hje : j = (a0_0.size : Int) := by omega
      subst hje
      clear hj0 hjg
      have c14b0 : decide ((a0_0.size : Int) < (a0_0.size : Int)) = false := by simp
      have HE : (if between l0_1 1 60 = true then impl_SortsAll.f k l0_2 else some false) = some r := by
        have h2 := HH.out
        rw [HL.out, Int.toNat_natCast, List.drop_eq_nil_of_le (by rw [← Lib.size_eq]; exact Nat.le_refl _), letA, if_pos rfl] at h2
        exact h2
      have HE' := Aside0.mk HE
      clear HE
      by_cases hbt : between l0_1 1 60 = true
      · have HBT := Aside0.mk hbt
        have hs : impl_SortsAll.f k l0_2 = some r := by
          have h2 := HE'.out
          rw [if_pos hbt] at h2
          exact h2
        have HS := Aside0.mk hs
        clear hbt hs
        go_wp2_with (first
          | (go_at_call 84; (first | rw [← C3.out] | skip); refine (impl_between.calls A0_1 c0_1 l0_1 1 60 true _ (Kd.C_below HR1.out HBX.out) HC1.out (by unfold impl_between.f; rw [HBT.out])).mono ?_; rintro e w' ⟨rfl, hb1⟩; have hcy_2 : w'.cell? ⟨w.heap.size, 2, none⟩ = some (.slice A0_2 l0_2.length c0_2) := (blk_cell (blk_below BK0.out hb1) 2).trans rfl; have hfy_2 := blk_frozen (blk_below BK0.out hb1) 2; have HB2 := Aside0.mk (HBX.out.trans (hb1.mono HBX.out.size)); clear hb1)
          | (go_at_call 85; (first | rw [← C4.out] | skip); refine (impl_SortsAll.calls k A0_2 c0_2 l0_2 r _ (Kd.C_below HR2.out HB2.out) HC2.out HS.out).mono ?_; rintro e w'' ⟨rfl, hb2⟩))
        all_goals go_ret
        all_goals exact ⟨rfl, HB2.out.trans (hb2.below.mono HB2.out.size)⟩
      · have hbt' : between l0_1 1 60 = false := by simpa using hbt
        have HBT := Aside0.mk hbt'
        have HS : false = r := by
          have h2 := HE'.out
          rw [if_neg hbt] at h2
          exact Option.some.inj h2
        subst HS
        clear hbt hbt'
        go_wp2_with (first
          | (go_at_call 84; (first | rw [← C3.out] | skip); refine (impl_between.calls A0_1 c0_1 l0_1 1 60 false _ (Kd.C_below HR1.out HBX.out) HC1.out (by unfold impl_between.f; rw [HBT.out])).mono ?_; rintro e w' ⟨rfl, hb1⟩; have HB2 := Aside0.mk (HBX.out.trans (hb1.mono HBX.out.size)); clear hb1))
        all_goals go_ret
        all_goals exact ⟨rfl, HB2.out⟩
    | succ g =>
      have hi : j.toNat < a0_0.size := by omega
      have c14b0 : decide (j < (a0_0.size : Int)) = true := by simp; omega
      obtain ⟨x, hx⟩ : ∃ x : UInt8, a0_0[j.toNat]'hi = x := ⟨_, rfl⟩
      have hxl : a0_0.data.toList[j.toNat]? = some x := by rw [← hx]; exact Lib.data_getElem? a0_0 _ hi
      have hxb : (x.toNat : Int) = bt a0_0 j := by rw [← hx]; exact bt_at a0_0 j hi
      have hstep := letA_step a0_0 j.toNat hi x hxl
      rw [hxb] at hstep
      have hb0 := (bt_range a0_0 j).1
      have hb1 : bt a0_0 j < 256 := by have := (bt_range a0_0 j).2; omega
      have hcell : wr.cell? ⟨w.heap.size + 1, (bt a0_0 j).toNat, none⟩ = some (.bool ((a0_0.data.toList.take j.toNat).contains x)) := by
        rw [← hxb, Int.toNat_natCast]
        exact (blk_cell BK1.out _).trans (Lib.setCells_at _ x)
      have hnext : (Lib.setCells (a0_0.data.toList.take j.toNat)).setIfInBounds (bt a0_0 j).toNat (.bool true) = Lib.setCells (a0_0.data.toList.take (j.toNat + 1)) := by
        rw [← hxb, Int.toNat_natCast, ← Lib.setCells_snoc, List.take_add_one, hxl]; rfl
      have hfz := blk_frozen BK1.out (bt a0_0 j).toNat
      have HN := Aside0.mk hnext
      have HST := Aside0.mk hstep
      have HJ := Aside0.mk hjg
      have hx18 := bt_at a0_0 j
      have hb1b : decide (bt a0_0 j < 256) = true := by simp; omega
      have hb0b : decide (0 ≤ bt a0_0 j) = true := by simp; omega
      have hj0b : decide (0 ≤ j) = true := by simp; omega
      have p18 : (0 ≤ j) = True := eq_true hj0
      have q18 : (j < (a0_0.size : Int)) = True := eq_true (by omega)
      have p19 : (0 ≤ bt a0_0 j) = True := eq_true hb0
      have q19 : (bt a0_0 j < 256) = True := eq_true hb1
      generalize (a0_0.data.toList.take j.toNat).contains x = cb at hcell hstep
      have HS2 := Aside0.mk hstep
      clear hstep hnext hxl hxb hx hb0 hb1 hjg hj0
      by_cases d1 : bt a0_0 j < 33
      · have e1 : decide (bt a0_0 j < 33) = true := decide_eq_true d1
        have HE : false = r := by
          have h2 := HH.out
          rw [HL.out, HS2.out, decide_eq_false (by omega), Bool.false_and, Bool.false_and, Bool.false_and, if_neg (by decide)] at h2
          exact Option.some.inj h2
        subst HE
        clear d1
        go_wp2
        repeat (go_quiet (fail); try go_wp2)
        go_ret
        exact ⟨rfl, by first | exact HBX.out | exact below_alloc HBX.out _⟩
      have e1 : decide (bt a0_0 j < 33) = false := decide_eq_false d1
      by_cases d2 : 126 < bt a0_0 j
      · have e2 : decide (126 < bt a0_0 j) = true := decide_eq_true d2
        have HE : false = r := by
          have h2 := HH.out
          rw [HL.out, HS2.out, decide_eq_false (show ¬ bt a0_0 j ≤ 126 by omega), Bool.and_false, Bool.false_and, Bool.false_and, if_neg (by decide)] at h2
          exact Option.some.inj h2
        subst HE
        clear d1 d2
        go_wp2
        repeat (go_quiet (fail); try go_wp2)
        go_ret
        exact ⟨rfl, by first | exact HBX.out | exact below_alloc HBX.out _⟩
      have e2 : decide (126 < bt a0_0 j) = false := decide_eq_false d2
      cases cb with
      | true =>
        have HE : false = r := by
          have h2 := HH.out
          rw [HL.out, HS2.out, Bool.not_true, Bool.and_false, Bool.false_and, if_neg (by decide)] at h2
          exact Option.some.inj h2
        subst HE
        clear d1 d2
        go_wp2
        repeat (go_quiet (fail); try go_wp2)
        go_ret
        exact ⟨rfl, by first | exact HBX.out | exact below_alloc HBX.out _⟩
      | false =>
        have HE : letA [] a0_0.data.toList = letA (a0_0.data.toList.take (j.toNat + 1)) (a0_0.data.toList.drop (j.toNat + 1)) := by
          rw [HL.out, HS2.out, decide_eq_true (show 33 ≤ bt a0_0 j by omega), decide_eq_true (show bt a0_0 j ≤ 126 by omega)]
          rfl
        have HE' := Aside0.mk HE
        clear d1 d2 HE
        go_wp2
        repeat (go_quiet (fail); try go_wp2)
        go_roundg g
        case measure => omega
        case rel =>
          have hjg := HJ.out
          have hj0 := of_eq_true p18
          have hw : wrap64 (j + 1) = j + 1 := by unfold wrap64; omega
          have ht : (j + 1).toNat = j.toNat + 1 := by omega
          refine ⟨j + 1, by omega, by omega, by rw [hw], ⟨by rw [ht]; exact HE'.out⟩, ⟨?_⟩, ⟨?_⟩, ⟨below_set HBX.out (Nat.le_succ _)⟩⟩
          · exact blk_far BK0.out (by show w.heap.size ≠ w.heap.size + 1; omega) _
          · rw [ht]; exact blk_put BK1.out _ _ HN.out

/-! ### bits_Mul32: function 117 -/
def bits_Mul32.f (a0 : Int) (a1 : Int) : Option (Int × Int) := some (((IntKind.u64.wrap ((IntKind.u64.wrap (a0)) * (IntKind.u64.wrap (a1)))) / 4294967296) % 4294967296, (IntKind.u64.wrap ((IntKind.u64.wrap (a0)) * (IntKind.u64.wrap (a1)))) % 4294967296)
set_option maxHeartbeats 8000000 in
set_option maxRecDepth 100000 in
theorem bits_Mul32.calls (a0 : Int) (a1 : Int) (r1 : Int) (r2 : Int) (w : World) (h : bits_Mul32.f a0 a1 = some (r1, r2)) :
    Calls Try.prog 117 #[.int .u32 a0, .int .u32 a1] w fun e w' => e = .returned (.tuple #[.int .u32 r1, .int .u32 r2]) ∧ Drawn0 w w' := by
  have H : (some (((IntKind.u64.wrap ((IntKind.u64.wrap (a0)) * (IntKind.u64.wrap (a1)))) / 4294967296) % 4294967296, (IntKind.u64.wrap ((IntKind.u64.wrap (a0)) * (IntKind.u64.wrap (a1)))) % 4294967296)) = some (r1, r2) := h
  clear h
  simp only [Option.some.injEq, Prod.mk.injEq] at H
  obtain ⟨rfl, rfl⟩ := H
  go_enter Try.func117, Try.ntmps117
  go_wp2
  go_ret2
  exact ⟨by first | rfl | (simp only [i64_w, i32_w, wrap64_zero, Int.sub_zero, Int.add_zero, Int.mul_zero, Int.zero_mul]; rfl) | (simp; done) | (simp [*]; done), by repeat (first | exact Drawn0.refl _ | apply Drawn0.step)⟩

/-! ### bits_Mul64: function 118 -/
def bits_Mul64.f (a0 : Int) (a1 : Int) : Option (Int × Int) := some (IntKind.u64.wrap ((IntKind.u64.wrap ((IntKind.u64.wrap ((a0 / 4294967296) * (a1 / 4294967296))) + ((IntKind.u64.wrap ((IntKind.u64.wrap ((a0 / 4294967296) * (Go.bits .and .u64 a1 4294967295))) + ((IntKind.u64.wrap ((Go.bits .and .u64 a0 4294967295) * (Go.bits .and .u64 a1 4294967295))) / 4294967296))) / 4294967296))) + ((IntKind.u64.wrap ((Go.bits .and .u64 (IntKind.u64.wrap ((IntKind.u64.wrap ((a0 / 4294967296) * (Go.bits .and .u64 a1 4294967295))) + ((IntKind.u64.wrap ((Go.bits .and .u64 a0 4294967295) * (Go.bits .and .u64 a1 4294967295))) / 4294967296))) 4294967295) + (IntKind.u64.wrap ((Go.bits .and .u64 a0 4294967295) * (a1 / 4294967296))))) / 4294967296)), IntKind.u64.wrap (a0 * a1))
set_option maxHeartbeats 8000000 in
set_option maxRecDepth 100000 in
theorem bits_Mul64.calls (a0 : Int) (a1 : Int) (r1 : Int) (r2 : Int) (w : World) (h : bits_Mul64.f a0 a1 = some (r1, r2)) :
    Calls Try.prog 118 #[.int .u64 a0, .int .u64 a1] w fun e w' => e = .returned (.tuple #[.int .u64 r1, .int .u64 r2]) ∧ Drawn0 w w' := by
  have H : (some (IntKind.u64.wrap ((IntKind.u64.wrap ((IntKind.u64.wrap ((a0 / 4294967296) * (a1 / 4294967296))) + ((IntKind.u64.wrap ((IntKind.u64.wrap ((a0 / 4294967296) * (Go.bits .and .u64 a1 4294967295))) + ((IntKind.u64.wrap ((Go.bits .and .u64 a0 4294967295) * (Go.bits .and .u64 a1 4294967295))) / 4294967296))) / 4294967296))) + ((IntKind.u64.wrap ((Go.bits .and .u64 (IntKind.u64.wrap ((IntKind.u64.wrap ((a0 / 4294967296) * (Go.bits .and .u64 a1 4294967295))) + ((IntKind.u64.wrap ((Go.bits .and .u64 a0 4294967295) * (Go.bits .and .u64 a1 4294967295))) / 4294967296))) 4294967295) + (IntKind.u64.wrap ((Go.bits .and .u64 a0 4294967295) * (a1 / 4294967296))))) / 4294967296)), IntKind.u64.wrap (a0 * a1))) = some (r1, r2) := h
  clear h
  simp only [Option.some.injEq, Prod.mk.injEq] at H
  obtain ⟨rfl, rfl⟩ := H
  go_enter Try.func118, Try.ntmps118
  go_wp2
  go_ret2
  exact ⟨by first | rfl | (simp only [i64_w, i32_w, wrap64_zero, Int.sub_zero, Int.add_zero, Int.mul_zero, Int.zero_mul]; rfl) | (simp; done) | (simp [*]; done), by repeat (first | exact Drawn0.refl _ | apply Drawn0.step)⟩

/-! ### bits_Mul: function 112 -/
def bits_Mul.f (a0 : Int) (a1 : Int) : Option (Int × Int) := (bits_Mul64.f a0 a1).bind fun bt163 => (some (bt163.1, bt163.2))
set_option maxHeartbeats 8000000 in
set_option maxRecDepth 100000 in
theorem bits_Mul.calls (a0 : Int) (a1 : Int) (r1 : Int) (r2 : Int) (w : World) (h : bits_Mul.f a0 a1 = some (r1, r2)) :
    Calls Try.prog 112 #[.int .u64 a0, .int .u64 a1] w fun e w' => e = .returned (.tuple #[.int .u64 r1, .int .u64 r2]) ∧ Drawn0 w w' := by
  have H : ((bits_Mul64.f a0 a1).bind fun bt163 => (some (bt163.1, bt163.2))) = some (r1, r2) := h
  clear h
  replace H := Option.bind_eq_some_iff.mp H
  obtain ⟨⟨t163, t164⟩, A30, H⟩ := H
  replace H : (some (t163, t164)) = some (r1, r2) := H
  have A3 := Aside0.mk A30
  clear A30
  simp only [Option.some.injEq, Prod.mk.injEq] at H
  obtain ⟨rfl, rfl⟩ := H
  go_enter Try.func112, Try.ntmps112
  go_wp2_with (first | ((with_reducible refine gate_callee (f := 118) rfl ?_); refine goesL_ (some 25) rfl rfl Try.func118 (by kernel_rfl) rfl #[.int .u64 a0, .int .u64 a1] rfl (by (try simp only [List.map_toArray, List.map_cons, List.map_nil]); first | done | rfl | (simp only [List.length_drop, List.length_take]; rfl)) ?_; (with_reducible refine (bits_Mul64.calls a0 a1 t163 t164 _ A3.out).mono ?_); rintro e w' ⟨rfl, ⟨nd, rfl⟩⟩; refine ⟨_, rfl, ?_⟩))
  go_ret2
  exact ⟨by first | rfl | (simp only [i64_w, i32_w, wrap64_zero, Int.sub_zero, Int.add_zero, Int.mul_zero, Int.zero_mul]; rfl) | (simp; done) | (simp [*]; done), by repeat (first | exact Drawn0.refl _ | apply Drawn0.step)⟩

end Go.Proofs.Ytilbngklgjjblaa.Q
