/- Contracts of Go functions over this translation: each call returns what the Lean function of the same name gives, and writes into no memory that was there. Written by a program of this claim's author (mp.py) over the kit's print. Conditions: those that each theorem names. -/
import Derived.Test.YthdgkjnhjihkpaaQ0
import Derived.Test.YthdgkjnhjihkpaaQ1
namespace Go.Proofs.Ythdgkjnhjihkpaa.Q
open Go.RowKit Go.Proofs.YthdgkjnhjihkpaaW.PrintWords Go.Proofs.YthdgkjnhjihkpaaW.PrintLast Go.Proofs.YthdgkjnhjihkpaaW.PrintMore
attribute [local go_sem] max2_int min2_int max_two min_two max_three min_three max_four min_four   -- for this text's walks alone
set_option linter.unusedVariables false
set_option linter.unusedSimpArgs false

/-! ### impl_CountOrders: function 30 -/
mutual
def impl_CountOrders.j0 : Nat → List Int → Bool → Option (Int)
  | 0, _, _ => none
  | k + 1, x0, x21 => if x21 = true then (some (-1)) else (if 0 ≤ (shl .i64 1 (x0.length : Int)) then (if (shl .i64 1 (x0.length : Int) : Int).toNat ≤ 35184372088832 then ((some (List.replicate (shl .i64 1 (x0.length : Int) : Int).toNat 0 : List Int)).bind fun y109 => (if 0 < (y109.length : Int) then (impl_CountOrders.l0 k x0 (y109.set (0 : Int).toNat 1) (y109.length : Int) 0) else (none))) else (none)) else (none))
def impl_CountOrders.l0 : Nat → List Int → List Int → Int → Int → Option (Int)
  | 0, _, _, _, _ => none
  | k + 1, x0, x3, x29, x30 => if x30 < x29 then (impl_CountOrders.l1 k x0 x3 x30 x29 x30 x0 (x0.length : Int) 0) else (if 0 ≤ (wrap64 ((x3.length : Int) - 1)) then (if (wrap64 ((x3.length : Int) - 1)) < (x3.length : Int) then (some (rd x3 (wrap64 ((x3.length : Int) - 1)))) else (none)) else (none))
def impl_CountOrders.l1 : Nat → List Int → List Int → Int → Int → Int → List Int → Int → Int → Option (Int)
  | 0, _, _, _, _, _, _, _, _ => none
  | k + 1, x0, x3, x4, x29, x30, x33, x34, x35 => if x35 < x34 then (if 0 ≤ x35 then (if x35 < (x33.length : Int) then (if (Go.bits .and .i64 (shr .i64 x4 x35) 1) = 1 then (impl_CountOrders.l1 k x0 x3 x4 x29 x30 x33 x34 (wrap64 (x35 + 1))) else (impl_CountOrders.l2 k x0 x3 x4 x35 (rd x33 x35) true x29 x30 x33 x34 x35 x0 (x0.length : Int) 0)) else (none)) else (none)) else (impl_CountOrders.l0 k x0 x3 x29 (wrap64 (x30 + 1)))
def impl_CountOrders.l2 : Nat → List Int → List Int → Int → Int → Int → Bool → Int → Int → List Int → Int → Int → List Int → Int → Int → Option (Int)
  | 0, _, _, _, _, _, _, _, _, _, _, _, _, _, _ => none
  | k + 1, x0, x3, x4, x5, x6, x7, x29, x30, x33, x34, x35, x45, x46, x47 => if x47 < x46 then (if 0 ≤ x47 then (if x47 < (x45.length : Int) then (if x7 = true then (if x47 = x5 then (impl_CountOrders.l2 k x0 x3 x4 x5 x6 true x29 x30 x33 x34 x35 x45 x46 (wrap64 (x47 + 1))) else (if (Go.bits .and .i64 (shr .i64 x4 x47) 1) = 1 then (impl_CountOrders.l2 k x0 x3 x4 x5 x6 true x29 x30 x33 x34 x35 x45 x46 (wrap64 (x47 + 1))) else ((impl_part.f (rd x45 x47) x6).bind fun t116 => (impl_CountOrders.l2 k x0 x3 x4 x5 x6 (!t116) x29 x30 x33 x34 x35 x45 x46 (wrap64 (x47 + 1)))))) else (impl_CountOrders.l2 k x0 x3 x4 x5 x6 false x29 x30 x33 x34 x35 x45 x46 (wrap64 (x47 + 1)))) else (none)) else (none)) else (if x7 = true then (if 0 ≤ x5 then (if 0 ≤ (Go.bits .or .i64 x4 (shl .i64 1 x5)) then (if (Go.bits .or .i64 x4 (shl .i64 1 x5)) < (x3.length : Int) then (if 0 ≤ x4 then (if x4 < (x3.length : Int) then (impl_CountOrders.l1 k x0 (x3.set ((Go.bits .or .i64 x4 (shl .i64 1 x5)) : Int).toNat (wrap64 ((rd x3 (Go.bits .or .i64 x4 (shl .i64 1 x5))) + (rd x3 x4)))) x4 x29 x30 x33 x34 (wrap64 (x35 + 1))) else (none)) else (none)) else (none)) else (none)) else (none)) else (impl_CountOrders.l1 k x0 x3 x4 x29 x30 x33 x34 (wrap64 (x35 + 1))))
end
def impl_CountOrders.f (k : Nat) (l0 : List Int) : Option (Int) := (impl_IsBar.f l0).bind fun t107 => (if t107 = true then (if (l0.length : Int) > 8 then (impl_CountOrders.j0 k l0 true) else ((impl_twice.f k l0).bind fun t108 => (impl_CountOrders.j0 k l0 t108))) else (impl_CountOrders.j0 k l0 true))
theorem impl_CountOrders.mono_l : ∀ k, (∀ y0 y1, LeO (impl_CountOrders.j0 k y0 y1) (impl_CountOrders.j0 (k + 1) y0 y1)) ∧ (∀ y0 y1 y2 y3, LeO (impl_CountOrders.l0 k y0 y1 y2 y3) (impl_CountOrders.l0 (k + 1) y0 y1 y2 y3)) ∧ (∀ y0 y1 y2 y3 y4 y5 y6 y7, LeO (impl_CountOrders.l1 k y0 y1 y2 y3 y4 y5 y6 y7) (impl_CountOrders.l1 (k + 1) y0 y1 y2 y3 y4 y5 y6 y7)) ∧ (∀ y0 y1 y2 y3 y4 y5 y6 y7 y8 y9 y10 y11 y12 y13, LeO (impl_CountOrders.l2 k y0 y1 y2 y3 y4 y5 y6 y7 y8 y9 y10 y11 y12 y13) (impl_CountOrders.l2 (k + 1) y0 y1 y2 y3 y4 y5 y6 y7 y8 y9 y10 y11 y12 y13))
  | 0 => ⟨fun _ _ r h => by simp [impl_CountOrders.j0] at h, fun _ _ _ _ r h => by simp [impl_CountOrders.l0] at h, fun _ _ _ _ _ _ _ _ r h => by simp [impl_CountOrders.l1] at h, fun _ _ _ _ _ _ _ _ _ _ _ _ _ _ r h => by simp [impl_CountOrders.l2] at h⟩
  | k + 1 => by
    obtain ⟨ih0, ih1, ih2, ih3⟩ := impl_CountOrders.mono_l k
    refine ⟨?_, ?_, ?_, ?_⟩
    · intro y0 y1
      unfold impl_CountOrders.j0
      repeat' first
      | (with_reducible exact ih0 _ _)
      | (with_reducible exact ih1 _ _ _ _)
      | (with_reducible exact ih2 _ _ _ _ _ _ _ _)
      | (with_reducible exact ih3 _ _ _ _ _ _ _ _ _ _ _ _ _ _)
      | (with_reducible exact impl_twice.mono _ _)
      | (with_reducible exact LeO.refl _)
      | (with_reducible exact LeO.none _)
      | (with_reducible refine LeO.ite ?_ ?_)
      | (with_reducible refine LeO.bind ?_ (fun _ => ?_))
      | exact ih0 _ _
      | exact ih1 _ _ _ _
      | exact ih2 _ _ _ _ _ _ _ _
      | exact ih3 _ _ _ _ _ _ _ _ _ _ _ _ _ _
      | exact impl_twice.mono _ _
      | exact LeO.none _
      | refine LeO.ite ?_ ?_
      | refine LeO.bind ?_ (fun _ => ?_)
    · intro y0 y1 y2 y3
      unfold impl_CountOrders.l0
      repeat' first
      | (with_reducible exact ih0 _ _)
      | (with_reducible exact ih1 _ _ _ _)
      | (with_reducible exact ih2 _ _ _ _ _ _ _ _)
      | (with_reducible exact ih3 _ _ _ _ _ _ _ _ _ _ _ _ _ _)
      | (with_reducible exact impl_twice.mono _ _)
      | (with_reducible exact LeO.refl _)
      | (with_reducible exact LeO.none _)
      | (with_reducible refine LeO.ite ?_ ?_)
      | (with_reducible refine LeO.bind ?_ (fun _ => ?_))
      | exact ih0 _ _
      | exact ih1 _ _ _ _
      | exact ih2 _ _ _ _ _ _ _ _
      | exact ih3 _ _ _ _ _ _ _ _ _ _ _ _ _ _
      | exact impl_twice.mono _ _
      | exact LeO.none _
      | refine LeO.ite ?_ ?_
      | refine LeO.bind ?_ (fun _ => ?_)
    · intro y0 y1 y2 y3 y4 y5 y6 y7
      unfold impl_CountOrders.l1
      repeat' first
      | (with_reducible exact ih0 _ _)
      | (with_reducible exact ih1 _ _ _ _)
      | (with_reducible exact ih2 _ _ _ _ _ _ _ _)
      | (with_reducible exact ih3 _ _ _ _ _ _ _ _ _ _ _ _ _ _)
      | (with_reducible exact impl_twice.mono _ _)
      | (with_reducible exact LeO.refl _)
      | (with_reducible exact LeO.none _)
      | (with_reducible refine LeO.ite ?_ ?_)
      | (with_reducible refine LeO.bind ?_ (fun _ => ?_))
      | exact ih0 _ _
      | exact ih1 _ _ _ _
      | exact ih2 _ _ _ _ _ _ _ _
      | exact ih3 _ _ _ _ _ _ _ _ _ _ _ _ _ _
      | exact impl_twice.mono _ _
      | exact LeO.none _
      | refine LeO.ite ?_ ?_
      | refine LeO.bind ?_ (fun _ => ?_)
    · intro y0 y1 y2 y3 y4 y5 y6 y7 y8 y9 y10 y11 y12 y13
      unfold impl_CountOrders.l2
      repeat' first
      | (with_reducible exact ih0 _ _)
      | (with_reducible exact ih1 _ _ _ _)
      | (with_reducible exact ih2 _ _ _ _ _ _ _ _)
      | (with_reducible exact ih3 _ _ _ _ _ _ _ _ _ _ _ _ _ _)
      | (with_reducible exact impl_twice.mono _ _)
      | (with_reducible exact LeO.refl _)
      | (with_reducible exact LeO.none _)
      | (with_reducible refine LeO.ite ?_ ?_)
      | (with_reducible refine LeO.bind ?_ (fun _ => ?_))
      | exact ih0 _ _
      | exact ih1 _ _ _ _
      | exact ih2 _ _ _ _ _ _ _ _
      | exact ih3 _ _ _ _ _ _ _ _ _ _ _ _ _ _
      | exact impl_twice.mono _ _
      | exact LeO.none _
      | refine LeO.ite ?_ ?_
      | refine LeO.bind ?_ (fun _ => ?_)
theorem impl_CountOrders.mono : ∀ a0 k, LeO (impl_CountOrders.f k a0) (impl_CountOrders.f (k + 1) a0) := by
  intro a0 k
  obtain ⟨ih0, ih1, ih2, ih3⟩ := impl_CountOrders.mono_l k
  unfold impl_CountOrders.f
  repeat' first
      | (with_reducible exact ih0 _ _)
      | (with_reducible exact ih1 _ _ _ _)
      | (with_reducible exact ih2 _ _ _ _ _ _ _ _)
      | (with_reducible exact ih3 _ _ _ _ _ _ _ _ _ _ _ _ _ _)
      | (with_reducible exact impl_twice.mono _ _)
      | (with_reducible exact LeO.refl _)
      | (with_reducible exact LeO.none _)
      | (with_reducible refine LeO.ite ?_ ?_)
      | (with_reducible refine LeO.bind ?_ (fun _ => ?_))
      | exact ih0 _ _
      | exact ih1 _ _ _ _
      | exact ih2 _ _ _ _ _ _ _ _
      | exact ih3 _ _ _ _ _ _ _ _ _ _ _ _ _ _
      | exact impl_twice.mono _ _
      | exact LeO.none _
      | refine LeO.ite ?_ ?_
      | refine LeO.bind ?_ (fun _ => ?_)
def impl_CountOrders.T19 : Bool × List (List Nat × List Nat) := (true, [([], []), ([], []), ([], []), ([2], [2]), ([1, 3], [1, 3]), ([0, 4], [0, 4]), ([5], [5]), ([], []), ([], []), ([7, 8], [7, 8]), ([9], [9]), ([6, 10], [6, 10]), ([0, 4, 0, 1, 2, 3, 4, 5, 6, 7, 8, 9, 10, 11], [0, 4]), ([12, 11, 0, 1, 2, 3, 4, 5, 6, 7, 8, 9, 10, 11], [11, 12])])
def impl_CountOrders.B19 : List Nat := [0, 0, 0, 4, 14, 31, 63, 0, 0, 384, 896, 2047, 4095, 8191]
theorem impl_CountOrders.tab19 : rtab .any (opsOf Try.f30 19) = impl_CountOrders.T19 := by kernel_rfl
theorem impl_CountOrders.bits19 : waitsOk impl_CountOrders.T19.2 impl_CountOrders.B19 = true := by kernel_rfl
set_option maxHeartbeats 8000000 in
set_option maxRecDepth 100000 in
theorem impl_CountOrders.calls (k : Nat) (A0 : Option Addr) (c0 : Nat) (l0 : List Int) (r : Int) (w : World) (hr0 : Kd.C (Kd.int .i64) w A0 l0.length l0) (hc0 : l0.length ≤ c0) (h : impl_CountOrders.f k l0 = some r) :
    Calls Try.prog 30 #[.slice A0 l0.length c0] w fun e w' => e = .returned (.int .i64 r) ∧ Below w.heap.size w w' := by
  have HR0 := Aside0.mk hr0
  have HC0 := Aside0.mk hc0
  clear hr0 hc0
  have HB := Aside0.mk (Below.refl w.heap.size w)
  have H : ((impl_IsBar.f l0).bind fun t107 => (if t107 = true then (if (l0.length : Int) > 8 then (impl_CountOrders.j0 k l0 true) else ((impl_twice.f k l0).bind fun t108 => (impl_CountOrders.j0 k l0 t108))) else (impl_CountOrders.j0 k l0 true))) = some r := h
  clear h
  have HC2 := Aside0.mk H
  clear H
  go_enter Try.func30, Try.ntmps30
  go_upto_region 1 with (fail)
  go_cut [21] (fun v21 wc => ∃ (kq : Nat) (x21_1 : Bool), v21 = .bool x21_1 ∧ Aside0 (impl_CountOrders.j0 kq l0 x21_1 = some r) ∧ Aside0 (kq ≤ k) ∧ Aside0 (Below w.heap.size w wc))
  case first =>
    have H := HC2.out
    clear HC2
    replace H := Option.bind_eq_some_iff.mp H
    obtain ⟨t107, A30, H⟩ := H
    replace H : (if t107 = true then (if (l0.length : Int) > 8 then (impl_CountOrders.j0 k l0 true) else ((impl_twice.f k l0).bind fun t108 => (impl_CountOrders.j0 k l0 t108))) else (impl_CountOrders.j0 k l0 true)) = some r := H
    have A3 := Aside0.mk A30
    clear A30
    by_cases c4 : t107 = true
    · subst c4
      have H1 : (if (l0.length : Int) > 8 then (impl_CountOrders.j0 k l0 true) else ((impl_twice.f k l0).bind fun t108 => (impl_CountOrders.j0 k l0 t108))) = some r := by rw [if_pos rfl] at H; exact H
      clear H
      have H := H1
      clear H1
      by_cases c5 : (l0.length : Int) > 8
      · rw [if_pos c5] at H
        have c5b0 : decide (8 < (l0.length : Int)) = true := decide_eq_true c5
        have c5b1 : decide (8 < l0.length) = true := decide_eq_true (by omega)
        clear c5
        (first | rw [c5b0] | (simp only [i64_w, i32_w]; rw [c5b0]) | skip)
        have H' := Aside0.mk H
        clear H
        go_wp2_with (first | ((with_reducible refine gate_callee (f := 21) rfl ?_); refine goesL_ (some 11) rfl rfl Try.func21 (by kernel_rfl) rfl #[.slice A0 l0.length c0] rfl (by (try simp only [List.map_toArray, List.map_cons, List.map_nil]); first | done | rfl | (simp only [List.length_drop, List.length_take]; rfl)) ?_; (with_reducible refine (impl_IsBar.calls _ _ l0 true _ ?side1 ?side2 A3.out).mono ?_); (case side1 => repeat (first | exact (Kd.C_below HR0.out HB.out) | (with_reducible refine Kd.C_alloc ?_ _) | (with_reducible refine Kd.C_drewN ?_ _) | (with_reducible refine Kd.C_drew ?_))); (case side2 => exact HC0.out); rintro e w' ⟨rfl, ⟨nd, rfl⟩⟩; refine ⟨_, rfl, ?_⟩))
        go_meet
        case rel => exact ⟨_, (true), (by first | rfl | (simp; done) | (simp [*]; done)), H', ⟨by first | omega | exact Nat.le_refl _⟩, ⟨by repeat (first | (with_reducible first | exact HB.out | apply below_alloc | apply pw_below_drewN | apply below_drew1) | exact HB.out)⟩⟩
      · rw [if_neg c5] at H
        have c5b0 : decide (8 < (l0.length : Int)) = false := decide_eq_false c5
        have c5b1 : decide (8 < l0.length) = false := decide_eq_false (by omega)
        clear c5
        (first | rw [c5b0] | (simp only [i64_w, i32_w]; rw [c5b0]) | skip)
        replace H := Option.bind_eq_some_iff.mp H
        obtain ⟨t108, A60, H⟩ := H
        replace H : (impl_CountOrders.j0 k l0 t108) = some r := H
        have A6 := Aside0.mk A60
        clear A60
        have H' := Aside0.mk H
        clear H
        go_wp2_with (first | ((with_reducible refine gate_callee (f := 21) rfl ?_); refine goesL_ (some 11) rfl rfl Try.func21 (by kernel_rfl) rfl #[.slice A0 l0.length c0] rfl (by (try simp only [List.map_toArray, List.map_cons, List.map_nil]); first | done | rfl | (simp only [List.length_drop, List.length_take]; rfl)) ?_; (with_reducible refine (impl_IsBar.calls _ _ l0 true _ ?side1 ?side2 A3.out).mono ?_); (case side1 => repeat (first | exact (Kd.C_below HR0.out HB.out) | (with_reducible refine Kd.C_alloc ?_ _) | (with_reducible refine Kd.C_drewN ?_ _) | (with_reducible refine Kd.C_drew ?_))); (case side2 => exact HC0.out); rintro e w' ⟨rfl, ⟨nd, rfl⟩⟩; refine ⟨_, rfl, ?_⟩) | (go_at_call 62; (with_reducible refine (impl_twice.calls k _ _ l0 t108 _ ?side1 ?side2 A6.out).mono ?_); (case side1 => repeat (first | exact (Kd.C_below HR0.out (by repeat (first | (with_reducible first | exact HB.out | apply below_alloc | apply pw_below_drewN | apply below_drew1) | exact HB.out))) | (with_reducible refine Kd.C_alloc ?_ _) | (with_reducible refine Kd.C_drewN ?_ _) | (with_reducible refine Kd.C_drew ?_))); (case side2 => exact HC0.out); rintro e w' ⟨rfl, ⟨nd, rfl⟩⟩))
        go_meet
        case rel => exact ⟨_, (t108), (by first | rfl | (simp; done) | (simp [*]; done)), H', ⟨by first | omega | exact Nat.le_refl _⟩, ⟨by repeat (first | (with_reducible first | exact HB.out | apply below_alloc | apply pw_below_drewN | apply below_drew1) | exact HB.out)⟩⟩
    · replace c4 := Bool.eq_false_iff.mpr c4
      subst c4
      have H1 : (impl_CountOrders.j0 k l0 true) = some r := by rw [if_neg (show ¬ (false = true) by decide)] at H; exact H
      clear H
      have H := H1
      clear H1
      have H' := Aside0.mk H
      clear H
      go_wp2_with (first | ((with_reducible refine gate_callee (f := 21) rfl ?_); refine goesL_ (some 11) rfl rfl Try.func21 (by kernel_rfl) rfl #[.slice A0 l0.length c0] rfl (by (try simp only [List.map_toArray, List.map_cons, List.map_nil]); first | done | rfl | (simp only [List.length_drop, List.length_take]; rfl)) ?_; (with_reducible refine (impl_IsBar.calls _ _ l0 false _ ?side1 ?side2 A3.out).mono ?_); (case side1 => repeat (first | exact (Kd.C_below HR0.out HB.out) | (with_reducible refine Kd.C_alloc ?_ _) | (with_reducible refine Kd.C_drewN ?_ _) | (with_reducible refine Kd.C_drew ?_))); (case side2 => exact HC0.out); rintro e w' ⟨rfl, ⟨nd, rfl⟩⟩; refine ⟨_, rfl, ?_⟩))
      go_meet
      case rel => exact ⟨_, (true), (by first | rfl | (simp; done) | (simp [*]; done)), H', ⟨by first | omega | exact Nat.le_refl _⟩, ⟨by repeat (first | (with_reducible first | exact HB.out | apply below_alloc | apply pw_below_drewN | apply below_drew1) | exact HB.out)⟩⟩
  case rest =>
    clear HC2
    try clear c2
    try clear p2
    try clear c3
    try clear c4
    try clear c5
    try clear c5b0
    try clear c5b1
    obtain ⟨kq, x21_1, rfl, HA, HJ1, HB⟩ := hcut
    cases kq with
    | zero => exact absurd HA.out (by simp [impl_CountOrders.j0])
    | succ kj1 =>
      have H := HA.out
      clear HA
      simp only [impl_CountOrders.j0] at H
      by_cases c7 : x21_1 = true
      · subst c7
        have H1 : (some (-1)) = some r := by rw [if_pos rfl] at H; exact H
        clear H
        have H := H1
        clear H1
        obtain rfl := Option.some.inj H
        go_wp2
        go_ret
        exact ⟨by first | rfl | (simp only [i64_w, i32_w]; rfl) | (simp only [i64_w, i32_w, wrap64_zero, Int.sub_zero, Int.add_zero, Int.mul_zero, Int.zero_mul]; rfl) | (simp [errW_none, errW_some] <;> rfl) | (simp [*, errW_none, errW_some] <;> rfl), by repeat (first | (with_reducible first | exact HB.out | apply below_alloc | apply pw_below_drewN | apply below_drew1) | exact HB.out)⟩
      · replace c7 := Bool.eq_false_iff.mpr c7
        subst c7
        have H1 : (if 0 ≤ (shl .i64 1 (l0.length : Int)) then (if (shl .i64 1 (l0.length : Int) : Int).toNat ≤ 35184372088832 then ((some (List.replicate (shl .i64 1 (l0.length : Int) : Int).toNat 0 : List Int)).bind fun y109 => (if 0 < (y109.length : Int) then (impl_CountOrders.l0 kj1 l0 (y109.set (0 : Int).toNat 1) (y109.length : Int) 0) else (none))) else (none)) else (none)) = some r := by rw [if_neg (show ¬ (false = true) by decide)] at H; exact H
        clear H
        have H := H1
        clear H1
        obtain ⟨ji8, hji8⟩ : ∃ j_ : Int, (shl .i64 1 (l0.length : Int)) = j_ := ⟨_, rfl⟩
        replace H : (if 0 ≤ (ji8) then (if (ji8 : Int).toNat ≤ 35184372088832 then ((some (List.replicate (ji8 : Int).toNat 0 : List Int)).bind fun y109 => (if 0 < (y109.length : Int) then (impl_CountOrders.l0 kj1 l0 (y109.set (0 : Int).toNat 1) (y109.length : Int) 0) else (none))) else (none)) else (none)) = some r := by first | (rw [hji8] at H; exact H) | (simp only [hji8] at H ⊢; exact H)
        have hji8_ : (IntKind.i64.wrap (1 * 2 ^ min (l0.length : Int).toNat 64)) = ji8 := hji8
        have hji8z : (l0.length : Int) ≤ 64 → (IntKind.i64.wrap (1 * 2 ^ (l0.length : Int).toNat)) = ji8 := shl_small hji8
        have hji8p : (IntKind.i64.wrap (1 * 2 ^ min l0.length 64)) = ji8 := hji8_
        have hji8q : (l0.length : Int) ≤ 64 → (IntKind.i64.wrap (1 * 2 ^ l0.length)) = ji8 := hji8z
        have hji8r : (IntKind.i64.wrap (2 ^ min l0.length 64)) = ji8 := by have h_ := hji8p; rw [Int.one_mul] at h_; exact h_
        have hji8s : (l0.length : Int) ≤ 64 → (IntKind.i64.wrap (2 ^ l0.length)) = ji8 := fun hle_ => by have h_ := hji8q hle_; rw [Int.one_mul] at h_; exact h_
        have hji8u : (IntKind.i64.wrap (2 ^ min (l0.length : Int).toNat 64)) = ji8 := by have h_ := hji8_; rw [Int.one_mul] at h_; exact h_
        have hji8v : (l0.length : Int) ≤ 64 → (IntKind.i64.wrap (2 ^ (l0.length : Int).toNat)) = ji8 := fun hle_ => by have h_ := hji8z hle_; rw [Int.one_mul] at h_; exact h_
        have hji8y : (wrap64 (1 * 2 ^ min (l0.length : Int).toNat 64)) = ji8 := (i64_w _).symm.trans hji8_
        have hji8x : (l0.length : Int) ≤ 64 → (wrap64 (1 * 2 ^ (l0.length : Int).toNat)) = ji8 := fun h_ => (i64_w _).symm.trans (hji8z h_)
        by_cases c9 : 0 ≤ (ji8)
        · rw [if_pos c9] at H
          have c9b0 := eq_true c9
          have c9b1 : decide (0 ≤ (ji8)) = true := decide_eq_true c9
          clear c9
          by_cases c10 : (ji8 : Int).toNat ≤ 35184372088832
          · rw [if_pos c10] at H
            have c10b0 := eq_true c10
            have c10b1 : decide ((ji8 : Int).toNat ≤ 35184372088832) = true := decide_eq_true c10
            clear c10
            obtain ⟨y109, hy109⟩ : ∃ y_ : List Int, y_ = (List.replicate (ji8 : Int).toNat 0) := ⟨_, rfl⟩
            replace H : (if 0 < (y109.length : Int) then (impl_CountOrders.l0 kj1 l0 (y109.set (0 : Int).toNat 1) (y109.length : Int) 0) else (none)) = some r := by first | (rw [hy109]; with_reducible exact H) | (have H2_ := (Option.bind_some _ _).symm.trans H; rw [hy109]; with_reducible exact H2_) | (have H2_ := (Option.bind_some _ _).symm.trans H; with_reducible exact H2_) | with_reducible exact H | (rw [hy109]; exact H) | exact H
            have Ny109 := Aside0.mk hy109
            clear hy109
            by_cases c11 : 0 < (y109.length : Int)
            · rw [if_pos c11] at H
              have c11b0 : decide (0 < (y109.length : Int)) = true := decide_eq_true c11
              have c11b1 : decide (0 < y109.length) = true := decide_eq_true (by omega)
              clear c11
              obtain ⟨y112, hy112⟩ : ∃ y_ : List Int, y_ = (y109.set (0 : Int).toNat 1) := ⟨_, rfl⟩
              replace H : (impl_CountOrders.l0 kj1 l0 y112 (y109.length : Int) 0) = some r := by first | (rw [hy112]; with_reducible exact H) | (have H2_ := (Option.bind_some _ _).symm.trans H; rw [hy112]; with_reducible exact H2_) | (have H2_ := (Option.bind_some _ _).symm.trans H; with_reducible exact H2_) | with_reducible exact H | (rw [hy112]; exact H) | exact H
              have Ny112 := Aside0.mk hy112
              clear hy112
              have H' := Aside0.mk H
              clear H
              go_wp2_with (first | ((with_reducible refine gate_dst (N := 25) rfl ?_); (try (refine gate_guard (by rfl) ?_; dsimp only)); refine Kd.R_make (Kd.int .i64) _ 3 rfl (N := 25) rfl 23 _ _ rfl ji8 rfl rfl Try.underlying23 (.int .i64 0) 8 info3 rfl (by decide) (by omega) 0 (ok := fun _ => True) (okp := fun _ => True) rfl (fun _ hk => hk) trivial (of_decide_eq_true (by first | (with_reducible assumption) | assumption)) (Nat.le_trans (Nat.mul_le_mul_right _ (of_decide_eq_true (by first | (with_reducible assumption) | assumption) : ji8.toNat ≤ 35184372088832)) (by omega)) (Below.refl _ _) (Nat.le_refl _) ?_; intro v110 w13 ho14 hb hg_ hnew_; clear hg_ hnew_; (first | rw [← Ny109.out] at ho14 | (simp only [Int.reduceToNat] at ho14; rw [← Ny109.out] at ho14)); have n0_ := Aside0.mk (Kd.R_lower ho14 (below_size (by repeat (first | (with_reducible first | exact HB.out | apply below_alloc | apply pw_below_drewN | apply below_drew1) | exact HB.out)))); have n1_ := Aside0.mk (below_step (by repeat (first | (with_reducible first | exact HB.out | apply below_alloc | apply pw_below_drewN | apply below_drew1) | exact HB.out)) hb); clear HB; have HO111 := n0_; have HB := n1_; clear n0_ n1_; clear hb ho14; have p12 : 0 ≤ (0 : Int) := (by omega); have q12 : (0 : Int) < ((y109.length : Int) : Int) := of_decide_eq_true (by first | (with_reducible assumption) | assumption); have qi12 : (0 < y109.length) = True := eq_true (by omega); obtain ⟨go12, co12, eo12, gb12, gl12, cl12, HG12⟩ := Kd.R_form HO111.out (by omega); (first | cases eo12 | (injection eo12 with ea_ en_ ec_; (first | subst ea_ | (injection ea_ with ea_; subst ea_)); subst ec_; clear en_)); have GB12 := Aside0.mk gb12; have GG12 := Aside0.mk HG12; clear gb12 gl12 HG12; obtain ⟨hx12_0, hf12_0⟩ := Kd.R_celln 0 HO111.out (0 : Int) p12 q12; (try rw [show ((0 : Int)).toNat = 0 from rfl] at hx12_0); (try simp only [Nat.reduceMul, Nat.zero_mul, Nat.zero_add, Nat.reduceAdd] at hx12_0); (try rw [show ((0 : Int)).toNat = 0 from rfl] at hf12_0); (try simp only [Nat.reduceMul, Nat.zero_mul, Nat.zero_add, Nat.reduceAdd] at hf12_0); replace p12 := eq_true p12; replace q12 := eq_true q12; obtain ⟨hy15_, hz15_⟩ := Kd.R_celln 0 HO111.out (0 : Int) (by omega) (of_decide_eq_true (by first | (with_reducible assumption) | assumption)); (try simp only [Int.reduceToNat, Int.toNat_zero, Int.toNat_ofNat, Nat.reduceMul, Nat.zero_mul, Nat.zero_add] at hy15_ hz15_); (try rw [show ((0 : Int)).toNat = 0 from rfl] at hy15_); (try rw [show ((0 : Int)).toNat = 0 from rfl] at hz15_); have HP15 := Kd.R_putg HO111.out (0 : Int) 1) | ((with_reducible refine gate_store (t := 3) (p := 27) rfl ?_); refine store_event (t := 3) (p := 27) (v := ?vo_w16) (w1 := (w13.setCell ⟨go12, (0 : Int).toNat, none⟩ (.int .i64 1))) ?hg ?ho ?hn ?hr ?_; (case ho => rfl); (case hg => rfl); (case hn => rfl); (case hr => first | (go_simp; done) | (go_simp; rfl)); intro w16 hw; have hg : w13.grownBy w16 (some go12) := (by rw [hw]; exact HP15.2); have hp_ : Kd.R (Kd.int .i64) 3 w16 w.heap.size (fun _ => True) (.slice (some ⟨go12, 0, none⟩) y109.length co12) y112 := (by rw [hw, Ny112.out]; exact HP15.1); clear HP15; have n0_ := Aside0.mk (hp_); have n1_ := Aside0.mk ((by rw [hw]; exact below_set (HB.out) GB12.out : Below w.heap.size w w16)); clear HO111; clear HB; have HO111 := n0_; have HB := n1_; clear n0_ n1_; clear hg hw hp_))
              go_loopg [30] kj1 (fun kq v30 w' => ∃ (x3_2 : List Int) (x30_2 : Int), v30 = .int .i64 x30_2 ∧ Aside0 (impl_CountOrders.l0 kq l0 x3_2 (y109.length : Int) x30_2 = some r) ∧ Aside0 (kq ≤ kj1) ∧ Aside0 (Kd.R (Kd.int .i64) 3 w' w.heap.size (fun _ => True) (.slice (some ⟨go12, 0, none⟩) y109.length co12) x3_2) ∧ Aside0 (Below w.heap.size w w'))
              case atStart => exact ⟨(y112), (0), (by first | rfl | (simp; done) | (simp [*]; done)), H', ⟨Nat.le_refl _⟩, ⟨by (with_reducible repeat (first | apply Kd.R_alloc | apply Kd.R_drewN | apply Kd.R_drew)); exact HO111.out⟩, ⟨by repeat (first | (with_reducible first | exact HB.out | apply below_alloc | apply pw_below_drewN | apply below_drew1) | exact HB.out)⟩⟩
              case round =>
                clear H'
                try clear c1
                try clear p1
                try clear q1
                try clear hx1
                try clear qi1
                try clear hf1
                try clear c2
                try clear p2
                try clear c3
                try clear c4
                try clear c5
                try clear c5b0
                try clear c5b1
                try clear p6
                try clear c7
                try clear c9
                try clear c9b0
                try clear c9b1
                try clear c10
                try clear c10b0
                try clear c10b1
                try clear c11
                try clear c11b0
                try clear c11b1
                try clear p12
                try clear q12
                try clear hx12
                try clear qi12
                try clear hf12
                try clear hx12_0
                try clear p12
                try clear p2
                try clear q12
                obtain ⟨x3_2, x30_2, rfl, HA, HK2, HO_3, HB⟩ := hrel
                have hl3_2 := (Kd.R_reads' HO_3.out).1
                rw [hl3_2] at HO_3
                (try simp only [hl3_2])
                cases gk with
                | zero => exact absurd HA.out (by simp [impl_CountOrders.l0])
                | succ k2 =>
                  have H := HA.out
                  clear HA
                  simp only [impl_CountOrders.l0] at H
                  by_cases c17 : x30_2 < (y109.length : Int)
                  · rw [if_pos c17] at H
                    have c17b0 : decide (x30_2 < (y109.length : Int)) = true := decide_eq_true c17
                    (try (have c17h0 := c17b0; simp only [hl3_2] at c17h0))
                    clear c17
                    have H' := Aside0.mk H
                    clear H
                    go_wp2
                    go_loopg [35] k2 (fun kq v35 w' => ∃ (x3_3 : List Int) (x35_3 : Int), v35 = .int .i64 x35_3 ∧ Aside0 (impl_CountOrders.l1 kq l0 x3_3 x30_2 (y109.length : Int) x30_2 l0 (l0.length : Int) x35_3 = some r) ∧ Aside0 (kq ≤ k2) ∧ Aside0 (Kd.R (Kd.int .i64) 3 w' w.heap.size (fun _ => True) (.slice (some ⟨go12, 0, none⟩) x3_2.length co12) x3_3) ∧ Aside0 (Below w.heap.size w w'))
                    case atStart => exact ⟨(x3_2), (0), (by first | rfl | (simp; done) | (simp [*]; done)), H', ⟨Nat.le_refl _⟩, ⟨by (try simp only [hl3_2]); (with_reducible repeat (first | apply Kd.R_alloc | apply Kd.R_drewN | apply Kd.R_drew)); exact HO_3.out⟩, ⟨by repeat (first | (with_reducible first | exact HB.out | apply below_alloc | apply pw_below_drewN | apply below_drew1) | exact HB.out)⟩⟩
                    case round =>
                      clear H'
                      try clear c1
                      try clear p1
                      try clear q1
                      try clear hx1
                      try clear qi1
                      try clear hf1
                      try clear c2
                      try clear p2
                      try clear c3
                      try clear c4
                      try clear c5
                      try clear c5b0
                      try clear c5b1
                      try clear p6
                      try clear c7
                      try clear c9
                      try clear c9b0
                      try clear c9b1
                      try clear c10
                      try clear c10b0
                      try clear c10b1
                      try clear c11
                      try clear c11b0
                      try clear c11b1
                      try clear p12
                      try clear q12
                      try clear hx12
                      try clear qi12
                      try clear hf12
                      try clear c17
                      try clear c17b0
                      try clear hx12_0
                      try clear p1
                      try clear p12
                      try clear p2
                      try clear p6
                      try clear q1
                      try clear q12
                      obtain ⟨x3_3, x35_3, rfl, HA, HK3, HO_3, HB⟩ := hrel
                      have hl3_3 := (Kd.R_reads' HO_3.out).1
                      rw [hl3_3] at HO_3
                      (try simp only [hl3_3])
                      cases gk with
                      | zero => exact absurd HA.out (by simp [impl_CountOrders.l1])
                      | succ k3 =>
                        have H := HA.out
                        clear HA
                        simp only [impl_CountOrders.l1] at H
                        by_cases c18 : x35_3 < (l0.length : Int)
                        · rw [if_pos c18] at H
                          have c18b0 : decide (x35_3 < (l0.length : Int)) = true := decide_eq_true c18
                          (try (have c18h0 := c18b0; simp only [hl3_2, hl3_3] at c18h0))
                          clear c18
                          by_cases c19 : 0 ≤ x35_3
                          · rw [if_pos c19] at H
                            have c19b0 : decide (0 ≤ x35_3) = true := decide_eq_true c19
                            (try (have c19h0 := c19b0; simp only [hl3_2, hl3_3] at c19h0))
                            clear c19
                            by_cases c20 : x35_3 < (l0.length : Int)
                            · rw [if_pos c20] at H
                              have c20b0 : decide (x35_3 < (l0.length : Int)) = true := decide_eq_true c20
                              (try (have c20h0 := c20b0; simp only [hl3_2, hl3_3] at c20h0))
                              clear c20
                              have c21b0 := eq_true (of_decide_eq_true (by first | (with_reducible assumption) | assumption) : 0 ≤ x35_3)
                              obtain ⟨ji22, hji22⟩ : ∃ j_ : Int, (shr .i64 x30_2 x35_3) = j_ := ⟨_, rfl⟩
                              replace H : (if (Go.bits .and .i64 (ji22) 1) = 1 then (impl_CountOrders.l1 k3 l0 x3_3 x30_2 (y109.length : Int) x30_2 l0 (l0.length : Int) (wrap64 (x35_3 + 1))) else (impl_CountOrders.l2 k3 l0 x3_3 x30_2 x35_3 (rd l0 x35_3) true (y109.length : Int) x30_2 l0 (l0.length : Int) x35_3 l0 (l0.length : Int) 0)) = some r := by first | (rw [hji22] at H; exact H) | (simp only [hji22] at H ⊢; exact H)
                              have hji22_ : (x30_2 / 2 ^ min x35_3.toNat 64) = ji22 := hji22
                              have hji22z : x35_3 ≤ 64 → (x30_2 / 2 ^ x35_3.toNat) = ji22 := shr_small hji22
                              by_cases c23 : (Go.bits .and .i64 (ji22) 1) = 1
                              · rw [if_pos c23] at H
                                have c23b0 : ((Go.bits .and .i64 (ji22) 1) == 1) = true := beq_iff_eq.mpr c23
                                have c23b1 : ((Go.bits .and .i64 (ji22) 1) != 1) = false := bne_eq_false_iff_eq.mpr c23
                                (try (have c23h0 := c23b0; simp only [hl3_2, hl3_3] at c23h0))
                                (try (have c23h1 := c23b1; simp only [hl3_2, hl3_3] at c23h1))
                                clear c23
                                have H' := Aside0.mk H
                                clear H
                                have p114 : 0 ≤ (x35_3 : Int) := of_decide_eq_true (by first | (with_reducible assumption) | assumption)
                                have q114 : x35_3 < (l0.length : Int) := of_decide_eq_true (by first | (with_reducible assumption) | assumption)
                                obtain ⟨ad114, e114, hx114_0⟩ := Kd.at_int HR0.out x35_3 p114 q114
                                cases e114
                                replace hx114_0 := (HB.out.cell (World.block_lt_of_cell? w _ hx114_0)).trans hx114_0
                                replace p114 := eq_true p114
                                replace q114 := eq_true q114
                                go_wp2
                                (try simp only [← hl3_3])
                                go_roundg k3
                                case measure => have := HJ1.out; have := HK2.out; have := HK3.out; omega
                                case rel => exact ⟨(x3_3), (wrap64 (x35_3 + 1)), (by first | rfl | (simp; done) | (simp [*]; done)), H', ⟨by have := HJ1.out; have := HK2.out; have := HK3.out; omega⟩, ⟨by (try simp only [hl3_2]); (try simp only [hl3_3]); (with_reducible repeat (first | apply Kd.R_alloc | apply Kd.R_drewN | apply Kd.R_drew)); exact HO_3.out⟩, ⟨by repeat (first | (with_reducible first | exact HB.out | apply below_alloc | apply pw_below_drewN | apply below_drew1) | exact HB.out)⟩⟩
                              · rw [if_neg c23] at H
                                have c23b0 : ((Go.bits .and .i64 (ji22) 1) == 1) = false := beq_eq_false_iff_ne.mpr c23
                                have c23b1 : ((Go.bits .and .i64 (ji22) 1) != 1) = true := bne_iff_ne.mpr c23
                                (try (have c23h0 := c23b0; simp only [hl3_2, hl3_3] at c23h0))
                                (try (have c23h1 := c23b1; simp only [hl3_2, hl3_3] at c23h1))
                                have H' := Aside0.mk H
                                clear H
                                have p114 : 0 ≤ (x35_3 : Int) := of_decide_eq_true (by first | (with_reducible assumption) | assumption)
                                have q114 : x35_3 < (l0.length : Int) := of_decide_eq_true (by first | (with_reducible assumption) | assumption)
                                obtain ⟨ad114, e114, hx114_0⟩ := Kd.at_int HR0.out x35_3 p114 q114
                                cases e114
                                replace hx114_0 := (HB.out.cell (World.block_lt_of_cell? w _ hx114_0)).trans hx114_0
                                replace p114 := eq_true p114
                                replace q114 := eq_true q114
                                go_wp2
                                go_loopg [7, 47] k3 (fun kq v7 v47 w' => ∃ (x7_4 : Bool) (x47_4 : Int), v7 = .bool x7_4 ∧ v47 = .int .i64 x47_4 ∧ Aside0 (impl_CountOrders.l2 kq l0 x3_3 x30_2 x35_3 (rd l0 x35_3) x7_4 (y109.length : Int) x30_2 l0 (l0.length : Int) x35_3 l0 (l0.length : Int) x47_4 = some r) ∧ Aside0 (kq ≤ k3) ∧ Aside0 (Kd.R (Kd.int .i64) 3 w' w.heap.size (fun _ => True) (.slice (some ⟨go12, 0, none⟩) x3_3.length co12) x3_3) ∧ Aside0 (Below w.heap.size w w'))
                                case atStart => exact ⟨(true), (0), (by first | rfl | (simp; done) | (simp [*]; done)), (by first | rfl | (simp; done) | (simp [*]; done)), H', ⟨Nat.le_refl _⟩, ⟨by (try simp only [hl3_2]); (try simp only [hl3_3]); (with_reducible repeat (first | apply Kd.R_alloc | apply Kd.R_drewN | apply Kd.R_drew)); exact HO_3.out⟩, ⟨by repeat (first | (with_reducible first | exact HB.out | apply below_alloc | apply pw_below_drewN | apply below_drew1) | exact HB.out)⟩⟩
                                case round =>
                                  clear H'
                                  try clear c1
                                  try clear p1
                                  try clear q1
                                  try clear hx1
                                  try clear qi1
                                  try clear hf1
                                  try clear c2
                                  try clear p2
                                  try clear c3
                                  try clear c4
                                  try clear c5
                                  try clear c5b0
                                  try clear c5b1
                                  try clear p6
                                  try clear c7
                                  try clear c9
                                  try clear c9b0
                                  try clear c9b1
                                  try clear c10
                                  try clear c10b0
                                  try clear c10b1
                                  try clear c11
                                  try clear c11b0
                                  try clear c11b1
                                  try clear p11
                                  try clear q11
                                  try clear hx11
                                  try clear p12
                                  try clear q12
                                  try clear hx12
                                  try clear qi12
                                  try clear hf12
                                  try clear c17
                                  try clear c17b0
                                  try clear c18
                                  try clear c18b0
                                  try clear c19
                                  try clear c19b0
                                  try clear c20
                                  try clear c20b0
                                  try clear c21
                                  try clear c21b0
                                  try clear c23
                                  try clear c23b0
                                  try clear c23b1
                                  try clear hx114_0
                                  try clear hx12_0
                                  try clear p1
                                  try clear p114
                                  try clear p12
                                  try clear p2
                                  try clear p6
                                  try clear q1
                                  try clear q114
                                  try clear q12
                                  obtain ⟨x7_4, x47_4, rfl, rfl, HA, HK4, HO_3, HB⟩ := hrel
                                  cases gk with
                                  | zero => exact absurd HA.out (by simp [impl_CountOrders.l2])
                                  | succ k4 =>
                                    have H := HA.out
                                    clear HA
                                    simp only [impl_CountOrders.l2] at H
                                    by_cases c24 : x47_4 < (l0.length : Int)
                                    · rw [if_pos c24] at H
                                      have c24b0 : decide (x47_4 < (l0.length : Int)) = true := decide_eq_true c24
                                      (try (have c24h0 := c24b0; simp only [hl3_2, hl3_3] at c24h0))
                                      clear c24
                                      by_cases c25 : 0 ≤ x47_4
                                      · rw [if_pos c25] at H
                                        have c25b0 : decide (0 ≤ x47_4) = true := decide_eq_true c25
                                        (try (have c25h0 := c25b0; simp only [hl3_2, hl3_3] at c25h0))
                                        clear c25
                                        by_cases c26 : x47_4 < (l0.length : Int)
                                        · rw [if_pos c26] at H
                                          have c26b0 : decide (x47_4 < (l0.length : Int)) = true := decide_eq_true c26
                                          (try (have c26h0 := c26b0; simp only [hl3_2, hl3_3] at c26h0))
                                          clear c26
                                          by_cases c27 : x7_4 = true
                                          · subst c27
                                            have H1 : (if x47_4 = x35_3 then (impl_CountOrders.l2 k4 l0 x3_3 x30_2 x35_3 (rd l0 x35_3) true (y109.length : Int) x30_2 l0 (l0.length : Int) x35_3 l0 (l0.length : Int) (wrap64 (x47_4 + 1))) else (if (Go.bits .and .i64 (shr .i64 x30_2 x47_4) 1) = 1 then (impl_CountOrders.l2 k4 l0 x3_3 x30_2 x35_3 (rd l0 x35_3) true (y109.length : Int) x30_2 l0 (l0.length : Int) x35_3 l0 (l0.length : Int) (wrap64 (x47_4 + 1))) else ((impl_part.f (rd l0 x47_4) (rd l0 x35_3)).bind fun t116 => (impl_CountOrders.l2 k4 l0 x3_3 x30_2 x35_3 (rd l0 x35_3) (!t116) (y109.length : Int) x30_2 l0 (l0.length : Int) x35_3 l0 (l0.length : Int) (wrap64 (x47_4 + 1)))))) = some r := by rw [if_pos rfl] at H; exact H
                                            clear H
                                            have H := H1
                                            clear H1
                                            by_cases c28 : x47_4 = x35_3
                                            · rw [if_pos c28] at H
                                              have c28b0 : (x47_4 == x35_3) = true := beq_iff_eq.mpr c28
                                              have c28b1 : (x47_4 != x35_3) = false := bne_eq_false_iff_eq.mpr c28
                                              (try (have c28h0 := c28b0; simp only [hl3_2, hl3_3] at c28h0))
                                              (try (have c28h1 := c28b1; simp only [hl3_2, hl3_3] at c28h1))
                                              clear c28
                                              have H' := Aside0.mk H
                                              clear H
                                              have p115 : 0 ≤ (x47_4 : Int) := of_decide_eq_true (by first | (with_reducible assumption) | assumption)
                                              have q115 : x47_4 < (l0.length : Int) := of_decide_eq_true (by first | (with_reducible assumption) | assumption)
                                              obtain ⟨ad115, e115, hx115_0⟩ := Kd.at_int HR0.out x47_4 p115 q115
                                              obtain rfl : ad114 = ad115 := (by injection e115)
                                              replace hx115_0 := (HB.out.cell (World.block_lt_of_cell? w _ hx115_0)).trans hx115_0
                                              replace p115 := eq_true p115
                                              replace q115 := eq_true q115
                                              go_wp2
                                              go_roundg k4
                                              case measure => have := HJ1.out; have := HK2.out; have := HK3.out; have := HK4.out; omega
                                              case rel => exact ⟨(true), (wrap64 (x47_4 + 1)), (by first | rfl | (simp; done) | (simp [*]; done)), (by first | rfl | (simp; done) | (simp [*]; done)), H', ⟨by have := HJ1.out; have := HK2.out; have := HK3.out; have := HK4.out; omega⟩, ⟨by (try simp only [hl3_2]); (try simp only [hl3_3]); (with_reducible repeat (first | apply Kd.R_alloc | apply Kd.R_drewN | apply Kd.R_drew)); exact HO_3.out⟩, ⟨by repeat (first | (with_reducible first | exact HB.out | apply below_alloc | apply pw_below_drewN | apply below_drew1) | exact HB.out)⟩⟩
                                            · rw [if_neg c28] at H
                                              have c28b0 : (x47_4 == x35_3) = false := beq_eq_false_iff_ne.mpr c28
                                              have c28b1 : (x47_4 != x35_3) = true := bne_iff_ne.mpr c28
                                              (try (have c28h0 := c28b0; simp only [hl3_2, hl3_3] at c28h0))
                                              (try (have c28h1 := c28b1; simp only [hl3_2, hl3_3] at c28h1))
                                              have c29b0 := eq_true (of_decide_eq_true (by first | (with_reducible assumption) | assumption) : 0 ≤ x47_4)
                                              obtain ⟨ji30, hji30⟩ : ∃ j_ : Int, (shr .i64 x30_2 x47_4) = j_ := ⟨_, rfl⟩
                                              replace H : (if (Go.bits .and .i64 (ji30) 1) = 1 then (impl_CountOrders.l2 k4 l0 x3_3 x30_2 x35_3 (rd l0 x35_3) true (y109.length : Int) x30_2 l0 (l0.length : Int) x35_3 l0 (l0.length : Int) (wrap64 (x47_4 + 1))) else ((impl_part.f (rd l0 x47_4) (rd l0 x35_3)).bind fun t116 => (impl_CountOrders.l2 k4 l0 x3_3 x30_2 x35_3 (rd l0 x35_3) (!t116) (y109.length : Int) x30_2 l0 (l0.length : Int) x35_3 l0 (l0.length : Int) (wrap64 (x47_4 + 1))))) = some r := by first | (rw [hji30] at H; exact H) | (simp only [hji30] at H ⊢; exact H)
                                              have hji30_ : (x30_2 / 2 ^ min x47_4.toNat 64) = ji30 := hji30
                                              have hji30z : x47_4 ≤ 64 → (x30_2 / 2 ^ x47_4.toNat) = ji30 := shr_small hji30
                                              by_cases c31 : (Go.bits .and .i64 (ji30) 1) = 1
                                              · rw [if_pos c31] at H
                                                have c31b0 : ((Go.bits .and .i64 (ji30) 1) == 1) = true := beq_iff_eq.mpr c31
                                                have c31b1 : ((Go.bits .and .i64 (ji30) 1) != 1) = false := bne_eq_false_iff_eq.mpr c31
                                                (try (have c31h0 := c31b0; simp only [hl3_2, hl3_3] at c31h0))
                                                (try (have c31h1 := c31b1; simp only [hl3_2, hl3_3] at c31h1))
                                                clear c31
                                                have H' := Aside0.mk H
                                                clear H
                                                have p115 : 0 ≤ (x47_4 : Int) := of_decide_eq_true (by first | (with_reducible assumption) | assumption)
                                                have q115 : x47_4 < (l0.length : Int) := of_decide_eq_true (by first | (with_reducible assumption) | assumption)
                                                obtain ⟨ad115, e115, hx115_0⟩ := Kd.at_int HR0.out x47_4 p115 q115
                                                obtain rfl : ad114 = ad115 := (by injection e115)
                                                replace hx115_0 := (HB.out.cell (World.block_lt_of_cell? w _ hx115_0)).trans hx115_0
                                                replace p115 := eq_true p115
                                                replace q115 := eq_true q115
                                                go_wp2
                                                go_roundg k4
                                                case measure => have := HJ1.out; have := HK2.out; have := HK3.out; have := HK4.out; omega
                                                case rel => exact ⟨(true), (wrap64 (x47_4 + 1)), (by first | rfl | (simp; done) | (simp [*]; done)), (by first | rfl | (simp; done) | (simp [*]; done)), H', ⟨by have := HJ1.out; have := HK2.out; have := HK3.out; have := HK4.out; omega⟩, ⟨by (try simp only [hl3_2]); (try simp only [hl3_3]); (with_reducible repeat (first | apply Kd.R_alloc | apply Kd.R_drewN | apply Kd.R_drew)); exact HO_3.out⟩, ⟨by repeat (first | (with_reducible first | exact HB.out | apply below_alloc | apply pw_below_drewN | apply below_drew1) | exact HB.out)⟩⟩
                                              · rw [if_neg c31] at H
                                                have c31b0 : ((Go.bits .and .i64 (ji30) 1) == 1) = false := beq_eq_false_iff_ne.mpr c31
                                                have c31b1 : ((Go.bits .and .i64 (ji30) 1) != 1) = true := bne_iff_ne.mpr c31
                                                (try (have c31h0 := c31b0; simp only [hl3_2, hl3_3] at c31h0))
                                                (try (have c31h1 := c31b1; simp only [hl3_2, hl3_3] at c31h1))
                                                replace H := Option.bind_eq_some_iff.mp H
                                                obtain ⟨t116, A320, H⟩ := H
                                                replace H : (impl_CountOrders.l2 k4 l0 x3_3 x30_2 x35_3 (rd l0 x35_3) (!t116) (y109.length : Int) x30_2 l0 (l0.length : Int) x35_3 l0 (l0.length : Int) (wrap64 (x47_4 + 1))) = some r := H
                                                have A32 := Aside0.mk A320
                                                clear A320
                                                have H' := Aside0.mk H
                                                clear H
                                                have p115 : 0 ≤ (x47_4 : Int) := of_decide_eq_true (by first | (with_reducible assumption) | assumption)
                                                have q115 : x47_4 < (l0.length : Int) := of_decide_eq_true (by first | (with_reducible assumption) | assumption)
                                                obtain ⟨ad115, e115, hx115_0⟩ := Kd.at_int HR0.out x47_4 p115 q115
                                                obtain rfl : ad114 = ad115 := (by injection e115)
                                                replace hx115_0 := (HB.out.cell (World.block_lt_of_cell? w _ hx115_0)).trans hx115_0
                                                replace p115 := eq_true p115
                                                replace q115 := eq_true q115
                                                go_wp2_with (first | (go_at_call 63; (with_reducible refine (impl_part.calls (rd l0 x47_4) (rd l0 x35_3) t116 _ A32.out).mono ?_); rintro e w' ⟨rfl, ⟨nd, rfl⟩⟩))
                                                go_roundg k4
                                                case measure => have := HJ1.out; have := HK2.out; have := HK3.out; have := HK4.out; omega
                                                case rel => exact ⟨(!t116), (wrap64 (x47_4 + 1)), (by first | rfl | (simp; done) | (simp [*]; done)), (by first | rfl | (simp; done) | (simp [*]; done)), H', ⟨by have := HJ1.out; have := HK2.out; have := HK3.out; have := HK4.out; omega⟩, ⟨by (try simp only [hl3_2]); (try simp only [hl3_3]); (with_reducible repeat (first | apply Kd.R_alloc | apply Kd.R_drewN | apply Kd.R_drew)); exact HO_3.out⟩, ⟨by repeat (first | (with_reducible first | exact HB.out | apply below_alloc | apply pw_below_drewN | apply below_drew1) | exact HB.out)⟩⟩
                                          · replace c27 := Bool.eq_false_iff.mpr c27
                                            subst c27
                                            have H1 : (impl_CountOrders.l2 k4 l0 x3_3 x30_2 x35_3 (rd l0 x35_3) false (y109.length : Int) x30_2 l0 (l0.length : Int) x35_3 l0 (l0.length : Int) (wrap64 (x47_4 + 1))) = some r := by rw [if_neg (show ¬ (false = true) by decide)] at H; exact H
                                            clear H
                                            have H := H1
                                            clear H1
                                            have H' := Aside0.mk H
                                            clear H
                                            have p115 : 0 ≤ (x47_4 : Int) := of_decide_eq_true (by first | (with_reducible assumption) | assumption)
                                            have q115 : x47_4 < (l0.length : Int) := of_decide_eq_true (by first | (with_reducible assumption) | assumption)
                                            obtain ⟨ad115, e115, hx115_0⟩ := Kd.at_int HR0.out x47_4 p115 q115
                                            obtain rfl : ad114 = ad115 := (by injection e115)
                                            replace hx115_0 := (HB.out.cell (World.block_lt_of_cell? w _ hx115_0)).trans hx115_0
                                            replace p115 := eq_true p115
                                            replace q115 := eq_true q115
                                            go_wp2
                                            go_roundg k4
                                            case measure => have := HJ1.out; have := HK2.out; have := HK3.out; have := HK4.out; omega
                                            case rel => exact ⟨(false), (wrap64 (x47_4 + 1)), (by first | rfl | (simp; done) | (simp [*]; done)), (by first | rfl | (simp; done) | (simp [*]; done)), H', ⟨by have := HJ1.out; have := HK2.out; have := HK3.out; have := HK4.out; omega⟩, ⟨by (try simp only [hl3_2]); (try simp only [hl3_3]); (with_reducible repeat (first | apply Kd.R_alloc | apply Kd.R_drewN | apply Kd.R_drew)); exact HO_3.out⟩, ⟨by repeat (first | (with_reducible first | exact HB.out | apply below_alloc | apply pw_below_drewN | apply below_drew1) | exact HB.out)⟩⟩
                                        · rw [if_neg c26] at H
                                          exact absurd H (by simp)
                                      · rw [if_neg c25] at H
                                        exact absurd H (by simp)
                                    · rw [if_neg c24] at H
                                      have c24b0 : decide (x47_4 < (l0.length : Int)) = false := decide_eq_false c24
                                      (try (have c24h0 := c24b0; simp only [hl3_2, hl3_3] at c24h0))
                                      clear c24
                                      by_cases c33 : x7_4 = true
                                      · subst c33
                                        have H1 : (if 0 ≤ x35_3 then (if 0 ≤ (Go.bits .or .i64 x30_2 (shl .i64 1 x35_3)) then (if (Go.bits .or .i64 x30_2 (shl .i64 1 x35_3)) < (x3_3.length : Int) then (if 0 ≤ x30_2 then (if x30_2 < (x3_3.length : Int) then (impl_CountOrders.l1 k4 l0 (x3_3.set ((Go.bits .or .i64 x30_2 (shl .i64 1 x35_3)) : Int).toNat (wrap64 ((rd x3_3 (Go.bits .or .i64 x30_2 (shl .i64 1 x35_3))) + (rd x3_3 x30_2)))) x30_2 (y109.length : Int) x30_2 l0 (l0.length : Int) (wrap64 (x35_3 + 1))) else (none)) else (none)) else (none)) else (none)) else (none)) = some r := by rw [if_pos rfl] at H; exact H
                                        clear H
                                        have H := H1
                                        clear H1
                                        by_cases c34 : 0 ≤ x35_3
                                        · rw [if_pos c34] at H
                                          have c34b0 := eq_true c34
                                          have c34b1 : decide (0 ≤ x35_3) = true := decide_eq_true c34
                                          clear c34
                                          obtain ⟨ji35, hji35⟩ : ∃ j_ : Int, (shl .i64 1 x35_3) = j_ := ⟨_, rfl⟩
                                          replace H : (if 0 ≤ (Go.bits .or .i64 x30_2 (ji35)) then (if (Go.bits .or .i64 x30_2 (ji35)) < (x3_3.length : Int) then (if 0 ≤ x30_2 then (if x30_2 < (x3_3.length : Int) then (impl_CountOrders.l1 k4 l0 (x3_3.set ((Go.bits .or .i64 x30_2 (ji35)) : Int).toNat (wrap64 ((rd x3_3 (Go.bits .or .i64 x30_2 (ji35))) + (rd x3_3 x30_2)))) x30_2 (y109.length : Int) x30_2 l0 (l0.length : Int) (wrap64 (x35_3 + 1))) else (none)) else (none)) else (none)) else (none)) = some r := by first | (rw [hji35] at H; exact H) | (simp only [hji35] at H ⊢; exact H)
                                          have hji35_ : (IntKind.i64.wrap (1 * 2 ^ min x35_3.toNat 64)) = ji35 := hji35
                                          have hji35z : x35_3 ≤ 64 → (IntKind.i64.wrap (1 * 2 ^ x35_3.toNat)) = ji35 := shl_small hji35
                                          have hji35u : (IntKind.i64.wrap (2 ^ min x35_3.toNat 64)) = ji35 := by have h_ := hji35_; rw [Int.one_mul] at h_; exact h_
                                          have hji35v : x35_3 ≤ 64 → (IntKind.i64.wrap (2 ^ x35_3.toNat)) = ji35 := fun hle_ => by have h_ := hji35z hle_; rw [Int.one_mul] at h_; exact h_
                                          have hji35y : (wrap64 (1 * 2 ^ min x35_3.toNat 64)) = ji35 := (i64_w _).symm.trans hji35_
                                          have hji35x : x35_3 ≤ 64 → (wrap64 (1 * 2 ^ x35_3.toNat)) = ji35 := fun h_ => (i64_w _).symm.trans (hji35z h_)
                                          by_cases c36 : 0 ≤ (Go.bits .or .i64 x30_2 (ji35))
                                          · rw [if_pos c36] at H
                                            have c36b0 : decide (0 ≤ (Go.bits .or .i64 x30_2 (ji35))) = true := decide_eq_true c36
                                            (try (have c36h0 := c36b0; simp only [hl3_2, hl3_3] at c36h0))
                                            clear c36
                                            by_cases c37 : (Go.bits .or .i64 x30_2 (ji35)) < (x3_3.length : Int)
                                            · rw [if_pos c37] at H
                                              have c37b0 : decide ((Go.bits .or .i64 x30_2 (ji35)) < (x3_3.length : Int)) = true := decide_eq_true c37
                                              (try (have c37h0 := c37b0; simp only [hl3_2, hl3_3] at c37h0))
                                              clear c37
                                              by_cases c38 : 0 ≤ x30_2
                                              · rw [if_pos c38] at H
                                                have c38b0 : decide (0 ≤ x30_2) = true := decide_eq_true c38
                                                (try (have c38h0 := c38b0; simp only [hl3_2, hl3_3] at c38h0))
                                                clear c38
                                                by_cases c39 : x30_2 < (x3_3.length : Int)
                                                · rw [if_pos c39] at H
                                                  have c39b0 : decide (x30_2 < (x3_3.length : Int)) = true := decide_eq_true c39
                                                  (try (have c39h0 := c39b0; simp only [hl3_2, hl3_3] at c39h0))
                                                  clear c39
                                                  obtain ⟨y119, hy119⟩ : ∃ y_ : List Int, y_ = (x3_3.set ((Go.bits .or .i64 x30_2 (ji35)) : Int).toNat (wrap64 ((rd x3_3 (Go.bits .or .i64 x30_2 (ji35))) + (rd x3_3 x30_2)))) := ⟨_, rfl⟩
                                                  replace H : (impl_CountOrders.l1 k4 l0 y119 x30_2 (y109.length : Int) x30_2 l0 (l0.length : Int) (wrap64 (x35_3 + 1))) = some r := by first | (rw [hy119]; with_reducible exact H) | (have H2_ := (Option.bind_some _ _).symm.trans H; rw [hy119]; with_reducible exact H2_) | (have H2_ := (Option.bind_some _ _).symm.trans H; with_reducible exact H2_) | with_reducible exact H | (rw [hy119]; exact H) | exact H
                                                  have Ny119 := Aside0.mk hy119
                                                  clear hy119
                                                  have H' := Aside0.mk H
                                                  clear H
                                                  try go_wp2
                                                  have n0_ := Aside0.mk (Kd.R_drew HO_3.out)
                                                  have n1_ := Aside0.mk (below_drew1 HB.out)
                                                  clear HO_3
                                                  clear HB
                                                  have HO_3 := n0_
                                                  have HB := n1_
                                                  clear n0_ n1_
                                                  have p117 : 0 ≤ ((Go.bits .or .i64 x30_2 (ji35)) : Int) := of_decide_eq_true (by first | (with_reducible assumption) | assumption)
                                                  have q117 : (Go.bits .or .i64 x30_2 (ji35)) < (x3_3.length : Int) := of_decide_eq_true (by first | (with_reducible assumption) | assumption)
                                                  obtain ⟨ad117, e117, hx117_0⟩ := Kd.at_int (Kd.R_reads' HO_3.out).2.2 (Go.bits .or .i64 x30_2 (ji35)) p117 q117
                                                  obtain rfl : (⟨go12, 0, none⟩ : Addr) = ad117 := (by injection e117)
                                                  (first | simp only [add_plain] at hx117_0 | simp only [add_at] at hx117_0 | simp only [Addr.add, Nat.zero_add] at hx117_0 | skip)
                                                  replace p117 := eq_true p117
                                                  replace q117 := eq_true q117
                                                  have p118 : 0 ≤ (x30_2 : Int) := of_decide_eq_true (by first | (with_reducible assumption) | assumption)
                                                  have q118 : x30_2 < (x3_3.length : Int) := of_decide_eq_true (by first | (with_reducible assumption) | assumption)
                                                  obtain ⟨ad118, e118, hx118_0⟩ := Kd.at_int (Kd.R_reads' HO_3.out).2.2 x30_2 p118 q118
                                                  obtain rfl : (⟨go12, 0, none⟩ : Addr) = ad118 := (by injection e118)
                                                  (first | simp only [add_plain] at hx118_0 | simp only [add_at] at hx118_0 | simp only [Addr.add, Nat.zero_add] at hx118_0 | skip)
                                                  replace p118 := eq_true p118
                                                  replace q118 := eq_true q118
                                                  have p40 : 0 ≤ ((Go.bits .or .i64 x30_2 (ji35)) : Int) := of_decide_eq_true (by first | (with_reducible assumption) | assumption)
                                                  have q40 : ((Go.bits .or .i64 x30_2 (ji35)) : Int) < ((x3_3.length : Int) : Int) := of_decide_eq_true (by first | (with_reducible assumption) | assumption)
                                                  obtain ⟨hx40_0, hf40_0⟩ := Kd.R_celln 0 HO_3.out ((Go.bits .or .i64 x30_2 (ji35)) : Int) p40 q40
                                                  replace p40 := eq_true p40
                                                  replace q40 := eq_true q40
                                                  have HP42 := Kd.R_putn HO_3.out ((Go.bits .or .i64 x30_2 (ji35)) : Int) (wrap64 ((rd x3_3 (Go.bits .or .i64 x30_2 (ji35))) + (rd x3_3 x30_2)))
                                                  rw [← Ny119.out] at HP42
                                                  have HQ42 := Aside0.mk HP42
                                                  clear HP42
                                                  refine start_ (n := 14) (S := fun w' => w'.cell? ⟨go12, ((Go.bits .or .i64 x30_2 (ji35))).toNat, none⟩ = some (.int .i64 (rd x3_3 (Go.bits .or .i64 x30_2 (ji35)))) ∧ w'.cell? ⟨go12, (x30_2).toNat, none⟩ = some (.int .i64 (rd x3_3 x30_2))) (ds := [13]) #[false, false, false, false, false, false, false, false, false, false, false, false, false, false] (by kernel_rfl) rfl rfl ⟨hx117_0, hx118_0⟩ (fun hHeld => ?_); refine with_tabW impl_CountOrders.tab19 impl_CountOrders.bits19 (fun HT_ HW_ => ?_)
                                                  generalize wr.drew = w41 at HO_3 HB HQ42 hf40_0 hx117_0 hx118_0 hx40_0 hHeld ⊢
                                                  refine pure_ (i := 0) (N := some 73) (v := ?_) (a' := ?_) #[true, false, false, false, false, false, false, false, false, false, false, false, false, false] rfl rfl (any_of HT_.out (by kernel_rfl)) (fun _ _ _ h => h) (Or.inl ⟨by rfl, ?_⟩) ?_ ?_
                                                  rotate_left
                                                  · intro w'
                                                    go_simp
                                                    with_reducible rfl
                                                  rotate_left
                                                  · simp only [Act.put, List.setIfInBounds_toArray, List.set_cons_zero, List.set_cons_succ, i64_w, i32_w]
                                                    rfl
                                                  refine pure_ (i := 1) (N := some 74) (v := ?_) (a' := ?_) #[true, true, false, false, false, false, false, false, false, false, false, false, false, false] rfl rfl (any_of HT_.out (by kernel_rfl)) (fun _ _ _ h => h) (Or.inl ⟨by rfl, ?_⟩) ?_ ?_
                                                  rotate_left
                                                  · intro w'
                                                    go_simp
                                                    with_reducible rfl
                                                  rotate_left
                                                  · simp only [Act.put, List.setIfInBounds_toArray, List.set_cons_zero, List.set_cons_succ, i64_w, i32_w]
                                                    rfl
                                                  refine pure_ (i := 2) (N := some 75) (v := ?_) (a' := ?_) #[true, true, true, false, false, false, false, false, false, false, false, false, false, false] rfl rfl (any_of HT_.out (by kernel_rfl)) (fun _ _ _ h => h) (Or.inl ⟨by rfl, ?_⟩) ?_ ?_
                                                  rotate_left
                                                  · intro w'
                                                    go_simp
                                                    with_reducible rfl
                                                  rotate_left
                                                  · simp only [Act.put, List.setIfInBounds_toArray, List.set_cons_zero, List.set_cons_succ, i64_w, i32_w]
                                                    rfl
                                                  refine pure_ (i := 3) (N := some 76) (v := ?_) (a' := ?_) #[true, true, true, true, false, false, false, false, false, false, false, false, false, false] rfl rfl (any_of HT_.out (by kernel_rfl)) (fun _ _ _ h => h) (Or.inl ⟨by rfl, ?_⟩) ?_ ?_
                                                  rotate_left
                                                  · intro w'
                                                    go_simp
                                                    with_reducible rfl
                                                  rotate_left
                                                  · simp only [Act.put, List.setIfInBounds_toArray, List.set_cons_zero, List.set_cons_succ, i64_w, i32_w]
                                                    rfl
                                                  refine pure_ (i := 4) (N := some 77) (v := ?_) (a' := ?_) #[true, true, true, true, true, false, false, false, false, false, false, false, false, false] rfl rfl (any_of HT_.out (by kernel_rfl)) (fun _ _ _ h => h) (Or.inl ⟨by rfl, ?_⟩) ?_ ?_
                                                  rotate_left
                                                  · intro w'
                                                    go_simp
                                                    with_reducible rfl
                                                  rotate_left
                                                  · simp only [Act.put, List.setIfInBounds_toArray, List.set_cons_zero, List.set_cons_succ, i64_w, i32_w]
                                                    rfl
                                                  refine pure_ (i := 5) (N := some 78) (v := ?_) (a' := ?_) #[true, true, true, true, true, true, false, false, false, false, false, false, false, false] rfl rfl (any_of HT_.out (by kernel_rfl)) (fun _ _ _ h => h) (Or.inl ⟨by rfl, ?_⟩) ?_ ?_
                                                  rotate_left
                                                  · intro w'
                                                    go_simp
                                                    with_reducible rfl
                                                  rotate_left
                                                  · simp only [Act.put, List.setIfInBounds_toArray, List.set_cons_zero, List.set_cons_succ, i64_w, i32_w]
                                                    rfl
                                                  refine pure_ (i := 7) (N := some 80) (v := ?_) (a' := ?_) #[true, true, true, true, true, true, false, true, false, false, false, false, false, false] rfl rfl (any_of HT_.out (by kernel_rfl)) (fun _ _ _ h => h) (Or.inl ⟨by rfl, ?_⟩) ?_ ?_
                                                  rotate_left
                                                  · intro w'
                                                    go_simp
                                                    with_reducible rfl
                                                  rotate_left
                                                  · simp only [Act.put, List.setIfInBounds_toArray, List.set_cons_zero, List.set_cons_succ, i64_w, i32_w]
                                                    rfl
                                                  refine pure_ (i := 8) (N := some 81) (v := ?_) (a' := ?_) #[true, true, true, true, true, true, false, true, true, false, false, false, false, false] rfl rfl (any_of HT_.out (by kernel_rfl)) (fun _ _ _ h => h) (Or.inl ⟨by rfl, ?_⟩) ?_ ?_
                                                  rotate_left
                                                  · intro w'
                                                    go_simp
                                                    with_reducible rfl
                                                  rotate_left
                                                  · simp only [Act.put, List.setIfInBounds_toArray, List.set_cons_zero, List.set_cons_succ, i64_w, i32_w]
                                                    rfl
                                                  refine pure_ (i := 9) (N := some 82) (v := ?_) (a' := ?_) #[true, true, true, true, true, true, false, true, true, true, false, false, false, false] rfl rfl (any_of HT_.out (by kernel_rfl)) (fun _ _ _ h => h) (Or.inl ⟨by rfl, ?_⟩) ?_ ?_
                                                  rotate_left
                                                  · intro w'
                                                    go_simp
                                                    with_reducible rfl
                                                  rotate_left
                                                  · simp only [Act.put, List.setIfInBounds_toArray, List.set_cons_zero, List.set_cons_succ, i64_w, i32_w]
                                                    rfl
                                                  refine take_ (i := 6) (N := some 79) (v := ?_) (a' := ?_) #[true, true, true, true, true, true, true, true, true, true, false, false, false, false] rfl rfl (take_ofW HT_.out HW_.out (by kernel_rfl)) (fun _ _ _ h => h) (Or.inl ⟨by rfl, ?_⟩) hHeld ?_ ?_
                                                  rotate_left
                                                  · rintro w' ⟨s0, s1⟩
                                                    go_simp
                                                    with_reducible rfl
                                                  rotate_left
                                                  · simp only [Act.put, List.setIfInBounds_toArray, List.set_cons_zero, List.set_cons_succ, i64_w, i32_w]
                                                    rfl
                                                  refine take_ (i := 10) (N := some 83) (v := ?_) (a' := ?_) #[true, true, true, true, true, true, true, true, true, true, true, false, false, false] rfl rfl (take_ofW HT_.out HW_.out (by kernel_rfl)) (fun _ _ _ h => h) (Or.inl ⟨by rfl, ?_⟩) hHeld ?_ ?_
                                                  rotate_left
                                                  · rintro w' ⟨s0, s1⟩
                                                    go_simp
                                                    with_reducible rfl
                                                  rotate_left
                                                  · simp only [Act.put, List.setIfInBounds_toArray, List.set_cons_zero, List.set_cons_succ, i64_w, i32_w]
                                                    rfl
                                                  refine pure_ (i := 11) (N := some 84) (v := ?_) (a' := ?_) #[true, true, true, true, true, true, true, true, true, true, true, true, false, false] rfl rfl (any_of HT_.out (by kernel_rfl)) (fun _ _ _ h => h) (Or.inl ⟨by rfl, ?_⟩) ?_ ?_
                                                  rotate_left
                                                  · intro w'
                                                    go_simp
                                                    with_reducible rfl
                                                  rotate_left
                                                  · simp only [Act.put, List.setIfInBounds_toArray, List.set_cons_zero, List.set_cons_succ, i64_w, i32_w]
                                                    rfl
                                                  refine pure_ (i := 12) (N := some 85) (v := ?_) (a' := ?_) #[true, true, true, true, true, true, true, true, true, true, true, true, true, false] rfl rfl (any_of HT_.out (by kernel_rfl)) (fun _ _ _ h => h) (Or.inl ⟨by rfl, ?_⟩) ?_ ?_
                                                  rotate_left
                                                  · intro w'
                                                    go_simp
                                                    with_reducible rfl
                                                  rotate_left
                                                  · simp only [Act.put, List.setIfInBounds_toArray, List.set_cons_zero, List.set_cons_succ, i64_w, i32_w]
                                                    rfl
                                                  refine last_ (i := 13) (N := none) #[true, true, true, true, true, true, true, true, true, true, true, true, true, true] rfl rfl (one_of HT_.out (by kernel_rfl)) (by decide) (fun K hK => ?_)
                                                  refine skip_ (w1 := ?_) (by rfl) rfl ?_ ?_
                                                  rotate_left
                                                  · go_simp
                                                    rfl
                                                  refine hK.out _ _ ?_
                                                  clear hK K
                                                  refine done_ (done_of HT_.out (by kernel_rfl)) ?_
                                                  try go_wp2
                                                  (try simp only [← hl3_3])
                                                  go_roundg k4
                                                  case measure => have := HJ1.out; have := HK2.out; have := HK3.out; have := HK4.out; omega
                                                  case rel => exact ⟨(y119), (wrap64 (x35_3 + 1)), (by first | rfl | (simp; done) | (simp [*]; done)), H', ⟨by have := HJ1.out; have := HK2.out; have := HK3.out; have := HK4.out; omega⟩, ⟨by (try simp only [hl3_2]); (try simp only [hl3_3]); (with_reducible repeat (first | apply Kd.R_alloc | apply Kd.R_drewN | apply Kd.R_drew)); exact HQ42.out⟩, ⟨by repeat (first | (with_reducible first | exact HB.out | apply below_alloc | apply pw_below_drewN | apply below_drew1 | refine below_set ?_ GB12.out) | exact HB.out)⟩⟩
                                                · rw [if_neg c39] at H
                                                  exact absurd H (by simp)
                                              · rw [if_neg c38] at H
                                                exact absurd H (by simp)
                                            · rw [if_neg c37] at H
                                              exact absurd H (by simp)
                                          · rw [if_neg c36] at H
                                            exact absurd H (by simp)
                                        · rw [if_neg c34] at H
                                          exact absurd H (by simp)
                                      · replace c33 := Bool.eq_false_iff.mpr c33
                                        subst c33
                                        have H1 : (impl_CountOrders.l1 k4 l0 x3_3 x30_2 (y109.length : Int) x30_2 l0 (l0.length : Int) (wrap64 (x35_3 + 1))) = some r := by rw [if_neg (show ¬ (false = true) by decide)] at H; exact H
                                        clear H
                                        have H := H1
                                        clear H1
                                        have H' := Aside0.mk H
                                        clear H
                                        go_wp2
                                        (try simp only [← hl3_3])
                                        go_roundg k4
                                        case measure => have := HJ1.out; have := HK2.out; have := HK3.out; have := HK4.out; omega
                                        case rel => exact ⟨(x3_3), (wrap64 (x35_3 + 1)), (by first | rfl | (simp; done) | (simp [*]; done)), H', ⟨by have := HJ1.out; have := HK2.out; have := HK3.out; have := HK4.out; omega⟩, ⟨by (try simp only [hl3_2]); (try simp only [hl3_3]); (with_reducible repeat (first | apply Kd.R_alloc | apply Kd.R_drewN | apply Kd.R_drew)); exact HO_3.out⟩, ⟨by repeat (first | (with_reducible first | exact HB.out | apply below_alloc | apply pw_below_drewN | apply below_drew1) | exact HB.out)⟩⟩
                            · rw [if_neg c20] at H
                              exact absurd H (by simp)
                          · rw [if_neg c19] at H
                            exact absurd H (by simp)
                        · rw [if_neg c18] at H
                          have c18b0 : decide (x35_3 < (l0.length : Int)) = false := decide_eq_false c18
                          (try (have c18h0 := c18b0; simp only [hl3_2, hl3_3] at c18h0))
                          clear c18
                          have H' := Aside0.mk H
                          clear H
                          go_wp2
                          (try simp only [← hl3_2, ← hl3_3])
                          go_roundg k3
                          case measure => have := HJ1.out; have := HK2.out; have := HK3.out; omega
                          case rel => exact ⟨(x3_3), (wrap64 (x30_2 + 1)), (by first | rfl | (simp; done) | (simp [*]; done)), H', ⟨by have := HJ1.out; have := HK2.out; have := HK3.out; omega⟩, ⟨by (try simp only [hl3_2]); (try simp only [hl3_3]); (with_reducible repeat (first | apply Kd.R_alloc | apply Kd.R_drewN | apply Kd.R_drew)); exact HO_3.out⟩, ⟨by repeat (first | (with_reducible first | exact HB.out | apply below_alloc | apply pw_below_drewN | apply below_drew1) | exact HB.out)⟩⟩
                  · rw [if_neg c17] at H
                    have c17b0 : decide (x30_2 < (y109.length : Int)) = false := decide_eq_false c17
                    (try (have c17h0 := c17b0; simp only [hl3_2] at c17h0))
                    clear c17
                    obtain ⟨ji43, hji43⟩ : ∃ j_ : Int, (wrap64 ((x3_2.length : Int) - 1)) = j_ := ⟨_, rfl⟩
                    replace H : (if 0 ≤ (ji43) then (if (ji43) < (x3_2.length : Int) then (some (rd x3_2 (ji43))) else (none)) else (none)) = some r := by first | (rw [hji43] at H; exact H) | (simp only [hji43] at H ⊢; exact H)
                    have hji43w : (IntKind.i64.wrap ((x3_2.length : Int) - 1)) = ji43 := (i64_w _).trans hji43
                    by_cases c44 : 0 ≤ (ji43)
                    · rw [if_pos c44] at H
                      have c44b0 : decide (0 ≤ (ji43)) = true := decide_eq_true c44
                      (try (have c44h0 := c44b0; simp only [hl3_2] at c44h0))
                      clear c44
                      by_cases c45 : (ji43) < (x3_2.length : Int)
                      · rw [if_pos c45] at H
                        have c45b0 : decide ((ji43) < (x3_2.length : Int)) = true := decide_eq_true c45
                        (try (have c45h0 := c45b0; simp only [hl3_2] at c45h0))
                        clear c45
                        obtain rfl := Option.some.inj H
                        have p113 : 0 ≤ ((ji43) : Int) := of_decide_eq_true (by first | (with_reducible assumption) | assumption)
                        have q113 : (ji43) < (x3_2.length : Int) := of_decide_eq_true (by first | (with_reducible assumption) | assumption)
                        obtain ⟨ad113, e113, hx113_0⟩ := Kd.at_int (Kd.R_reads' HO_3.out).2.2 (ji43) p113 q113
                        obtain rfl : (⟨go12, 0, none⟩ : Addr) = ad113 := (by injection e113)
                        (first | simp only [add_plain] at hx113_0 | simp only [add_at] at hx113_0 | simp only [Addr.add, Nat.zero_add] at hx113_0 | skip)
                        replace p113 := eq_true p113
                        replace q113 := eq_true q113
                        go_wp2
                        go_ret
                        exact ⟨by first | rfl | (simp only [i64_w, i32_w]; rfl) | (simp only [i64_w, i32_w, wrap64_zero, Int.sub_zero, Int.add_zero, Int.mul_zero, Int.zero_mul]; rfl) | (simp [errW_none, errW_some] <;> rfl) | (simp only [← hji8, ← hji43]; first | rfl | (simp [errW_none, errW_some] <;> rfl)) | (simp [*, errW_none, errW_some] <;> rfl), by repeat (first | (with_reducible first | exact HB.out | apply below_alloc | apply pw_below_drewN | apply below_drew1) | exact HB.out)⟩
                      · rw [if_neg c45] at H
                        exact absurd H (by simp)
                    · rw [if_neg c44] at H
                      exact absurd H (by simp)
            · rw [if_neg c11] at H
              exact absurd H (by simp)
          · rw [if_neg c10] at H
            exact absurd H (by simp)
        · rw [if_neg c9] at H
          exact absurd H (by simp)

end Go.Proofs.Ythdgkjnhjihkpaa.Q
