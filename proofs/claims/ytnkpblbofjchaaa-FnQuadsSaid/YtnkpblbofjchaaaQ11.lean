/- Contracts of Go functions over this translation: each call returns what the Lean function of the same name gives, and writes into no memory that was there. Written by a program of this claim's author (mp.py) over the kit's print. Conditions: those that each theorem names. -/
import Derived.Test.YtnkpblbofjchaaaQ0
import Derived.Test.YtnkpblbofjchaaaQ3
import Derived.Test.YtnkpblbofjchaaaQ4
import Derived.Test.YtnkpblbofjchaaaQ5
import Derived.Test.YtnkpblbofjchaaaQ7
import Derived.Test.YtnkpblbofjchaaaQ10
namespace Go.Proofs.Ytnkpblbofjchaaa.Q
open Go.RowKit Go.Proofs.YtnkpblbofjchaaaW.PrintWords Go.Proofs.YtnkpblbofjchaaaW.PrintLast Go.Proofs.YtnkpblbofjchaaaW.PrintMore
attribute [local go_sem] max2_int min2_int max_two min_two max_three min_three max_four min_four   -- for this text's walks alone
set_option linter.unusedVariables false
set_option linter.unusedSimpArgs false

/-! ### laws_FnQuads: function 22 -/
mutual
def laws_FnQuads.j0 : Nat → List Int → List Int → List Int → List Int → Bool → Int → Int → Int → Option (Bool)
  | 0, _, _, _, _, _, _, _, _ => none
  | k + 1, x4, x5, x6, x8, x89, x411000, x411001, x411002 => if x89 = true then (none) else (if 0 ≤ (x4.length : Int) then (if (x4.length : Int) ≤ (x6.length : Int) then ((laws_ints.f k (x6.take ((x4.length : Int) : Int).toNat) x4).bind fun t427 => (if t427 = true then (if 0 ≤ (wrap64 (Int.tdiv (wrap64 ((x8.length : Int) - (x4.length : Int))) 2)) then (if (wrap64 (Int.tdiv (wrap64 ((x8.length : Int) - (x4.length : Int))) 2)) ≤ (wrap64 ((wrap64 (Int.tdiv (wrap64 ((x8.length : Int) - (x4.length : Int))) 2)) + (x4.length : Int))) then (if (wrap64 ((wrap64 (Int.tdiv (wrap64 ((x8.length : Int) - (x4.length : Int))) 2)) + (x4.length : Int))) ≤ (x8.length : Int) then ((laws_ints.f k ((x8.take ((wrap64 ((wrap64 (Int.tdiv (wrap64 ((x8.length : Int) - (x4.length : Int))) 2)) + (x4.length : Int))) : Int).toNat).drop ((wrap64 (Int.tdiv (wrap64 ((x8.length : Int) - (x4.length : Int))) 2)) : Int).toNat) x4).bind fun t432 => (if t432 = true then ((impl_CountFitting.f k x411000 x411001 x411002 ([] : List Int) x6).bind fun t433 => (if t433 = (x6.length : Int) then ((impl_CountFitting.f k x411000 x411001 x411002 ([] : List Int) x8).bind fun t434 => (laws_FnQuads.j1 k x4 x5 x6 x8 (wrap64 (Int.tdiv (wrap64 ((x8.length : Int) - (x4.length : Int))) 2)) (t434 != (x8.length : Int)) x411000 x411001 x411002)) else (none))) else (none))) else (none)) else (none)) else (none)) else (none))) else (none)) else (none))
def laws_FnQuads.j1 : Nat → List Int → List Int → List Int → List Int → Int → Bool → Int → Int → Int → Option (Bool)
  | 0, _, _, _, _, _, _, _, _, _ => none
  | k + 1, x4, x5, x6, x8, x12, x130, x411000, x411001, x411002 => if x130 = true then (none) else (if 0 ≤ (x4.length : Int) then (if (x4.length : Int) ≤ (x6.length : Int) then ((some (x6.drop ((x4.length : Int) : Int).toNat : List Int)).bind fun y435 => (laws_FnQuads.l0 k x5 x6 x8 x12 y435 (y435.length : Int) 0 x411000 x411001 x411002)) else (none)) else (none))
def laws_FnQuads.l0 : Nat → List Int → List Int → List Int → Int → List Int → Int → Int → Int → Int → Int → Option (Bool)
  | 0, _, _, _, _, _, _, _, _, _, _ => none
  | k + 1, x5, x6, x8, x12, x134, x135, x136, x411000, x411001, x411002 => if x136 < x135 then (if 0 ≤ x136 then (if x136 < (x134.length : Int) then ((laws_count.f k x5 (rd x134 x136)).bind fun t440 => (if t440 = 0 then (none) else (laws_FnQuads.l0 k x5 x6 x8 x12 x134 x135 (wrap64 (x136 + 1)) x411000 x411001 x411002))) else (none)) else (none)) else (laws_FnQuads.l1 k x5 x6 x8 x12 0 x411000 x411001 x411002)
def laws_FnQuads.l1 : Nat → List Int → List Int → List Int → Int → Int → Int → Int → Int → Option (Bool)
  | 0, _, _, _, _, _, _, _, _ => none
  | k + 1, x5, x6, x8, x12, x15, x411000, x411001, x411002 => if x15 < x12 then (if 0 ≤ x15 then (if x15 < (x8.length : Int) then (if 0 ≤ (wrap64 ((wrap64 ((x8.length : Int) - 1)) - x15)) then (if (wrap64 ((wrap64 ((x8.length : Int) - 1)) - x15)) < (x8.length : Int) then (if (rd x8 x15) = (rd x8 (wrap64 ((wrap64 ((x8.length : Int) - 1)) - x15))) then ((laws_count.f k x5 (rd x8 x15)).bind fun t444 => (if t444 = 0 then (none) else (laws_FnQuads.l1 k x5 x6 x8 x12 (wrap64 (x15 + 1)) x411000 x411001 x411002))) else (none)) else (none)) else (none)) else (none)) else (none)) else (laws_FnQuads.l2 k x6 x8 x5 (x5.length : Int) 0 x411000 x411001 x411002)
def laws_FnQuads.l2 : Nat → List Int → List Int → List Int → Int → Int → Int → Int → Int → Option (Bool)
  | 0, _, _, _, _, _, _, _, _ => none
  | k + 1, x6, x8, x172, x173, x174, x411000, x411001, x411002 => if x174 < x173 then (if 0 ≤ x174 then (if x174 < (x172.length : Int) then ((impl_CountFitting.f k x411000 x411001 x411002 x6 (([rd x172 x174] : List Int))).bind fun t449 => (if t449 = 0 then ((impl_CountFitting.f k x411000 x411001 x411002 x8 (([rd x172 x174, rd x172 x174] : List Int))).bind fun t453 => (if t453 = 2 then (none) else (laws_FnQuads.l2 k x6 x8 x172 x173 (wrap64 (x174 + 1)) x411000 x411001 x411002))) else (none))) else (none)) else (none)) else (some true)
end
def laws_FnQuads.f (k : Nat) (l0 : List Int) : Option (Bool) := if (l0.length : Int) > 1048576 then (some true) else ((spec_DrawQuadLine.f k l0).bind fun bt401 => ((impl_QuadLine.f k bt401.1 bt401.2.1 bt401.2.2.1 bt401.2.2.2.1 bt401.2.2.2.2).bind fun bt411 => ((impl_CenterLine.f k bt401.1 bt401.2.1 bt401.2.2.1 bt401.2.2.2.1 bt401.2.2.2.2).bind fun bt415 => ((spec_QuadLine.f k bt401.1 bt401.2.1 bt401.2.2.1 bt401.2.2.2.1 bt401.2.2.2.2).bind fun bt419 => (if bt419.2 = true then (if bt411.2 = true then (if bt415.2 = true then (if (bt411.1.length : Int) < (bt401.2.2.2.1.length : Int) then (none) else (if (bt415.1.length : Int) < (bt401.2.2.2.1.length : Int) then (none) else (laws_FnQuads.j0 k bt401.2.2.2.1 bt401.2.2.2.2 bt411.1 bt415.1 ((Int.tmod (wrap64 ((bt415.1.length : Int) - (bt401.2.2.2.1.length : Int))) 2) == 1) bt401.1 bt401.2.1 bt401.2.2.1))) else (none)) else (none)) else (if bt411.2 = true then (none) else (if bt415.2 = true then (none) else (some ((bt419.1.length : Int) == 0)))))))))
theorem laws_FnQuads.mono_l : ∀ k, (∀ y0 y1 y2 y3 y4 y5 y6 y7, LeO (laws_FnQuads.j0 k y0 y1 y2 y3 y4 y5 y6 y7) (laws_FnQuads.j0 (k + 1) y0 y1 y2 y3 y4 y5 y6 y7)) ∧ (∀ y0 y1 y2 y3 y4 y5 y6 y7 y8, LeO (laws_FnQuads.j1 k y0 y1 y2 y3 y4 y5 y6 y7 y8) (laws_FnQuads.j1 (k + 1) y0 y1 y2 y3 y4 y5 y6 y7 y8)) ∧ (∀ y0 y1 y2 y3 y4 y5 y6 y7 y8 y9, LeO (laws_FnQuads.l0 k y0 y1 y2 y3 y4 y5 y6 y7 y8 y9) (laws_FnQuads.l0 (k + 1) y0 y1 y2 y3 y4 y5 y6 y7 y8 y9)) ∧ (∀ y0 y1 y2 y3 y4 y5 y6 y7, LeO (laws_FnQuads.l1 k y0 y1 y2 y3 y4 y5 y6 y7) (laws_FnQuads.l1 (k + 1) y0 y1 y2 y3 y4 y5 y6 y7)) ∧ (∀ y0 y1 y2 y3 y4 y5 y6 y7, LeO (laws_FnQuads.l2 k y0 y1 y2 y3 y4 y5 y6 y7) (laws_FnQuads.l2 (k + 1) y0 y1 y2 y3 y4 y5 y6 y7))
  | 0 => ⟨fun _ _ _ _ _ _ _ _ r h => by simp [laws_FnQuads.j0] at h, fun _ _ _ _ _ _ _ _ _ r h => by simp [laws_FnQuads.j1] at h, fun _ _ _ _ _ _ _ _ _ _ r h => by simp [laws_FnQuads.l0] at h, fun _ _ _ _ _ _ _ _ r h => by simp [laws_FnQuads.l1] at h, fun _ _ _ _ _ _ _ _ r h => by simp [laws_FnQuads.l2] at h⟩
  | k + 1 => by
    obtain ⟨ih0, ih1, ih2, ih3, ih4⟩ := laws_FnQuads.mono_l k
    refine ⟨?_, ?_, ?_, ?_, ?_⟩
    · intro y0 y1 y2 y3 y4 y5 y6 y7
      unfold laws_FnQuads.j0
      repeat' first
      | (with_reducible exact ih0 _ _ _ _ _ _ _ _)
      | (with_reducible exact ih1 _ _ _ _ _ _ _ _ _)
      | (with_reducible exact ih2 _ _ _ _ _ _ _ _ _ _)
      | (with_reducible exact ih3 _ _ _ _ _ _ _ _)
      | (with_reducible exact ih4 _ _ _ _ _ _ _ _)
      | (with_reducible exact impl_CenterLine.mono _ _ _ _ _ _)
      | (with_reducible exact impl_CountFitting.mono _ _ _ _ _ _)
      | (with_reducible exact impl_QuadLine.mono _ _ _ _ _ _)
      | (with_reducible exact laws_count.mono _ _ _)
      | (with_reducible exact laws_ints.mono _ _ _)
      | (with_reducible exact spec_DrawQuadLine.mono _ _)
      | (with_reducible exact spec_QuadLine.mono _ _ _ _ _ _)
      | (with_reducible exact LeO.refl _)
      | (with_reducible exact LeO.none _)
      | (with_reducible refine LeO.ite ?_ ?_)
      | (with_reducible refine LeO.bind ?_ (fun _ => ?_))
      | exact ih0 _ _ _ _ _ _ _ _
      | exact ih1 _ _ _ _ _ _ _ _ _
      | exact ih2 _ _ _ _ _ _ _ _ _ _
      | exact ih3 _ _ _ _ _ _ _ _
      | exact ih4 _ _ _ _ _ _ _ _
      | exact impl_CenterLine.mono _ _ _ _ _ _
      | exact impl_CountFitting.mono _ _ _ _ _ _
      | exact impl_QuadLine.mono _ _ _ _ _ _
      | exact laws_count.mono _ _ _
      | exact laws_ints.mono _ _ _
      | exact spec_DrawQuadLine.mono _ _
      | exact spec_QuadLine.mono _ _ _ _ _ _
      | exact LeO.none _
      | refine LeO.ite ?_ ?_
      | refine LeO.bind ?_ (fun _ => ?_)
    · intro y0 y1 y2 y3 y4 y5 y6 y7 y8
      unfold laws_FnQuads.j1
      repeat' first
      | (with_reducible exact ih0 _ _ _ _ _ _ _ _)
      | (with_reducible exact ih1 _ _ _ _ _ _ _ _ _)
      | (with_reducible exact ih2 _ _ _ _ _ _ _ _ _ _)
      | (with_reducible exact ih3 _ _ _ _ _ _ _ _)
      | (with_reducible exact ih4 _ _ _ _ _ _ _ _)
      | (with_reducible exact impl_CenterLine.mono _ _ _ _ _ _)
      | (with_reducible exact impl_CountFitting.mono _ _ _ _ _ _)
      | (with_reducible exact impl_QuadLine.mono _ _ _ _ _ _)
      | (with_reducible exact laws_count.mono _ _ _)
      | (with_reducible exact laws_ints.mono _ _ _)
      | (with_reducible exact spec_DrawQuadLine.mono _ _)
      | (with_reducible exact spec_QuadLine.mono _ _ _ _ _ _)
      | (with_reducible exact LeO.refl _)
      | (with_reducible exact LeO.none _)
      | (with_reducible refine LeO.ite ?_ ?_)
      | (with_reducible refine LeO.bind ?_ (fun _ => ?_))
      | exact ih0 _ _ _ _ _ _ _ _
      | exact ih1 _ _ _ _ _ _ _ _ _
      | exact ih2 _ _ _ _ _ _ _ _ _ _
      | exact ih3 _ _ _ _ _ _ _ _
      | exact ih4 _ _ _ _ _ _ _ _
      | exact impl_CenterLine.mono _ _ _ _ _ _
      | exact impl_CountFitting.mono _ _ _ _ _ _
      | exact impl_QuadLine.mono _ _ _ _ _ _
      | exact laws_count.mono _ _ _
      | exact laws_ints.mono _ _ _
      | exact spec_DrawQuadLine.mono _ _
      | exact spec_QuadLine.mono _ _ _ _ _ _
      | exact LeO.none _
      | refine LeO.ite ?_ ?_
      | refine LeO.bind ?_ (fun _ => ?_)
    · intro y0 y1 y2 y3 y4 y5 y6 y7 y8 y9
      unfold laws_FnQuads.l0
      repeat' first
      | (with_reducible exact ih0 _ _ _ _ _ _ _ _)
      | (with_reducible exact ih1 _ _ _ _ _ _ _ _ _)
      | (with_reducible exact ih2 _ _ _ _ _ _ _ _ _ _)
      | (with_reducible exact ih3 _ _ _ _ _ _ _ _)
      | (with_reducible exact ih4 _ _ _ _ _ _ _ _)
      | (with_reducible exact impl_CenterLine.mono _ _ _ _ _ _)
      | (with_reducible exact impl_CountFitting.mono _ _ _ _ _ _)
      | (with_reducible exact impl_QuadLine.mono _ _ _ _ _ _)
      | (with_reducible exact laws_count.mono _ _ _)
      | (with_reducible exact laws_ints.mono _ _ _)
      | (with_reducible exact spec_DrawQuadLine.mono _ _)
      | (with_reducible exact spec_QuadLine.mono _ _ _ _ _ _)
      | (with_reducible exact LeO.refl _)
      | (with_reducible exact LeO.none _)
      | (with_reducible refine LeO.ite ?_ ?_)
      | (with_reducible refine LeO.bind ?_ (fun _ => ?_))
      | exact ih0 _ _ _ _ _ _ _ _
      | exact ih1 _ _ _ _ _ _ _ _ _
      | exact ih2 _ _ _ _ _ _ _ _ _ _
      | exact ih3 _ _ _ _ _ _ _ _
      | exact ih4 _ _ _ _ _ _ _ _
      | exact impl_CenterLine.mono _ _ _ _ _ _
      | exact impl_CountFitting.mono _ _ _ _ _ _
      | exact impl_QuadLine.mono _ _ _ _ _ _
      | exact laws_count.mono _ _ _
      | exact laws_ints.mono _ _ _
      | exact spec_DrawQuadLine.mono _ _
      | exact spec_QuadLine.mono _ _ _ _ _ _
      | exact LeO.none _
      | refine LeO.ite ?_ ?_
      | refine LeO.bind ?_ (fun _ => ?_)
    · intro y0 y1 y2 y3 y4 y5 y6 y7
      unfold laws_FnQuads.l1
      repeat' first
      | (with_reducible exact ih0 _ _ _ _ _ _ _ _)
      | (with_reducible exact ih1 _ _ _ _ _ _ _ _ _)
      | (with_reducible exact ih2 _ _ _ _ _ _ _ _ _ _)
      | (with_reducible exact ih3 _ _ _ _ _ _ _ _)
      | (with_reducible exact ih4 _ _ _ _ _ _ _ _)
      | (with_reducible exact impl_CenterLine.mono _ _ _ _ _ _)
      | (with_reducible exact impl_CountFitting.mono _ _ _ _ _ _)
      | (with_reducible exact impl_QuadLine.mono _ _ _ _ _ _)
      | (with_reducible exact laws_count.mono _ _ _)
      | (with_reducible exact laws_ints.mono _ _ _)
      | (with_reducible exact spec_DrawQuadLine.mono _ _)
      | (with_reducible exact spec_QuadLine.mono _ _ _ _ _ _)
      | (with_reducible exact LeO.refl _)
      | (with_reducible exact LeO.none _)
      | (with_reducible refine LeO.ite ?_ ?_)
      | (with_reducible refine LeO.bind ?_ (fun _ => ?_))
      | exact ih0 _ _ _ _ _ _ _ _
      | exact ih1 _ _ _ _ _ _ _ _ _
      | exact ih2 _ _ _ _ _ _ _ _ _ _
      | exact ih3 _ _ _ _ _ _ _ _
      | exact ih4 _ _ _ _ _ _ _ _
      | exact impl_CenterLine.mono _ _ _ _ _ _
      | exact impl_CountFitting.mono _ _ _ _ _ _
      | exact impl_QuadLine.mono _ _ _ _ _ _
      | exact laws_count.mono _ _ _
      | exact laws_ints.mono _ _ _
      | exact spec_DrawQuadLine.mono _ _
      | exact spec_QuadLine.mono _ _ _ _ _ _
      | exact LeO.none _
      | refine LeO.ite ?_ ?_
      | refine LeO.bind ?_ (fun _ => ?_)
    · intro y0 y1 y2 y3 y4 y5 y6 y7
      unfold laws_FnQuads.l2
      repeat' first
      | (with_reducible exact ih0 _ _ _ _ _ _ _ _)
      | (with_reducible exact ih1 _ _ _ _ _ _ _ _ _)
      | (with_reducible exact ih2 _ _ _ _ _ _ _ _ _ _)
      | (with_reducible exact ih3 _ _ _ _ _ _ _ _)
      | (with_reducible exact ih4 _ _ _ _ _ _ _ _)
      | (with_reducible exact impl_CenterLine.mono _ _ _ _ _ _)
      | (with_reducible exact impl_CountFitting.mono _ _ _ _ _ _)
      | (with_reducible exact impl_QuadLine.mono _ _ _ _ _ _)
      | (with_reducible exact laws_count.mono _ _ _)
      | (with_reducible exact laws_ints.mono _ _ _)
      | (with_reducible exact spec_DrawQuadLine.mono _ _)
      | (with_reducible exact spec_QuadLine.mono _ _ _ _ _ _)
      | (with_reducible exact LeO.refl _)
      | (with_reducible exact LeO.none _)
      | (with_reducible refine LeO.ite ?_ ?_)
      | (with_reducible refine LeO.bind ?_ (fun _ => ?_))
      | exact ih0 _ _ _ _ _ _ _ _
      | exact ih1 _ _ _ _ _ _ _ _ _
      | exact ih2 _ _ _ _ _ _ _ _ _ _
      | exact ih3 _ _ _ _ _ _ _ _
      | exact ih4 _ _ _ _ _ _ _ _
      | exact impl_CenterLine.mono _ _ _ _ _ _
      | exact impl_CountFitting.mono _ _ _ _ _ _
      | exact impl_QuadLine.mono _ _ _ _ _ _
      | exact laws_count.mono _ _ _
      | exact laws_ints.mono _ _ _
      | exact spec_DrawQuadLine.mono _ _
      | exact spec_QuadLine.mono _ _ _ _ _ _
      | exact LeO.none _
      | refine LeO.ite ?_ ?_
      | refine LeO.bind ?_ (fun _ => ?_)
theorem laws_FnQuads.mono : ∀ a0 k, LeO (laws_FnQuads.f k a0) (laws_FnQuads.f (k + 1) a0) := by
  intro a0 k
  obtain ⟨ih0, ih1, ih2, ih3, ih4⟩ := laws_FnQuads.mono_l k
  unfold laws_FnQuads.f
  repeat' first
      | (with_reducible exact ih0 _ _ _ _ _ _ _ _)
      | (with_reducible exact ih1 _ _ _ _ _ _ _ _ _)
      | (with_reducible exact ih2 _ _ _ _ _ _ _ _ _ _)
      | (with_reducible exact ih3 _ _ _ _ _ _ _ _)
      | (with_reducible exact ih4 _ _ _ _ _ _ _ _)
      | (with_reducible exact impl_CenterLine.mono _ _ _ _ _ _)
      | (with_reducible exact impl_CountFitting.mono _ _ _ _ _ _)
      | (with_reducible exact impl_QuadLine.mono _ _ _ _ _ _)
      | (with_reducible exact laws_count.mono _ _ _)
      | (with_reducible exact laws_ints.mono _ _ _)
      | (with_reducible exact spec_DrawQuadLine.mono _ _)
      | (with_reducible exact spec_QuadLine.mono _ _ _ _ _ _)
      | (with_reducible exact LeO.refl _)
      | (with_reducible exact LeO.none _)
      | (with_reducible refine LeO.ite ?_ ?_)
      | (with_reducible refine LeO.bind ?_ (fun _ => ?_))
      | exact ih0 _ _ _ _ _ _ _ _
      | exact ih1 _ _ _ _ _ _ _ _ _
      | exact ih2 _ _ _ _ _ _ _ _ _ _
      | exact ih3 _ _ _ _ _ _ _ _
      | exact ih4 _ _ _ _ _ _ _ _
      | exact impl_CenterLine.mono _ _ _ _ _ _
      | exact impl_CountFitting.mono _ _ _ _ _ _
      | exact impl_QuadLine.mono _ _ _ _ _ _
      | exact laws_count.mono _ _ _
      | exact laws_ints.mono _ _ _
      | exact spec_DrawQuadLine.mono _ _
      | exact spec_QuadLine.mono _ _ _ _ _ _
      | exact LeO.none _
      | refine LeO.ite ?_ ?_
      | refine LeO.bind ?_ (fun _ => ?_)
set_option maxHeartbeats 8000000 in
set_option maxRecDepth 100000 in
theorem laws_FnQuads.calls (k : Nat) (A0 : Option Addr) (c0 : Nat) (l0 : List Int) (r : Bool) (w : World) (hr0 : Kd.C (Kd.int .u8) w A0 l0.length l0) (hc0 : l0.length ≤ c0) (h : laws_FnQuads.f k l0 = some r) :
    Calls Try.prog 22 #[.slice A0 l0.length c0] w fun e w' => e = .returned (.bool r) ∧ Below w.heap.size w w' := by
  have hu25 := Try.underlying25
  have HR0 := Aside0.mk hr0
  have HC0 := Aside0.mk hc0
  clear hr0 hc0
  have HB := Aside0.mk (Below.refl w.heap.size w)
  have H : (if (l0.length : Int) > 1048576 then (some true) else ((spec_DrawQuadLine.f k l0).bind fun bt401 => ((impl_QuadLine.f k bt401.1 bt401.2.1 bt401.2.2.1 bt401.2.2.2.1 bt401.2.2.2.2).bind fun bt411 => ((impl_CenterLine.f k bt401.1 bt401.2.1 bt401.2.2.1 bt401.2.2.2.1 bt401.2.2.2.2).bind fun bt415 => ((spec_QuadLine.f k bt401.1 bt401.2.1 bt401.2.2.1 bt401.2.2.2.1 bt401.2.2.2.2).bind fun bt419 => (if bt419.2 = true then (if bt411.2 = true then (if bt415.2 = true then (if (bt411.1.length : Int) < (bt401.2.2.2.1.length : Int) then (none) else (if (bt415.1.length : Int) < (bt401.2.2.2.1.length : Int) then (none) else (laws_FnQuads.j0 k bt401.2.2.2.1 bt401.2.2.2.2 bt411.1 bt415.1 ((Int.tmod (wrap64 ((bt415.1.length : Int) - (bt401.2.2.2.1.length : Int))) 2) == 1) bt401.1 bt401.2.1 bt401.2.2.1))) else (none)) else (none)) else (if bt411.2 = true then (none) else (if bt415.2 = true then (none) else (some ((bt419.1.length : Int) == 0)))))))))) = some r := h
  clear h
  by_cases c2 : (l0.length : Int) > 1048576
  · rw [if_pos c2] at H
    have c2b0 : decide (1048576 < (l0.length : Int)) = true := decide_eq_true c2
    have c2b1 : decide (1048576 < l0.length) = true := decide_eq_true (by omega)
    clear c2
    obtain rfl := Option.some.inj H
    go_enter Try.func22, Try.ntmps22
    go_wp2
    repeat (go_quiet (fail); try go_wp2)
    go_ret
    exact ⟨by first | rfl | (simp only [i64_w, i32_w]; rfl) | (simp only [i64_w, i32_w, wrap64_zero, Int.sub_zero, Int.add_zero, Int.mul_zero, Int.zero_mul]; rfl) | (simp [errW_none, errW_some] <;> rfl) | (simp [*, errW_none, errW_some] <;> rfl), by repeat (first | (with_reducible first | exact HB.out | apply below_alloc | apply pw_below_drewN | apply below_drew1) | exact HB.out)⟩
  · rw [if_neg c2] at H
    have c2b0 : decide (1048576 < (l0.length : Int)) = false := decide_eq_false c2
    have c2b1 : decide (1048576 < l0.length) = false := decide_eq_false (by omega)
    clear c2
    replace H := Option.bind_eq_some_iff.mp H
    obtain ⟨⟨t401, t402, t403, t404, t407⟩, A30, H⟩ := H
    replace H : ((impl_QuadLine.f k t401 t402 t403 t404 t407).bind fun bt411 => ((impl_CenterLine.f k t401 t402 t403 t404 t407).bind fun bt415 => ((spec_QuadLine.f k t401 t402 t403 t404 t407).bind fun bt419 => (if bt419.2 = true then (if bt411.2 = true then (if bt415.2 = true then (if (bt411.1.length : Int) < (t404.length : Int) then (none) else (if (bt415.1.length : Int) < (t404.length : Int) then (none) else (laws_FnQuads.j0 k t404 t407 bt411.1 bt415.1 ((Int.tmod (wrap64 ((bt415.1.length : Int) - (t404.length : Int))) 2) == 1) t401 t402 t403))) else (none)) else (none)) else (if bt411.2 = true then (none) else (if bt415.2 = true then (none) else (some ((bt419.1.length : Int) == 0)))))))) = some r := H
    have A3 := Aside0.mk A30
    clear A30
    replace H := Option.bind_eq_some_iff.mp H
    obtain ⟨⟨t411, t414⟩, A40, H⟩ := H
    replace H : ((impl_CenterLine.f k t401 t402 t403 t404 t407).bind fun bt415 => ((spec_QuadLine.f k t401 t402 t403 t404 t407).bind fun bt419 => (if bt419.2 = true then (if t414 = true then (if bt415.2 = true then (if (t411.length : Int) < (t404.length : Int) then (none) else (if (bt415.1.length : Int) < (t404.length : Int) then (none) else (laws_FnQuads.j0 k t404 t407 t411 bt415.1 ((Int.tmod (wrap64 ((bt415.1.length : Int) - (t404.length : Int))) 2) == 1) t401 t402 t403))) else (none)) else (none)) else (if t414 = true then (none) else (if bt415.2 = true then (none) else (some ((bt419.1.length : Int) == 0))))))) = some r := H
    have A4 := Aside0.mk A40
    clear A40
    replace H := Option.bind_eq_some_iff.mp H
    obtain ⟨⟨t415, t418⟩, A50, H⟩ := H
    replace H : ((spec_QuadLine.f k t401 t402 t403 t404 t407).bind fun bt419 => (if bt419.2 = true then (if t414 = true then (if t418 = true then (if (t411.length : Int) < (t404.length : Int) then (none) else (if (t415.length : Int) < (t404.length : Int) then (none) else (laws_FnQuads.j0 k t404 t407 t411 t415 ((Int.tmod (wrap64 ((t415.length : Int) - (t404.length : Int))) 2) == 1) t401 t402 t403))) else (none)) else (none)) else (if t414 = true then (none) else (if t418 = true then (none) else (some ((bt419.1.length : Int) == 0)))))) = some r := H
    have A5 := Aside0.mk A50
    clear A50
    replace H := Option.bind_eq_some_iff.mp H
    obtain ⟨⟨t419, t422⟩, A60, H⟩ := H
    replace H : (if t422 = true then (if t414 = true then (if t418 = true then (if (t411.length : Int) < (t404.length : Int) then (none) else (if (t415.length : Int) < (t404.length : Int) then (none) else (laws_FnQuads.j0 k t404 t407 t411 t415 ((Int.tmod (wrap64 ((t415.length : Int) - (t404.length : Int))) 2) == 1) t401 t402 t403))) else (none)) else (none)) else (if t414 = true then (none) else (if t418 = true then (none) else (some ((t419.length : Int) == 0))))) = some r := H
    have A6 := Aside0.mk A60
    clear A60
    by_cases c7 : t422 = true
    · subst c7
      have H1 : (if t414 = true then (if t418 = true then (if (t411.length : Int) < (t404.length : Int) then (none) else (if (t415.length : Int) < (t404.length : Int) then (none) else (laws_FnQuads.j0 k t404 t407 t411 t415 ((Int.tmod (wrap64 ((t415.length : Int) - (t404.length : Int))) 2) == 1) t401 t402 t403))) else (none)) else (none)) = some r := by rw [if_pos rfl] at H; exact H
      clear H
      have H := H1
      clear H1
      have HC8 := Aside0.mk H
      clear H
      go_enter Try.func22, Try.ntmps22
      go_upto_region 9 with (first | (go_at_call 63; (try simp only [i64_w, i32_w]); (with_reducible refine (spec_DrawQuadLine.calls k _ _ l0 t401 t402 t403 t404 t407 _ ?side1 ?side2 A3.out).mono ?_); (case side1 => repeat (first | exact HR0.out | (with_reducible refine Kd.C_alloc ?_ _) | (with_reducible refine Kd.C_drewN ?_ _) | (with_reducible refine Kd.C_drew ?_))); (case side2 => exact HC0.out); rintro e w9 ⟨v405, v408, rfl, ho0, ho1, hb⟩; have n0_ := Aside0.mk (Kd.R_lower ho0 (below_size (by repeat (first | (with_reducible first | exact HB.out | apply below_alloc | apply pw_below_drewN | apply below_drew1) | exact HB.out)))); have n1_ := Aside0.mk (Kd.Q_lower ho1 (below_size (by repeat (first | (with_reducible first | exact HB.out | apply below_alloc | apply pw_below_drewN | apply below_drew1) | exact HB.out)))); have n2_ := Aside0.mk (below_step (by first | (with_reducible exact pw_below_drewN HB.out _) | repeat (first | (with_reducible first | exact HB.out | apply below_alloc | apply pw_below_drewN | apply below_drew1) | exact HB.out)) hb); clear HB; have HO406 := n0_; have HO409 := n1_; have HB := n2_; clear n0_ n1_ n2_; (try clear hb); (try clear hb2); (try clear hk); (try clear hi); (try clear ho0); (try clear ho1)) | ((with_reducible refine gate_dst (N := 3) rfl ?_); (try (refine gate_guard (by rfl) ?_; dsimp only)); refine box_event ?hg (N := 3) ?hd (cs := #[.int .i64 0, .int .i64 0, .int .i64 0]) (t := 25) ?hr ?_; (case hd => rfl); (case hg => rfl); (case hr => first | (go_simp; done) | (go_simp; rfl)); intro gb410 hg w10 hbox hb; have n0_ := Aside0.mk (Kd.R_below (by (with_reducible repeat (first | apply Kd.R_alloc | apply Kd.R_drewN | apply Kd.R_drew)); exact HO406.out) hb); have n1_ := Aside0.mk (Kd.Q_below (by (with_reducible repeat (first | apply Kd.Q_alloc | apply Kd.Q_drewN | apply Kd.Q_drew)); exact HO409.out) hb); have n2_ := Aside0.mk (below_step (by first | (with_reducible exact pw_below_drewN HB.out _) | repeat (first | (with_reducible first | exact HB.out | apply below_alloc | apply pw_below_drewN | apply below_drew1) | exact HB.out)) hb); have n3_ := Aside0.mk (hbox); have n4_ := Aside0.mk ((by rw [hg]; exact (below_size (by repeat (first | (with_reducible first | exact HB.out | apply below_alloc | apply pw_below_drewN | apply below_drew1) | exact HB.out))) : w.heap.size ≤ gb410)); have n5_ := Aside0.mk ((by rw [hg]; exact (below_size (by repeat (first | (with_reducible first | exact HB.out | apply below_alloc | apply pw_below_drewN | apply below_drew1) | exact HB.out))) : w.heap.size ≤ gb410)); clear HO406; clear HO409; clear HB; have HO406 := n0_; have HO409 := n1_; have HB := n2_; have BK410 := n3_; have GW410 := n4_; have GE410 := n5_; clear n0_ n1_ n2_ n3_ n4_ n5_; clear hb hbox hg; have hcz11_0 : w10.cell? ⟨gb410, 0, none⟩ = some (.int .i64 0) := (blk_cell BK410.out 0).trans rfl; have hcz11_1 : w10.cell? ⟨gb410, 1, none⟩ = some (.int .i64 0) := (blk_cell BK410.out 1).trans rfl; have hcz11_2 : w10.cell? ⟨gb410, 2, none⟩ = some (.int .i64 0) := (blk_cell BK410.out 2).trans rfl; have hfz11_0 := blk_frozen BK410.out 0; have hfz11_1 := blk_frozen BK410.out 1; have hfz11_2 := blk_frozen BK410.out 2; obtain ⟨Ao12, co12, eo12⟩ := Kd.R_slice HO406.out; subst eo12; obtain ⟨Ao13, co13, eo13, _⟩ := Kd.Q_slice HO409.out; subst eo13) | (go_at_call 59; (try simp only [i64_w, i32_w]); (with_reducible refine (impl_QuadLine.calls k t401 t402 t403 _ _ t404 _ _ t407 t411 t414 _ ?side1 ?side2 ?side3 ?side4 A4.out).mono ?_); (case side1 => refine (Kd.R_reads' (e := 3) (base := w.heap.size) (ok := fun k_ => some k_ ≠ (.slice Ao13 t407.length co13 : Value).ownBlock) (n := t404.length) (c := co12) ?_).2.2; exact (by (with_reducible repeat (first | apply Kd.R_alloc | apply Kd.R_drewN | apply Kd.R_drew)); exact (Kd.R_mono (Kd.R_far (p := ⟨gb410, 2, none⟩) (Kd.R_far (p := ⟨gb410, 1, none⟩) (Kd.R_far (p := ⟨gb410, 0, none⟩) (Kd.R_types HO406.out BK410.out (by decide)) (fun _ hk => hk.2) (.int .i64 t401)) (fun _ hk => hk.2) (.int .i64 t402)) (fun _ hk => hk.2) (.int .i64 t403)) (fun _ h_ => h_.1)))); (case side2 => exact (Kd.R_reads' HO406.out).2.1); (case side3 => refine (Kd.Q_reads' (e := 3) (base := w.heap.size) (ok := fun k_ => some k_ ≠ (.slice Ao12 t404.length co12 : Value).ownBlock) (n := t407.length) (c := co13) ?_).2.2; exact (by (with_reducible repeat (first | apply Kd.Q_alloc | apply Kd.Q_drewN | apply Kd.Q_drew)); exact (Kd.Q_mono (Kd.Q_far (p := ⟨gb410, 2, none⟩) (Kd.Q_far (p := ⟨gb410, 1, none⟩) (Kd.Q_far (p := ⟨gb410, 0, none⟩) (Kd.Q_types HO409.out BK410.out (by decide)) (fun _ hk => hk.2) (.int .i64 t401)) (fun _ hk => hk.2) (.int .i64 t402)) (fun _ hk => hk.2) (.int .i64 t403)) (fun _ h_ => h_.1)))); (case side4 => exact (Kd.Q_reads' HO409.out).2.1); rintro e w14 ⟨v412, rfl, ho0, hb⟩; have n0_ := Aside0.mk (Kd.R_elder' (by (with_reducible repeat (first | apply Kd.R_alloc | apply Kd.R_drewN | apply Kd.R_drew)); exact (Kd.R_mono (Kd.R_far (p := ⟨gb410, 2, none⟩) (Kd.R_far (p := ⟨gb410, 1, none⟩) (Kd.R_far (p := ⟨gb410, 0, none⟩) (Kd.R_types HO406.out BK410.out (by decide)) (fun _ hk => hk.2) (.int .i64 t401)) (fun _ hk => hk.2) (.int .i64 t402)) (fun _ hk => hk.2) (.int .i64 t403)) (fun _ h_ => h_.1))) (Kd.R_base ho0) hb); have n1_ := Aside0.mk (Kd.Q_elder' (by (with_reducible repeat (first | apply Kd.Q_alloc | apply Kd.Q_drewN | apply Kd.Q_drew)); exact (Kd.Q_mono (Kd.Q_far (p := ⟨gb410, 2, none⟩) (Kd.Q_far (p := ⟨gb410, 1, none⟩) (Kd.Q_far (p := ⟨gb410, 0, none⟩) (Kd.Q_types HO409.out BK410.out (by decide)) (fun _ hk => hk.2) (.int .i64 t401)) (fun _ hk => hk.2) (.int .i64 t402)) (fun _ hk => hk.2) (.int .i64 t403)) (fun _ h_ => h_.1))) (Kd.R_base ho0) hb); have n2_ := Aside0.mk (Kd.R_lower (Kd.R_new' (Kd.R_new' ho0 (Kd.R_lt (by (with_reducible repeat (first | apply Kd.R_alloc | apply Kd.R_drewN | apply Kd.R_drew)); exact (Kd.R_mono (Kd.R_far (p := ⟨gb410, 2, none⟩) (Kd.R_far (p := ⟨gb410, 1, none⟩) (Kd.R_far (p := ⟨gb410, 0, none⟩) (Kd.R_types HO406.out BK410.out (by decide)) (fun _ hk => hk.2) (.int .i64 t401)) (fun _ hk => hk.2) (.int .i64 t402)) (fun _ hk => hk.2) (.int .i64 t403)) (fun _ h_ => h_.1))))) (Kd.Q_lt (by (with_reducible repeat (first | apply Kd.Q_alloc | apply Kd.Q_drewN | apply Kd.Q_drew)); exact (Kd.Q_mono (Kd.Q_far (p := ⟨gb410, 2, none⟩) (Kd.Q_far (p := ⟨gb410, 1, none⟩) (Kd.Q_far (p := ⟨gb410, 0, none⟩) (Kd.Q_types HO409.out BK410.out (by decide)) (fun _ hk => hk.2) (.int .i64 t401)) (fun _ hk => hk.2) (.int .i64 t402)) (fun _ hk => hk.2) (.int .i64 t403)) (fun _ h_ => h_.1))))) (below_size (by repeat (first | (with_reducible first | exact HB.out | apply below_alloc | apply pw_below_drewN | apply below_drew1 | refine below_set ?_ GE410.out) | exact HB.out)))); have n3_ := Aside0.mk (blk_below (g := gb410) (o := .cells #[.int .i64 t401, .int .i64 t402, .int .i64 t403] 25 (0, 0)) (by (with_reducible repeat (first | refine blk_drewN ?_ _ | refine blk_drew ?_ | refine blk_alloc ?_ _)); refine blk_put (cs := #[.int .i64 t401, .int .i64 t402, .int .i64 0]) ?_ 2 _ rfl; (with_reducible repeat (first | refine blk_drewN ?_ _ | refine blk_drew ?_ | refine blk_alloc ?_ _)); refine blk_put (cs := #[.int .i64 t401, .int .i64 0, .int .i64 0]) ?_ 1 _ rfl; (with_reducible repeat (first | refine blk_drewN ?_ _ | refine blk_drew ?_ | refine blk_alloc ?_ _)); refine blk_put (cs := #[.int .i64 0, .int .i64 0, .int .i64 0]) ?_ 0 _ rfl; (with_reducible repeat (first | refine blk_drewN ?_ _ | refine blk_drew ?_ | refine blk_alloc ?_ _)); exact BK410.out) hb); have n4_ := Aside0.mk (below_step (by first | (with_reducible exact pw_below_drewN HB.out _) | repeat (first | (with_reducible first | exact HB.out | apply below_alloc | apply pw_below_drewN | apply below_drew1 | refine below_set ?_ GE410.out) | exact HB.out)) hb); clear HO406; clear HO409; clear BK410; clear HB; have HO406 := n0_; have HO409 := n1_; have HO413 := n2_; have BK410 := n3_; have HB := n4_; clear n0_ n1_ n2_ n3_ n4_; (try clear hb); (try clear hb2); (try clear hk); (try clear hi); (try clear ho0); have hcz15_0 : w14.cell? ⟨gb410, 0, none⟩ = some (.int .i64 t401) := (blk_cell BK410.out 0).trans rfl; have hcz15_1 : w14.cell? ⟨gb410, 1, none⟩ = some (.int .i64 t402) := (blk_cell BK410.out 1).trans rfl; have hcz15_2 : w14.cell? ⟨gb410, 2, none⟩ = some (.int .i64 t403) := (blk_cell BK410.out 2).trans rfl; have hfz15_0 := blk_frozen BK410.out 0; have hfz15_1 := blk_frozen BK410.out 1; have hfz15_2 := blk_frozen BK410.out 2) | (go_at_call 57; (try simp only [i64_w, i32_w]); (with_reducible refine (impl_CenterLine.calls k t401 t402 t403 _ _ t404 _ _ t407 t415 t418 _ ?side1 ?side2 ?side3 ?side4 A5.out).mono ?_); (case side1 => repeat (first | exact (Kd.R_reads' HO406.out).2.2 | (with_reducible refine Kd.C_alloc ?_ _) | (with_reducible refine Kd.C_drewN ?_ _) | (with_reducible refine Kd.C_drew ?_))); (case side2 => exact (Kd.R_reads' HO406.out).2.1); (case side3 => repeat (first | exact (Kd.Q_reads' HO409.out).2.2 | (with_reducible refine Kd.C_alloc ?_ _) | (with_reducible refine Kd.C_drewN ?_ _) | (with_reducible refine Kd.C_drew ?_))); (case side4 => exact (Kd.Q_reads' HO409.out).2.1); rintro e w16 ⟨v416, rfl, ho0, hb⟩; have n0_ := Aside0.mk (Kd.R_elder' (by (with_reducible repeat (first | apply Kd.R_alloc | apply Kd.R_drewN | apply Kd.R_drew)); exact HO406.out) (Kd.R_base ho0) hb); have n1_ := Aside0.mk (Kd.Q_elder' (by (with_reducible repeat (first | apply Kd.Q_alloc | apply Kd.Q_drewN | apply Kd.Q_drew)); exact HO409.out) (Kd.R_base ho0) hb); have n2_ := Aside0.mk (Kd.R_elder' (by (with_reducible repeat (first | apply Kd.R_alloc | apply Kd.R_drewN | apply Kd.R_drew)); exact HO413.out) (Kd.R_base ho0) hb); have n3_ := Aside0.mk (Kd.R_lower (Kd.R_new' (Kd.R_new' (Kd.R_new' ho0 (Kd.R_lt (by (with_reducible repeat (first | apply Kd.R_alloc | apply Kd.R_drewN | apply Kd.R_drew)); exact HO406.out))) (Kd.Q_lt (by (with_reducible repeat (first | apply Kd.Q_alloc | apply Kd.Q_drewN | apply Kd.Q_drew)); exact HO409.out))) (Kd.R_lt (by (with_reducible repeat (first | apply Kd.R_alloc | apply Kd.R_drewN | apply Kd.R_drew)); exact HO413.out))) (below_size (by repeat (first | (with_reducible first | exact HB.out | apply below_alloc | apply pw_below_drewN | apply below_drew1 | refine below_set ?_ GE410.out) | exact HB.out)))); have n4_ := Aside0.mk (blk_below (g := gb410) (o := .cells #[.int .i64 t401, .int .i64 t402, .int .i64 t403] 25 (0, 0)) (by (with_reducible repeat (first | refine blk_drewN ?_ _ | refine blk_drew ?_ | refine blk_alloc ?_ _)); exact BK410.out) hb); have n5_ := Aside0.mk (below_step (by first | (with_reducible exact pw_below_drewN HB.out _) | repeat (first | (with_reducible first | exact HB.out | apply below_alloc | apply pw_below_drewN | apply below_drew1 | refine below_set ?_ GE410.out) | exact HB.out)) hb); clear HO406; clear HO409; clear HO413; clear BK410; clear HB; have HO406 := n0_; have HO409 := n1_; have HO413 := n2_; have HO417 := n3_; have BK410 := n4_; have HB := n5_; clear n0_ n1_ n2_ n3_ n4_ n5_; (try clear hb); (try clear hb2); (try clear hk); (try clear hi); (try clear ho0); have hcz17_0 : w16.cell? ⟨gb410, 0, none⟩ = some (.int .i64 t401) := (blk_cell BK410.out 0).trans rfl; have hcz17_1 : w16.cell? ⟨gb410, 1, none⟩ = some (.int .i64 t402) := (blk_cell BK410.out 1).trans rfl; have hcz17_2 : w16.cell? ⟨gb410, 2, none⟩ = some (.int .i64 t403) := (blk_cell BK410.out 2).trans rfl; have hfz17_0 := blk_frozen BK410.out 0; have hfz17_1 := blk_frozen BK410.out 1; have hfz17_2 := blk_frozen BK410.out 2) | (go_at_call 58; (try simp only [i64_w, i32_w]); (with_reducible refine (spec_QuadLine.calls k t401 t402 t403 _ _ t404 _ _ t407 t419 true _ ?side1 ?side2 ?side3 ?side4 A6.out).mono ?_); (case side1 => repeat (first | exact (Kd.R_reads' HO406.out).2.2 | (with_reducible refine Kd.C_alloc ?_ _) | (with_reducible refine Kd.C_drewN ?_ _) | (with_reducible refine Kd.C_drew ?_))); (case side2 => exact (Kd.R_reads' HO406.out).2.1); (case side3 => repeat (first | exact (Kd.Q_reads' HO409.out).2.2 | (with_reducible refine Kd.C_alloc ?_ _) | (with_reducible refine Kd.C_drewN ?_ _) | (with_reducible refine Kd.C_drew ?_))); (case side4 => exact (Kd.Q_reads' HO409.out).2.1); rintro e w18 ⟨v420, rfl, ho0, hb⟩; have n0_ := Aside0.mk (Kd.R_elder' (by (with_reducible repeat (first | apply Kd.R_alloc | apply Kd.R_drewN | apply Kd.R_drew)); exact HO406.out) (Kd.R_base ho0) hb); have n1_ := Aside0.mk (Kd.Q_elder' (by (with_reducible repeat (first | apply Kd.Q_alloc | apply Kd.Q_drewN | apply Kd.Q_drew)); exact HO409.out) (Kd.R_base ho0) hb); have n2_ := Aside0.mk (Kd.R_elder' (by (with_reducible repeat (first | apply Kd.R_alloc | apply Kd.R_drewN | apply Kd.R_drew)); exact HO413.out) (Kd.R_base ho0) hb); have n3_ := Aside0.mk (Kd.R_elder' (by (with_reducible repeat (first | apply Kd.R_alloc | apply Kd.R_drewN | apply Kd.R_drew)); exact HO417.out) (Kd.R_base ho0) hb); have n4_ := Aside0.mk (Kd.R_lower (Kd.R_new' (Kd.R_new' (Kd.R_new' (Kd.R_new' ho0 (Kd.R_lt (by (with_reducible repeat (first | apply Kd.R_alloc | apply Kd.R_drewN | apply Kd.R_drew)); exact HO406.out))) (Kd.Q_lt (by (with_reducible repeat (first | apply Kd.Q_alloc | apply Kd.Q_drewN | apply Kd.Q_drew)); exact HO409.out))) (Kd.R_lt (by (with_reducible repeat (first | apply Kd.R_alloc | apply Kd.R_drewN | apply Kd.R_drew)); exact HO413.out))) (Kd.R_lt (by (with_reducible repeat (first | apply Kd.R_alloc | apply Kd.R_drewN | apply Kd.R_drew)); exact HO417.out))) (below_size (by repeat (first | (with_reducible first | exact HB.out | apply below_alloc | apply pw_below_drewN | apply below_drew1 | refine below_set ?_ GE410.out) | exact HB.out)))); have n5_ := Aside0.mk (blk_below (g := gb410) (o := .cells #[.int .i64 t401, .int .i64 t402, .int .i64 t403] 25 (0, 0)) (by (with_reducible repeat (first | refine blk_drewN ?_ _ | refine blk_drew ?_ | refine blk_alloc ?_ _)); exact BK410.out) hb); have n6_ := Aside0.mk (below_step (by first | (with_reducible exact pw_below_drewN HB.out _) | repeat (first | (with_reducible first | exact HB.out | apply below_alloc | apply pw_below_drewN | apply below_drew1 | refine below_set ?_ GE410.out) | exact HB.out)) hb); clear HO406; clear HO409; clear HO413; clear HO417; clear BK410; clear HB; have HO406 := n0_; have HO409 := n1_; have HO413 := n2_; have HO417 := n3_; have HO421 := n4_; have BK410 := n5_; have HB := n6_; clear n0_ n1_ n2_ n3_ n4_ n5_ n6_; (try clear hb); (try clear hb2); (try clear hk); (try clear hi); (try clear ho0)))
      repeat (go_quiet (first | (go_at_call 63; (try simp only [i64_w, i32_w]); (with_reducible refine (spec_DrawQuadLine.calls k _ _ l0 t401 t402 t403 t404 t407 _ ?side1 ?side2 A3.out).mono ?_); (case side1 => repeat (first | exact HR0.out | (with_reducible refine Kd.C_alloc ?_ _) | (with_reducible refine Kd.C_drewN ?_ _) | (with_reducible refine Kd.C_drew ?_))); (case side2 => exact HC0.out); rintro e w9 ⟨v405, v408, rfl, ho0, ho1, hb⟩; have n0_ := Aside0.mk (Kd.R_lower ho0 (below_size (by repeat (first | (with_reducible first | exact HB.out | apply below_alloc | apply pw_below_drewN | apply below_drew1) | exact HB.out)))); have n1_ := Aside0.mk (Kd.Q_lower ho1 (below_size (by repeat (first | (with_reducible first | exact HB.out | apply below_alloc | apply pw_below_drewN | apply below_drew1) | exact HB.out)))); have n2_ := Aside0.mk (below_step (by first | (with_reducible exact pw_below_drewN HB.out _) | repeat (first | (with_reducible first | exact HB.out | apply below_alloc | apply pw_below_drewN | apply below_drew1) | exact HB.out)) hb); clear HB; have HO406 := n0_; have HO409 := n1_; have HB := n2_; clear n0_ n1_ n2_; (try clear hb); (try clear hb2); (try clear hk); (try clear hi); (try clear ho0); (try clear ho1)) | ((with_reducible refine gate_dst (N := 3) rfl ?_); (try (refine gate_guard (by rfl) ?_; dsimp only)); refine box_event ?hg (N := 3) ?hd (cs := #[.int .i64 0, .int .i64 0, .int .i64 0]) (t := 25) ?hr ?_; (case hd => rfl); (case hg => rfl); (case hr => first | (go_simp; done) | (go_simp; rfl)); intro gb410 hg w10 hbox hb; have n0_ := Aside0.mk (Kd.R_below (by (with_reducible repeat (first | apply Kd.R_alloc | apply Kd.R_drewN | apply Kd.R_drew)); exact HO406.out) hb); have n1_ := Aside0.mk (Kd.Q_below (by (with_reducible repeat (first | apply Kd.Q_alloc | apply Kd.Q_drewN | apply Kd.Q_drew)); exact HO409.out) hb); have n2_ := Aside0.mk (below_step (by first | (with_reducible exact pw_below_drewN HB.out _) | repeat (first | (with_reducible first | exact HB.out | apply below_alloc | apply pw_below_drewN | apply below_drew1) | exact HB.out)) hb); have n3_ := Aside0.mk (hbox); have n4_ := Aside0.mk ((by rw [hg]; exact (below_size (by repeat (first | (with_reducible first | exact HB.out | apply below_alloc | apply pw_below_drewN | apply below_drew1) | exact HB.out))) : w.heap.size ≤ gb410)); have n5_ := Aside0.mk ((by rw [hg]; exact (below_size (by repeat (first | (with_reducible first | exact HB.out | apply below_alloc | apply pw_below_drewN | apply below_drew1) | exact HB.out))) : w.heap.size ≤ gb410)); clear HO406; clear HO409; clear HB; have HO406 := n0_; have HO409 := n1_; have HB := n2_; have BK410 := n3_; have GW410 := n4_; have GE410 := n5_; clear n0_ n1_ n2_ n3_ n4_ n5_; clear hb hbox hg; have hcz11_0 : w10.cell? ⟨gb410, 0, none⟩ = some (.int .i64 0) := (blk_cell BK410.out 0).trans rfl; have hcz11_1 : w10.cell? ⟨gb410, 1, none⟩ = some (.int .i64 0) := (blk_cell BK410.out 1).trans rfl; have hcz11_2 : w10.cell? ⟨gb410, 2, none⟩ = some (.int .i64 0) := (blk_cell BK410.out 2).trans rfl; have hfz11_0 := blk_frozen BK410.out 0; have hfz11_1 := blk_frozen BK410.out 1; have hfz11_2 := blk_frozen BK410.out 2; obtain ⟨Ao12, co12, eo12⟩ := Kd.R_slice HO406.out; subst eo12; obtain ⟨Ao13, co13, eo13, _⟩ := Kd.Q_slice HO409.out; subst eo13) | (go_at_call 59; (try simp only [i64_w, i32_w]); (with_reducible refine (impl_QuadLine.calls k t401 t402 t403 _ _ t404 _ _ t407 t411 t414 _ ?side1 ?side2 ?side3 ?side4 A4.out).mono ?_); (case side1 => refine (Kd.R_reads' (e := 3) (base := w.heap.size) (ok := fun k_ => some k_ ≠ (.slice Ao13 t407.length co13 : Value).ownBlock) (n := t404.length) (c := co12) ?_).2.2; exact (by (with_reducible repeat (first | apply Kd.R_alloc | apply Kd.R_drewN | apply Kd.R_drew)); exact (Kd.R_mono (Kd.R_far (p := ⟨gb410, 2, none⟩) (Kd.R_far (p := ⟨gb410, 1, none⟩) (Kd.R_far (p := ⟨gb410, 0, none⟩) (Kd.R_types HO406.out BK410.out (by decide)) (fun _ hk => hk.2) (.int .i64 t401)) (fun _ hk => hk.2) (.int .i64 t402)) (fun _ hk => hk.2) (.int .i64 t403)) (fun _ h_ => h_.1)))); (case side2 => exact (Kd.R_reads' HO406.out).2.1); (case side3 => refine (Kd.Q_reads' (e := 3) (base := w.heap.size) (ok := fun k_ => some k_ ≠ (.slice Ao12 t404.length co12 : Value).ownBlock) (n := t407.length) (c := co13) ?_).2.2; exact (by (with_reducible repeat (first | apply Kd.Q_alloc | apply Kd.Q_drewN | apply Kd.Q_drew)); exact (Kd.Q_mono (Kd.Q_far (p := ⟨gb410, 2, none⟩) (Kd.Q_far (p := ⟨gb410, 1, none⟩) (Kd.Q_far (p := ⟨gb410, 0, none⟩) (Kd.Q_types HO409.out BK410.out (by decide)) (fun _ hk => hk.2) (.int .i64 t401)) (fun _ hk => hk.2) (.int .i64 t402)) (fun _ hk => hk.2) (.int .i64 t403)) (fun _ h_ => h_.1)))); (case side4 => exact (Kd.Q_reads' HO409.out).2.1); rintro e w14 ⟨v412, rfl, ho0, hb⟩; have n0_ := Aside0.mk (Kd.R_elder' (by (with_reducible repeat (first | apply Kd.R_alloc | apply Kd.R_drewN | apply Kd.R_drew)); exact (Kd.R_mono (Kd.R_far (p := ⟨gb410, 2, none⟩) (Kd.R_far (p := ⟨gb410, 1, none⟩) (Kd.R_far (p := ⟨gb410, 0, none⟩) (Kd.R_types HO406.out BK410.out (by decide)) (fun _ hk => hk.2) (.int .i64 t401)) (fun _ hk => hk.2) (.int .i64 t402)) (fun _ hk => hk.2) (.int .i64 t403)) (fun _ h_ => h_.1))) (Kd.R_base ho0) hb); have n1_ := Aside0.mk (Kd.Q_elder' (by (with_reducible repeat (first | apply Kd.Q_alloc | apply Kd.Q_drewN | apply Kd.Q_drew)); exact (Kd.Q_mono (Kd.Q_far (p := ⟨gb410, 2, none⟩) (Kd.Q_far (p := ⟨gb410, 1, none⟩) (Kd.Q_far (p := ⟨gb410, 0, none⟩) (Kd.Q_types HO409.out BK410.out (by decide)) (fun _ hk => hk.2) (.int .i64 t401)) (fun _ hk => hk.2) (.int .i64 t402)) (fun _ hk => hk.2) (.int .i64 t403)) (fun _ h_ => h_.1))) (Kd.R_base ho0) hb); have n2_ := Aside0.mk (Kd.R_lower (Kd.R_new' (Kd.R_new' ho0 (Kd.R_lt (by (with_reducible repeat (first | apply Kd.R_alloc | apply Kd.R_drewN | apply Kd.R_drew)); exact (Kd.R_mono (Kd.R_far (p := ⟨gb410, 2, none⟩) (Kd.R_far (p := ⟨gb410, 1, none⟩) (Kd.R_far (p := ⟨gb410, 0, none⟩) (Kd.R_types HO406.out BK410.out (by decide)) (fun _ hk => hk.2) (.int .i64 t401)) (fun _ hk => hk.2) (.int .i64 t402)) (fun _ hk => hk.2) (.int .i64 t403)) (fun _ h_ => h_.1))))) (Kd.Q_lt (by (with_reducible repeat (first | apply Kd.Q_alloc | apply Kd.Q_drewN | apply Kd.Q_drew)); exact (Kd.Q_mono (Kd.Q_far (p := ⟨gb410, 2, none⟩) (Kd.Q_far (p := ⟨gb410, 1, none⟩) (Kd.Q_far (p := ⟨gb410, 0, none⟩) (Kd.Q_types HO409.out BK410.out (by decide)) (fun _ hk => hk.2) (.int .i64 t401)) (fun _ hk => hk.2) (.int .i64 t402)) (fun _ hk => hk.2) (.int .i64 t403)) (fun _ h_ => h_.1))))) (below_size (by repeat (first | (with_reducible first | exact HB.out | apply below_alloc | apply pw_below_drewN | apply below_drew1 | refine below_set ?_ GE410.out) | exact HB.out)))); have n3_ := Aside0.mk (blk_below (g := gb410) (o := .cells #[.int .i64 t401, .int .i64 t402, .int .i64 t403] 25 (0, 0)) (by (with_reducible repeat (first | refine blk_drewN ?_ _ | refine blk_drew ?_ | refine blk_alloc ?_ _)); refine blk_put (cs := #[.int .i64 t401, .int .i64 t402, .int .i64 0]) ?_ 2 _ rfl; (with_reducible repeat (first | refine blk_drewN ?_ _ | refine blk_drew ?_ | refine blk_alloc ?_ _)); refine blk_put (cs := #[.int .i64 t401, .int .i64 0, .int .i64 0]) ?_ 1 _ rfl; (with_reducible repeat (first | refine blk_drewN ?_ _ | refine blk_drew ?_ | refine blk_alloc ?_ _)); refine blk_put (cs := #[.int .i64 0, .int .i64 0, .int .i64 0]) ?_ 0 _ rfl; (with_reducible repeat (first | refine blk_drewN ?_ _ | refine blk_drew ?_ | refine blk_alloc ?_ _)); exact BK410.out) hb); have n4_ := Aside0.mk (below_step (by first | (with_reducible exact pw_below_drewN HB.out _) | repeat (first | (with_reducible first | exact HB.out | apply below_alloc | apply pw_below_drewN | apply below_drew1 | refine below_set ?_ GE410.out) | exact HB.out)) hb); clear HO406; clear HO409; clear BK410; clear HB; have HO406 := n0_; have HO409 := n1_; have HO413 := n2_; have BK410 := n3_; have HB := n4_; clear n0_ n1_ n2_ n3_ n4_; (try clear hb); (try clear hb2); (try clear hk); (try clear hi); (try clear ho0); have hcz15_0 : w14.cell? ⟨gb410, 0, none⟩ = some (.int .i64 t401) := (blk_cell BK410.out 0).trans rfl; have hcz15_1 : w14.cell? ⟨gb410, 1, none⟩ = some (.int .i64 t402) := (blk_cell BK410.out 1).trans rfl; have hcz15_2 : w14.cell? ⟨gb410, 2, none⟩ = some (.int .i64 t403) := (blk_cell BK410.out 2).trans rfl; have hfz15_0 := blk_frozen BK410.out 0; have hfz15_1 := blk_frozen BK410.out 1; have hfz15_2 := blk_frozen BK410.out 2) | (go_at_call 57; (try simp only [i64_w, i32_w]); (with_reducible refine (impl_CenterLine.calls k t401 t402 t403 _ _ t404 _ _ t407 t415 t418 _ ?side1 ?side2 ?side3 ?side4 A5.out).mono ?_); (case side1 => repeat (first | exact (Kd.R_reads' HO406.out).2.2 | (with_reducible refine Kd.C_alloc ?_ _) | (with_reducible refine Kd.C_drewN ?_ _) | (with_reducible refine Kd.C_drew ?_))); (case side2 => exact (Kd.R_reads' HO406.out).2.1); (case side3 => repeat (first | exact (Kd.Q_reads' HO409.out).2.2 | (with_reducible refine Kd.C_alloc ?_ _) | (with_reducible refine Kd.C_drewN ?_ _) | (with_reducible refine Kd.C_drew ?_))); (case side4 => exact (Kd.Q_reads' HO409.out).2.1); rintro e w16 ⟨v416, rfl, ho0, hb⟩; have n0_ := Aside0.mk (Kd.R_elder' (by (with_reducible repeat (first | apply Kd.R_alloc | apply Kd.R_drewN | apply Kd.R_drew)); exact HO406.out) (Kd.R_base ho0) hb); have n1_ := Aside0.mk (Kd.Q_elder' (by (with_reducible repeat (first | apply Kd.Q_alloc | apply Kd.Q_drewN | apply Kd.Q_drew)); exact HO409.out) (Kd.R_base ho0) hb); have n2_ := Aside0.mk (Kd.R_elder' (by (with_reducible repeat (first | apply Kd.R_alloc | apply Kd.R_drewN | apply Kd.R_drew)); exact HO413.out) (Kd.R_base ho0) hb); have n3_ := Aside0.mk (Kd.R_lower (Kd.R_new' (Kd.R_new' (Kd.R_new' ho0 (Kd.R_lt (by (with_reducible repeat (first | apply Kd.R_alloc | apply Kd.R_drewN | apply Kd.R_drew)); exact HO406.out))) (Kd.Q_lt (by (with_reducible repeat (first | apply Kd.Q_alloc | apply Kd.Q_drewN | apply Kd.Q_drew)); exact HO409.out))) (Kd.R_lt (by (with_reducible repeat (first | apply Kd.R_alloc | apply Kd.R_drewN | apply Kd.R_drew)); exact HO413.out))) (below_size (by repeat (first | (with_reducible first | exact HB.out | apply below_alloc | apply pw_below_drewN | apply below_drew1 | refine below_set ?_ GE410.out) | exact HB.out)))); have n4_ := Aside0.mk (blk_below (g := gb410) (o := .cells #[.int .i64 t401, .int .i64 t402, .int .i64 t403] 25 (0, 0)) (by (with_reducible repeat (first | refine blk_drewN ?_ _ | refine blk_drew ?_ | refine blk_alloc ?_ _)); exact BK410.out) hb); have n5_ := Aside0.mk (below_step (by first | (with_reducible exact pw_below_drewN HB.out _) | repeat (first | (with_reducible first | exact HB.out | apply below_alloc | apply pw_below_drewN | apply below_drew1 | refine below_set ?_ GE410.out) | exact HB.out)) hb); clear HO406; clear HO409; clear HO413; clear BK410; clear HB; have HO406 := n0_; have HO409 := n1_; have HO413 := n2_; have HO417 := n3_; have BK410 := n4_; have HB := n5_; clear n0_ n1_ n2_ n3_ n4_ n5_; (try clear hb); (try clear hb2); (try clear hk); (try clear hi); (try clear ho0); have hcz17_0 : w16.cell? ⟨gb410, 0, none⟩ = some (.int .i64 t401) := (blk_cell BK410.out 0).trans rfl; have hcz17_1 : w16.cell? ⟨gb410, 1, none⟩ = some (.int .i64 t402) := (blk_cell BK410.out 1).trans rfl; have hcz17_2 : w16.cell? ⟨gb410, 2, none⟩ = some (.int .i64 t403) := (blk_cell BK410.out 2).trans rfl; have hfz17_0 := blk_frozen BK410.out 0; have hfz17_1 := blk_frozen BK410.out 1; have hfz17_2 := blk_frozen BK410.out 2) | (go_at_call 58; (try simp only [i64_w, i32_w]); (with_reducible refine (spec_QuadLine.calls k t401 t402 t403 _ _ t404 _ _ t407 t419 true _ ?side1 ?side2 ?side3 ?side4 A6.out).mono ?_); (case side1 => repeat (first | exact (Kd.R_reads' HO406.out).2.2 | (with_reducible refine Kd.C_alloc ?_ _) | (with_reducible refine Kd.C_drewN ?_ _) | (with_reducible refine Kd.C_drew ?_))); (case side2 => exact (Kd.R_reads' HO406.out).2.1); (case side3 => repeat (first | exact (Kd.Q_reads' HO409.out).2.2 | (with_reducible refine Kd.C_alloc ?_ _) | (with_reducible refine Kd.C_drewN ?_ _) | (with_reducible refine Kd.C_drew ?_))); (case side4 => exact (Kd.Q_reads' HO409.out).2.1); rintro e w18 ⟨v420, rfl, ho0, hb⟩; have n0_ := Aside0.mk (Kd.R_elder' (by (with_reducible repeat (first | apply Kd.R_alloc | apply Kd.R_drewN | apply Kd.R_drew)); exact HO406.out) (Kd.R_base ho0) hb); have n1_ := Aside0.mk (Kd.Q_elder' (by (with_reducible repeat (first | apply Kd.Q_alloc | apply Kd.Q_drewN | apply Kd.Q_drew)); exact HO409.out) (Kd.R_base ho0) hb); have n2_ := Aside0.mk (Kd.R_elder' (by (with_reducible repeat (first | apply Kd.R_alloc | apply Kd.R_drewN | apply Kd.R_drew)); exact HO413.out) (Kd.R_base ho0) hb); have n3_ := Aside0.mk (Kd.R_elder' (by (with_reducible repeat (first | apply Kd.R_alloc | apply Kd.R_drewN | apply Kd.R_drew)); exact HO417.out) (Kd.R_base ho0) hb); have n4_ := Aside0.mk (Kd.R_lower (Kd.R_new' (Kd.R_new' (Kd.R_new' (Kd.R_new' ho0 (Kd.R_lt (by (with_reducible repeat (first | apply Kd.R_alloc | apply Kd.R_drewN | apply Kd.R_drew)); exact HO406.out))) (Kd.Q_lt (by (with_reducible repeat (first | apply Kd.Q_alloc | apply Kd.Q_drewN | apply Kd.Q_drew)); exact HO409.out))) (Kd.R_lt (by (with_reducible repeat (first | apply Kd.R_alloc | apply Kd.R_drewN | apply Kd.R_drew)); exact HO413.out))) (Kd.R_lt (by (with_reducible repeat (first | apply Kd.R_alloc | apply Kd.R_drewN | apply Kd.R_drew)); exact HO417.out))) (below_size (by repeat (first | (with_reducible first | exact HB.out | apply below_alloc | apply pw_below_drewN | apply below_drew1 | refine below_set ?_ GE410.out) | exact HB.out)))); have n5_ := Aside0.mk (blk_below (g := gb410) (o := .cells #[.int .i64 t401, .int .i64 t402, .int .i64 t403] 25 (0, 0)) (by (with_reducible repeat (first | refine blk_drewN ?_ _ | refine blk_drew ?_ | refine blk_alloc ?_ _)); exact BK410.out) hb); have n6_ := Aside0.mk (below_step (by first | (with_reducible exact pw_below_drewN HB.out _) | repeat (first | (with_reducible first | exact HB.out | apply below_alloc | apply pw_below_drewN | apply below_drew1 | refine below_set ?_ GE410.out) | exact HB.out)) hb); clear HO406; clear HO409; clear HO413; clear HO417; clear BK410; clear HB; have HO406 := n0_; have HO409 := n1_; have HO413 := n2_; have HO417 := n3_; have HO421 := n4_; have BK410 := n5_; have HB := n6_; clear n0_ n1_ n2_ n3_ n4_ n5_ n6_; (try clear hb); (try clear hb2); (try clear hk); (try clear hi); (try clear ho0))); go_upto_region 9 with (first | (go_at_call 63; (try simp only [i64_w, i32_w]); (with_reducible refine (spec_DrawQuadLine.calls k _ _ l0 t401 t402 t403 t404 t407 _ ?side1 ?side2 A3.out).mono ?_); (case side1 => repeat (first | exact HR0.out | (with_reducible refine Kd.C_alloc ?_ _) | (with_reducible refine Kd.C_drewN ?_ _) | (with_reducible refine Kd.C_drew ?_))); (case side2 => exact HC0.out); rintro e w9 ⟨v405, v408, rfl, ho0, ho1, hb⟩; have n0_ := Aside0.mk (Kd.R_lower ho0 (below_size (by repeat (first | (with_reducible first | exact HB.out | apply below_alloc | apply pw_below_drewN | apply below_drew1) | exact HB.out)))); have n1_ := Aside0.mk (Kd.Q_lower ho1 (below_size (by repeat (first | (with_reducible first | exact HB.out | apply below_alloc | apply pw_below_drewN | apply below_drew1) | exact HB.out)))); have n2_ := Aside0.mk (below_step (by first | (with_reducible exact pw_below_drewN HB.out _) | repeat (first | (with_reducible first | exact HB.out | apply below_alloc | apply pw_below_drewN | apply below_drew1) | exact HB.out)) hb); clear HB; have HO406 := n0_; have HO409 := n1_; have HB := n2_; clear n0_ n1_ n2_; (try clear hb); (try clear hb2); (try clear hk); (try clear hi); (try clear ho0); (try clear ho1)) | ((with_reducible refine gate_dst (N := 3) rfl ?_); (try (refine gate_guard (by rfl) ?_; dsimp only)); refine box_event ?hg (N := 3) ?hd (cs := #[.int .i64 0, .int .i64 0, .int .i64 0]) (t := 25) ?hr ?_; (case hd => rfl); (case hg => rfl); (case hr => first | (go_simp; done) | (go_simp; rfl)); intro gb410 hg w10 hbox hb; have n0_ := Aside0.mk (Kd.R_below (by (with_reducible repeat (first | apply Kd.R_alloc | apply Kd.R_drewN | apply Kd.R_drew)); exact HO406.out) hb); have n1_ := Aside0.mk (Kd.Q_below (by (with_reducible repeat (first | apply Kd.Q_alloc | apply Kd.Q_drewN | apply Kd.Q_drew)); exact HO409.out) hb); have n2_ := Aside0.mk (below_step (by first | (with_reducible exact pw_below_drewN HB.out _) | repeat (first | (with_reducible first | exact HB.out | apply below_alloc | apply pw_below_drewN | apply below_drew1) | exact HB.out)) hb); have n3_ := Aside0.mk (hbox); have n4_ := Aside0.mk ((by rw [hg]; exact (below_size (by repeat (first | (with_reducible first | exact HB.out | apply below_alloc | apply pw_below_drewN | apply below_drew1) | exact HB.out))) : w.heap.size ≤ gb410)); have n5_ := Aside0.mk ((by rw [hg]; exact (below_size (by repeat (first | (with_reducible first | exact HB.out | apply below_alloc | apply pw_below_drewN | apply below_drew1) | exact HB.out))) : w.heap.size ≤ gb410)); clear HO406; clear HO409; clear HB; have HO406 := n0_; have HO409 := n1_; have HB := n2_; have BK410 := n3_; have GW410 := n4_; have GE410 := n5_; clear n0_ n1_ n2_ n3_ n4_ n5_; clear hb hbox hg; have hcz11_0 : w10.cell? ⟨gb410, 0, none⟩ = some (.int .i64 0) := (blk_cell BK410.out 0).trans rfl; have hcz11_1 : w10.cell? ⟨gb410, 1, none⟩ = some (.int .i64 0) := (blk_cell BK410.out 1).trans rfl; have hcz11_2 : w10.cell? ⟨gb410, 2, none⟩ = some (.int .i64 0) := (blk_cell BK410.out 2).trans rfl; have hfz11_0 := blk_frozen BK410.out 0; have hfz11_1 := blk_frozen BK410.out 1; have hfz11_2 := blk_frozen BK410.out 2; obtain ⟨Ao12, co12, eo12⟩ := Kd.R_slice HO406.out; subst eo12; obtain ⟨Ao13, co13, eo13, _⟩ := Kd.Q_slice HO409.out; subst eo13) | (go_at_call 59; (try simp only [i64_w, i32_w]); (with_reducible refine (impl_QuadLine.calls k t401 t402 t403 _ _ t404 _ _ t407 t411 t414 _ ?side1 ?side2 ?side3 ?side4 A4.out).mono ?_); (case side1 => refine (Kd.R_reads' (e := 3) (base := w.heap.size) (ok := fun k_ => some k_ ≠ (.slice Ao13 t407.length co13 : Value).ownBlock) (n := t404.length) (c := co12) ?_).2.2; exact (by (with_reducible repeat (first | apply Kd.R_alloc | apply Kd.R_drewN | apply Kd.R_drew)); exact (Kd.R_mono (Kd.R_far (p := ⟨gb410, 2, none⟩) (Kd.R_far (p := ⟨gb410, 1, none⟩) (Kd.R_far (p := ⟨gb410, 0, none⟩) (Kd.R_types HO406.out BK410.out (by decide)) (fun _ hk => hk.2) (.int .i64 t401)) (fun _ hk => hk.2) (.int .i64 t402)) (fun _ hk => hk.2) (.int .i64 t403)) (fun _ h_ => h_.1)))); (case side2 => exact (Kd.R_reads' HO406.out).2.1); (case side3 => refine (Kd.Q_reads' (e := 3) (base := w.heap.size) (ok := fun k_ => some k_ ≠ (.slice Ao12 t404.length co12 : Value).ownBlock) (n := t407.length) (c := co13) ?_).2.2; exact (by (with_reducible repeat (first | apply Kd.Q_alloc | apply Kd.Q_drewN | apply Kd.Q_drew)); exact (Kd.Q_mono (Kd.Q_far (p := ⟨gb410, 2, none⟩) (Kd.Q_far (p := ⟨gb410, 1, none⟩) (Kd.Q_far (p := ⟨gb410, 0, none⟩) (Kd.Q_types HO409.out BK410.out (by decide)) (fun _ hk => hk.2) (.int .i64 t401)) (fun _ hk => hk.2) (.int .i64 t402)) (fun _ hk => hk.2) (.int .i64 t403)) (fun _ h_ => h_.1)))); (case side4 => exact (Kd.Q_reads' HO409.out).2.1); rintro e w14 ⟨v412, rfl, ho0, hb⟩; have n0_ := Aside0.mk (Kd.R_elder' (by (with_reducible repeat (first | apply Kd.R_alloc | apply Kd.R_drewN | apply Kd.R_drew)); exact (Kd.R_mono (Kd.R_far (p := ⟨gb410, 2, none⟩) (Kd.R_far (p := ⟨gb410, 1, none⟩) (Kd.R_far (p := ⟨gb410, 0, none⟩) (Kd.R_types HO406.out BK410.out (by decide)) (fun _ hk => hk.2) (.int .i64 t401)) (fun _ hk => hk.2) (.int .i64 t402)) (fun _ hk => hk.2) (.int .i64 t403)) (fun _ h_ => h_.1))) (Kd.R_base ho0) hb); have n1_ := Aside0.mk (Kd.Q_elder' (by (with_reducible repeat (first | apply Kd.Q_alloc | apply Kd.Q_drewN | apply Kd.Q_drew)); exact (Kd.Q_mono (Kd.Q_far (p := ⟨gb410, 2, none⟩) (Kd.Q_far (p := ⟨gb410, 1, none⟩) (Kd.Q_far (p := ⟨gb410, 0, none⟩) (Kd.Q_types HO409.out BK410.out (by decide)) (fun _ hk => hk.2) (.int .i64 t401)) (fun _ hk => hk.2) (.int .i64 t402)) (fun _ hk => hk.2) (.int .i64 t403)) (fun _ h_ => h_.1))) (Kd.R_base ho0) hb); have n2_ := Aside0.mk (Kd.R_lower (Kd.R_new' (Kd.R_new' ho0 (Kd.R_lt (by (with_reducible repeat (first | apply Kd.R_alloc | apply Kd.R_drewN | apply Kd.R_drew)); exact (Kd.R_mono (Kd.R_far (p := ⟨gb410, 2, none⟩) (Kd.R_far (p := ⟨gb410, 1, none⟩) (Kd.R_far (p := ⟨gb410, 0, none⟩) (Kd.R_types HO406.out BK410.out (by decide)) (fun _ hk => hk.2) (.int .i64 t401)) (fun _ hk => hk.2) (.int .i64 t402)) (fun _ hk => hk.2) (.int .i64 t403)) (fun _ h_ => h_.1))))) (Kd.Q_lt (by (with_reducible repeat (first | apply Kd.Q_alloc | apply Kd.Q_drewN | apply Kd.Q_drew)); exact (Kd.Q_mono (Kd.Q_far (p := ⟨gb410, 2, none⟩) (Kd.Q_far (p := ⟨gb410, 1, none⟩) (Kd.Q_far (p := ⟨gb410, 0, none⟩) (Kd.Q_types HO409.out BK410.out (by decide)) (fun _ hk => hk.2) (.int .i64 t401)) (fun _ hk => hk.2) (.int .i64 t402)) (fun _ hk => hk.2) (.int .i64 t403)) (fun _ h_ => h_.1))))) (below_size (by repeat (first | (with_reducible first | exact HB.out | apply below_alloc | apply pw_below_drewN | apply below_drew1 | refine below_set ?_ GE410.out) | exact HB.out)))); have n3_ := Aside0.mk (blk_below (g := gb410) (o := .cells #[.int .i64 t401, .int .i64 t402, .int .i64 t403] 25 (0, 0)) (by (with_reducible repeat (first | refine blk_drewN ?_ _ | refine blk_drew ?_ | refine blk_alloc ?_ _)); refine blk_put (cs := #[.int .i64 t401, .int .i64 t402, .int .i64 0]) ?_ 2 _ rfl; (with_reducible repeat (first | refine blk_drewN ?_ _ | refine blk_drew ?_ | refine blk_alloc ?_ _)); refine blk_put (cs := #[.int .i64 t401, .int .i64 0, .int .i64 0]) ?_ 1 _ rfl; (with_reducible repeat (first | refine blk_drewN ?_ _ | refine blk_drew ?_ | refine blk_alloc ?_ _)); refine blk_put (cs := #[.int .i64 0, .int .i64 0, .int .i64 0]) ?_ 0 _ rfl; (with_reducible repeat (first | refine blk_drewN ?_ _ | refine blk_drew ?_ | refine blk_alloc ?_ _)); exact BK410.out) hb); have n4_ := Aside0.mk (below_step (by first | (with_reducible exact pw_below_drewN HB.out _) | repeat (first | (with_reducible first | exact HB.out | apply below_alloc | apply pw_below_drewN | apply below_drew1 | refine below_set ?_ GE410.out) | exact HB.out)) hb); clear HO406; clear HO409; clear BK410; clear HB; have HO406 := n0_; have HO409 := n1_; have HO413 := n2_; have BK410 := n3_; have HB := n4_; clear n0_ n1_ n2_ n3_ n4_; (try clear hb); (try clear hb2); (try clear hk); (try clear hi); (try clear ho0); have hcz15_0 : w14.cell? ⟨gb410, 0, none⟩ = some (.int .i64 t401) := (blk_cell BK410.out 0).trans rfl; have hcz15_1 : w14.cell? ⟨gb410, 1, none⟩ = some (.int .i64 t402) := (blk_cell BK410.out 1).trans rfl; have hcz15_2 : w14.cell? ⟨gb410, 2, none⟩ = some (.int .i64 t403) := (blk_cell BK410.out 2).trans rfl; have hfz15_0 := blk_frozen BK410.out 0; have hfz15_1 := blk_frozen BK410.out 1; have hfz15_2 := blk_frozen BK410.out 2) | (go_at_call 57; (try simp only [i64_w, i32_w]); (with_reducible refine (impl_CenterLine.calls k t401 t402 t403 _ _ t404 _ _ t407 t415 t418 _ ?side1 ?side2 ?side3 ?side4 A5.out).mono ?_); (case side1 => repeat (first | exact (Kd.R_reads' HO406.out).2.2 | (with_reducible refine Kd.C_alloc ?_ _) | (with_reducible refine Kd.C_drewN ?_ _) | (with_reducible refine Kd.C_drew ?_))); (case side2 => exact (Kd.R_reads' HO406.out).2.1); (case side3 => repeat (first | exact (Kd.Q_reads' HO409.out).2.2 | (with_reducible refine Kd.C_alloc ?_ _) | (with_reducible refine Kd.C_drewN ?_ _) | (with_reducible refine Kd.C_drew ?_))); (case side4 => exact (Kd.Q_reads' HO409.out).2.1); rintro e w16 ⟨v416, rfl, ho0, hb⟩; have n0_ := Aside0.mk (Kd.R_elder' (by (with_reducible repeat (first | apply Kd.R_alloc | apply Kd.R_drewN | apply Kd.R_drew)); exact HO406.out) (Kd.R_base ho0) hb); have n1_ := Aside0.mk (Kd.Q_elder' (by (with_reducible repeat (first | apply Kd.Q_alloc | apply Kd.Q_drewN | apply Kd.Q_drew)); exact HO409.out) (Kd.R_base ho0) hb); have n2_ := Aside0.mk (Kd.R_elder' (by (with_reducible repeat (first | apply Kd.R_alloc | apply Kd.R_drewN | apply Kd.R_drew)); exact HO413.out) (Kd.R_base ho0) hb); have n3_ := Aside0.mk (Kd.R_lower (Kd.R_new' (Kd.R_new' (Kd.R_new' ho0 (Kd.R_lt (by (with_reducible repeat (first | apply Kd.R_alloc | apply Kd.R_drewN | apply Kd.R_drew)); exact HO406.out))) (Kd.Q_lt (by (with_reducible repeat (first | apply Kd.Q_alloc | apply Kd.Q_drewN | apply Kd.Q_drew)); exact HO409.out))) (Kd.R_lt (by (with_reducible repeat (first | apply Kd.R_alloc | apply Kd.R_drewN | apply Kd.R_drew)); exact HO413.out))) (below_size (by repeat (first | (with_reducible first | exact HB.out | apply below_alloc | apply pw_below_drewN | apply below_drew1 | refine below_set ?_ GE410.out) | exact HB.out)))); have n4_ := Aside0.mk (blk_below (g := gb410) (o := .cells #[.int .i64 t401, .int .i64 t402, .int .i64 t403] 25 (0, 0)) (by (with_reducible repeat (first | refine blk_drewN ?_ _ | refine blk_drew ?_ | refine blk_alloc ?_ _)); exact BK410.out) hb); have n5_ := Aside0.mk (below_step (by first | (with_reducible exact pw_below_drewN HB.out _) | repeat (first | (with_reducible first | exact HB.out | apply below_alloc | apply pw_below_drewN | apply below_drew1 | refine below_set ?_ GE410.out) | exact HB.out)) hb); clear HO406; clear HO409; clear HO413; clear BK410; clear HB; have HO406 := n0_; have HO409 := n1_; have HO413 := n2_; have HO417 := n3_; have BK410 := n4_; have HB := n5_; clear n0_ n1_ n2_ n3_ n4_ n5_; (try clear hb); (try clear hb2); (try clear hk); (try clear hi); (try clear ho0); have hcz17_0 : w16.cell? ⟨gb410, 0, none⟩ = some (.int .i64 t401) := (blk_cell BK410.out 0).trans rfl; have hcz17_1 : w16.cell? ⟨gb410, 1, none⟩ = some (.int .i64 t402) := (blk_cell BK410.out 1).trans rfl; have hcz17_2 : w16.cell? ⟨gb410, 2, none⟩ = some (.int .i64 t403) := (blk_cell BK410.out 2).trans rfl; have hfz17_0 := blk_frozen BK410.out 0; have hfz17_1 := blk_frozen BK410.out 1; have hfz17_2 := blk_frozen BK410.out 2) | (go_at_call 58; (try simp only [i64_w, i32_w]); (with_reducible refine (spec_QuadLine.calls k t401 t402 t403 _ _ t404 _ _ t407 t419 true _ ?side1 ?side2 ?side3 ?side4 A6.out).mono ?_); (case side1 => repeat (first | exact (Kd.R_reads' HO406.out).2.2 | (with_reducible refine Kd.C_alloc ?_ _) | (with_reducible refine Kd.C_drewN ?_ _) | (with_reducible refine Kd.C_drew ?_))); (case side2 => exact (Kd.R_reads' HO406.out).2.1); (case side3 => repeat (first | exact (Kd.Q_reads' HO409.out).2.2 | (with_reducible refine Kd.C_alloc ?_ _) | (with_reducible refine Kd.C_drewN ?_ _) | (with_reducible refine Kd.C_drew ?_))); (case side4 => exact (Kd.Q_reads' HO409.out).2.1); rintro e w18 ⟨v420, rfl, ho0, hb⟩; have n0_ := Aside0.mk (Kd.R_elder' (by (with_reducible repeat (first | apply Kd.R_alloc | apply Kd.R_drewN | apply Kd.R_drew)); exact HO406.out) (Kd.R_base ho0) hb); have n1_ := Aside0.mk (Kd.Q_elder' (by (with_reducible repeat (first | apply Kd.Q_alloc | apply Kd.Q_drewN | apply Kd.Q_drew)); exact HO409.out) (Kd.R_base ho0) hb); have n2_ := Aside0.mk (Kd.R_elder' (by (with_reducible repeat (first | apply Kd.R_alloc | apply Kd.R_drewN | apply Kd.R_drew)); exact HO413.out) (Kd.R_base ho0) hb); have n3_ := Aside0.mk (Kd.R_elder' (by (with_reducible repeat (first | apply Kd.R_alloc | apply Kd.R_drewN | apply Kd.R_drew)); exact HO417.out) (Kd.R_base ho0) hb); have n4_ := Aside0.mk (Kd.R_lower (Kd.R_new' (Kd.R_new' (Kd.R_new' (Kd.R_new' ho0 (Kd.R_lt (by (with_reducible repeat (first | apply Kd.R_alloc | apply Kd.R_drewN | apply Kd.R_drew)); exact HO406.out))) (Kd.Q_lt (by (with_reducible repeat (first | apply Kd.Q_alloc | apply Kd.Q_drewN | apply Kd.Q_drew)); exact HO409.out))) (Kd.R_lt (by (with_reducible repeat (first | apply Kd.R_alloc | apply Kd.R_drewN | apply Kd.R_drew)); exact HO413.out))) (Kd.R_lt (by (with_reducible repeat (first | apply Kd.R_alloc | apply Kd.R_drewN | apply Kd.R_drew)); exact HO417.out))) (below_size (by repeat (first | (with_reducible first | exact HB.out | apply below_alloc | apply pw_below_drewN | apply below_drew1 | refine below_set ?_ GE410.out) | exact HB.out)))); have n5_ := Aside0.mk (blk_below (g := gb410) (o := .cells #[.int .i64 t401, .int .i64 t402, .int .i64 t403] 25 (0, 0)) (by (with_reducible repeat (first | refine blk_drewN ?_ _ | refine blk_drew ?_ | refine blk_alloc ?_ _)); exact BK410.out) hb); have n6_ := Aside0.mk (below_step (by first | (with_reducible exact pw_below_drewN HB.out _) | repeat (first | (with_reducible first | exact HB.out | apply below_alloc | apply pw_below_drewN | apply below_drew1 | refine below_set ?_ GE410.out) | exact HB.out)) hb); clear HO406; clear HO409; clear HO413; clear HO417; clear BK410; clear HB; have HO406 := n0_; have HO409 := n1_; have HO413 := n2_; have HO417 := n3_; have HO421 := n4_; have BK410 := n5_; have HB := n6_; clear n0_ n1_ n2_ n3_ n4_ n5_ n6_; (try clear hb); (try clear hb2); (try clear hk); (try clear hi); (try clear ho0))))
      (try simp only [Act.put, List.setIfInBounds_toArray, List.set_cons_zero, List.set_cons_succ])
      go_cut [89] (fun v89 wc => ∃ (kq : Nat) (x89_7 : Bool), v89 = .bool x89_7 ∧ Aside0 (laws_FnQuads.j0 kq t404 t407 t411 t415 x89_7 t401 t402 t403 = some r) ∧ Aside0 (kq ≤ k) ∧ Aside0 (Kd.R (Kd.int .i64) 3 wc w.heap.size (fun k_ => some k_ ≠ ((.slice Ao13 t407.length co13) : Value).ownBlock ∧ some k_ ≠ (v412 : Value).ownBlock ∧ some k_ ≠ (v416 : Value).ownBlock) (.slice Ao12 t404.length co12) t404) ∧ Aside0 (Kd.Q (Kd.int .i64) 3 wc w.heap.size (fun k_ => some k_ ≠ ((.slice Ao12 t404.length co12) : Value).ownBlock ∧ some k_ ≠ (v412 : Value).ownBlock ∧ some k_ ≠ (v416 : Value).ownBlock) (.slice Ao13 t407.length co13) t407) ∧ Aside0 (Kd.R (Kd.int .i64) 3 wc w.heap.size (fun k_ => some k_ ≠ ((.slice Ao12 t404.length co12) : Value).ownBlock ∧ some k_ ≠ ((.slice Ao13 t407.length co13) : Value).ownBlock ∧ some k_ ≠ (v416 : Value).ownBlock) v412 t411) ∧ Aside0 (Kd.R (Kd.int .i64) 3 wc w.heap.size (fun k_ => some k_ ≠ ((.slice Ao12 t404.length co12) : Value).ownBlock ∧ some k_ ≠ ((.slice Ao13 t407.length co13) : Value).ownBlock ∧ some k_ ≠ (v412 : Value).ownBlock) v416 t415) ∧ Aside0 (wc.heap[gb410]? = some (.cells #[.int .i64 t401, .int .i64 t402, .int .i64 t403] 25 (0, 0))) ∧ Aside0 (Below w.heap.size w wc))
      case first =>
        have H := HC8.out
        clear HC8
        by_cases c19 : t414 = true
        · subst c19
          have H1 : (if t418 = true then (if (t411.length : Int) < (t404.length : Int) then (none) else (if (t415.length : Int) < (t404.length : Int) then (none) else (laws_FnQuads.j0 k t404 t407 t411 t415 ((Int.tmod (wrap64 ((t415.length : Int) - (t404.length : Int))) 2) == 1) t401 t402 t403))) else (none)) = some r := by rw [if_pos rfl] at H; exact H
          clear H
          have H := H1
          clear H1
          by_cases c20 : t418 = true
          · subst c20
            have H1 : (if (t411.length : Int) < (t404.length : Int) then (none) else (if (t415.length : Int) < (t404.length : Int) then (none) else (laws_FnQuads.j0 k t404 t407 t411 t415 ((Int.tmod (wrap64 ((t415.length : Int) - (t404.length : Int))) 2) == 1) t401 t402 t403))) = some r := by rw [if_pos rfl] at H; exact H
            clear H
            have H := H1
            clear H1
            by_cases c21 : (t411.length : Int) < (t404.length : Int)
            · rw [if_pos c21] at H
              exact absurd H (by simp)
            · rw [if_neg c21] at H
              have c21b0 : decide ((t411.length : Int) < (t404.length : Int)) = false := decide_eq_false c21
              have c21b1 : decide (t411.length < t404.length) = false := decide_eq_false (fun h => c21 (Int.ofNat_lt.mpr h))
              clear c21
              (first | rw [c21b0] | (simp only [i64_w, i32_w]; rw [c21b0]) | skip)
              by_cases c22 : (t415.length : Int) < (t404.length : Int)
              · rw [if_pos c22] at H
                exact absurd H (by simp)
              · rw [if_neg c22] at H
                have c22b0 : decide ((t415.length : Int) < (t404.length : Int)) = false := decide_eq_false c22
                have c22b1 : decide (t415.length < t404.length) = false := decide_eq_false (fun h => c22 (Int.ofNat_lt.mpr h))
                clear c22
                have H' := Aside0.mk H
                clear H
                obtain ⟨Ao23, co23, eo23⟩ := Kd.R_slice HO413.out
                subst eo23
                obtain ⟨Ao24, co24, eo24⟩ := Kd.R_slice HO417.out
                subst eo24
                go_wp2
                repeat (go_quiet (fail); try go_wp2)
                go_meet
                case rel => exact ⟨_, (((Int.tmod (wrap64 ((t415.length : Int) - (t404.length : Int))) 2) == 1)), (by first | rfl | (simp; done) | (simp [*]; done)), H', ⟨by first | omega | exact Nat.le_refl _⟩, ⟨by (with_reducible repeat (first | apply Kd.R_alloc | apply Kd.R_drewN | apply Kd.R_drew)); exact Kd.R_mono HO406.out (fun _ hk => ⟨hk.1.1.1, ⟨hk.1.1.2, hk.1.2⟩⟩)⟩, ⟨by (with_reducible repeat (first | apply Kd.Q_alloc | apply Kd.Q_drewN | apply Kd.Q_drew)); exact Kd.Q_mono HO409.out (fun _ hk => ⟨hk.1.1.1, ⟨hk.1.1.2, hk.1.2⟩⟩)⟩, ⟨by (with_reducible repeat (first | apply Kd.R_alloc | apply Kd.R_drewN | apply Kd.R_drew)); exact Kd.R_mono HO413.out (fun _ hk => ⟨hk.1.1.1.2, ⟨hk.1.1.2, hk.1.2⟩⟩)⟩, ⟨by (with_reducible repeat (first | apply Kd.R_alloc | apply Kd.R_drewN | apply Kd.R_drew)); exact Kd.R_mono HO417.out (fun _ hk => ⟨hk.1.1.1.2, ⟨hk.1.1.2, hk.1.2⟩⟩)⟩, ⟨by (with_reducible repeat (first | refine blk_drewN ?_ _ | refine blk_drew ?_ | refine blk_alloc ?_ _)); exact BK410.out⟩, ⟨by repeat (first | (with_reducible first | exact HB.out | apply below_alloc | apply pw_below_drewN | apply below_drew1 | refine below_set ?_ GE410.out) | exact HB.out)⟩⟩
          · replace c20 := Bool.eq_false_iff.mpr c20
            subst c20
            have H1 : (none) = some r := by rw [if_neg (show ¬ (false = true) by decide)] at H; exact H
            clear H
            have H := H1
            clear H1
            exact absurd H (by simp)
        · replace c19 := Bool.eq_false_iff.mpr c19
          subst c19
          have H1 : (none) = some r := by rw [if_neg (show ¬ (false = true) by decide)] at H; exact H
          clear H
          have H := H1
          clear H1
          exact absurd H (by simp)
      case rest =>
        clear HC8
        try clear c1
        try clear c2
        try clear c2b0
        try clear c2b1
        try clear p2
        try clear p6
        try clear c7
        try clear c19
        try clear c20
        try clear c21
        try clear c21b0
        try clear c21b1
        try clear c22
        try clear c22b0
        try clear c22b1
        try clear hcz11_0
        try clear hcz11_1
        try clear hcz11_2
        try clear hcz15_0
        try clear hcz15_1
        try clear hcz15_2
        try clear hcz17_0
        try clear hcz17_1
        try clear hcz17_2
        try clear hfz11_0
        try clear hfz11_1
        try clear hfz11_2
        try clear hfz15_0
        try clear hfz15_1
        try clear hfz15_2
        try clear hfz17_0
        try clear hfz17_1
        try clear hfz17_2
        obtain ⟨kq, x89_7, rfl, HA, HJ7, HO_4, HO_5, HO_6, HO_8, BK410, HB⟩ := hcut
        cases kq with
        | zero => exact absurd HA.out (by simp [laws_FnQuads.j0])
        | succ kj7 =>
          have H := HA.out
          clear HA
          simp only [laws_FnQuads.j0] at H
          by_cases c25 : x89_7 = true
          · subst c25
            have H1 : (none) = some r := by rw [if_pos rfl] at H; exact H
            clear H
            have H := H1
            clear H1
            exact absurd H (by simp)
          · replace c25 := Bool.eq_false_iff.mpr c25
            subst c25
            have H1 : (if 0 ≤ (t404.length : Int) then (if (t404.length : Int) ≤ (t411.length : Int) then ((laws_ints.f kj7 (t411.take ((t404.length : Int) : Int).toNat) t404).bind fun t427 => (if t427 = true then (if 0 ≤ (wrap64 (Int.tdiv (wrap64 ((t415.length : Int) - (t404.length : Int))) 2)) then (if (wrap64 (Int.tdiv (wrap64 ((t415.length : Int) - (t404.length : Int))) 2)) ≤ (wrap64 ((wrap64 (Int.tdiv (wrap64 ((t415.length : Int) - (t404.length : Int))) 2)) + (t404.length : Int))) then (if (wrap64 ((wrap64 (Int.tdiv (wrap64 ((t415.length : Int) - (t404.length : Int))) 2)) + (t404.length : Int))) ≤ (t415.length : Int) then ((laws_ints.f kj7 ((t415.take ((wrap64 ((wrap64 (Int.tdiv (wrap64 ((t415.length : Int) - (t404.length : Int))) 2)) + (t404.length : Int))) : Int).toNat).drop ((wrap64 (Int.tdiv (wrap64 ((t415.length : Int) - (t404.length : Int))) 2)) : Int).toNat) t404).bind fun t432 => (if t432 = true then ((impl_CountFitting.f kj7 t401 t402 t403 ([] : List Int) t411).bind fun t433 => (if t433 = (t411.length : Int) then ((impl_CountFitting.f kj7 t401 t402 t403 ([] : List Int) t415).bind fun t434 => (laws_FnQuads.j1 kj7 t404 t407 t411 t415 (wrap64 (Int.tdiv (wrap64 ((t415.length : Int) - (t404.length : Int))) 2)) (t434 != (t415.length : Int)) t401 t402 t403)) else (none))) else (none))) else (none)) else (none)) else (none)) else (none))) else (none)) else (none)) = some r := by rw [if_neg (show ¬ (false = true) by decide)] at H; exact H
            clear H
            have H := H1
            clear H1
            have HC26 := Aside0.mk H
            clear H
            obtain ⟨Ao27, co27, eo27⟩ := Kd.R_slice HO_8.out
            subst eo27
            go_upto_region 12 with (fail)
            repeat (go_quiet (fail); go_upto_region 12 with (fail))
            go_cut [130] (fun v130 wc => ∃ (kq : Nat) (x130_25 : Bool), v130 = .bool x130_25 ∧ Aside0 (laws_FnQuads.j1 kq t404 t407 t411 t415 (wrap64 (Int.tdiv (wrap64 ((t415.length : Int) - (t404.length : Int))) 2)) x130_25 t401 t402 t403 = some r) ∧ Aside0 (kq ≤ kj7) ∧ Aside0 (Kd.R (Kd.int .i64) 3 wc w.heap.size (fun k_ => some k_ ≠ ((.slice Ao13 t407.length co13) : Value).ownBlock ∧ some k_ ≠ (v412 : Value).ownBlock ∧ some k_ ≠ ((.slice Ao27 t415.length co27) : Value).ownBlock) (.slice Ao12 t404.length co12) t404) ∧ Aside0 (Kd.Q (Kd.int .i64) 3 wc w.heap.size (fun k_ => some k_ ≠ ((.slice Ao12 t404.length co12) : Value).ownBlock ∧ some k_ ≠ (v412 : Value).ownBlock ∧ some k_ ≠ ((.slice Ao27 t415.length co27) : Value).ownBlock) (.slice Ao13 t407.length co13) t407) ∧ Aside0 (Kd.R (Kd.int .i64) 3 wc w.heap.size (fun k_ => some k_ ≠ ((.slice Ao12 t404.length co12) : Value).ownBlock ∧ some k_ ≠ ((.slice Ao13 t407.length co13) : Value).ownBlock ∧ some k_ ≠ ((.slice Ao27 t415.length co27) : Value).ownBlock) v412 t411) ∧ Aside0 (Kd.R (Kd.int .i64) 3 wc w.heap.size (fun k_ => some k_ ≠ ((.slice Ao12 t404.length co12) : Value).ownBlock ∧ some k_ ≠ ((.slice Ao13 t407.length co13) : Value).ownBlock ∧ some k_ ≠ (v412 : Value).ownBlock) (.slice Ao27 t415.length co27) t415) ∧ Aside0 (wc.heap[gb410]? = some (.cells #[.int .i64 t401, .int .i64 t402, .int .i64 t403] 25 (0, 0))) ∧ Aside0 (Below w.heap.size w wc))
            case first =>
              have H := HC26.out
              clear HC26
              by_cases c28 : 0 ≤ (t404.length : Int)
              · rw [if_pos c28] at H
                have c28b0 := eq_true c28
                have c28b1 : decide (0 ≤ (t404.length : Int)) = true := decide_eq_true c28
                clear c28
                by_cases c29 : (t404.length : Int) ≤ (t411.length : Int)
                · rw [if_pos c29] at H
                  have c29b0 := eq_true c29
                  have c29b1 : decide ((t404.length : Int) ≤ (t411.length : Int)) = true := decide_eq_true c29
                  clear c29
                  obtain ⟨y423, hy423⟩ : ∃ y_ : List Int, y_ = (t411.take ((t404.length : Int) : Int).toNat) := ⟨_, rfl⟩
                  replace H : ((laws_ints.f kj7 y423 t404).bind fun t427 => (if t427 = true then (if 0 ≤ (wrap64 (Int.tdiv (wrap64 ((t415.length : Int) - (t404.length : Int))) 2)) then (if (wrap64 (Int.tdiv (wrap64 ((t415.length : Int) - (t404.length : Int))) 2)) ≤ (wrap64 ((wrap64 (Int.tdiv (wrap64 ((t415.length : Int) - (t404.length : Int))) 2)) + (t404.length : Int))) then (if (wrap64 ((wrap64 (Int.tdiv (wrap64 ((t415.length : Int) - (t404.length : Int))) 2)) + (t404.length : Int))) ≤ (t415.length : Int) then ((laws_ints.f kj7 ((t415.take ((wrap64 ((wrap64 (Int.tdiv (wrap64 ((t415.length : Int) - (t404.length : Int))) 2)) + (t404.length : Int))) : Int).toNat).drop ((wrap64 (Int.tdiv (wrap64 ((t415.length : Int) - (t404.length : Int))) 2)) : Int).toNat) t404).bind fun t432 => (if t432 = true then ((impl_CountFitting.f kj7 t401 t402 t403 ([] : List Int) t411).bind fun t433 => (if t433 = (t411.length : Int) then ((impl_CountFitting.f kj7 t401 t402 t403 ([] : List Int) t415).bind fun t434 => (laws_FnQuads.j1 kj7 t404 t407 t411 t415 (wrap64 (Int.tdiv (wrap64 ((t415.length : Int) - (t404.length : Int))) 2)) (t434 != (t415.length : Int)) t401 t402 t403)) else (none))) else (none))) else (none)) else (none)) else (none)) else (none))) = some r := by first | (rw [hy423]; with_reducible exact H) | (have H2_ := (Option.bind_some _ _).symm.trans H; rw [hy423]; with_reducible exact H2_) | (have H2_ := (Option.bind_some _ _).symm.trans H; with_reducible exact H2_) | with_reducible exact H | (rw [hy423]; exact H) | exact H
                  have Ny423 := Aside0.mk hy423
                  clear hy423
                  replace H := Option.bind_eq_some_iff.mp H
                  obtain ⟨t427, A300, H⟩ := H
                  replace H : (if t427 = true then (if 0 ≤ (wrap64 (Int.tdiv (wrap64 ((t415.length : Int) - (t404.length : Int))) 2)) then (if (wrap64 (Int.tdiv (wrap64 ((t415.length : Int) - (t404.length : Int))) 2)) ≤ (wrap64 ((wrap64 (Int.tdiv (wrap64 ((t415.length : Int) - (t404.length : Int))) 2)) + (t404.length : Int))) then (if (wrap64 ((wrap64 (Int.tdiv (wrap64 ((t415.length : Int) - (t404.length : Int))) 2)) + (t404.length : Int))) ≤ (t415.length : Int) then ((laws_ints.f kj7 ((t415.take ((wrap64 ((wrap64 (Int.tdiv (wrap64 ((t415.length : Int) - (t404.length : Int))) 2)) + (t404.length : Int))) : Int).toNat).drop ((wrap64 (Int.tdiv (wrap64 ((t415.length : Int) - (t404.length : Int))) 2)) : Int).toNat) t404).bind fun t432 => (if t432 = true then ((impl_CountFitting.f kj7 t401 t402 t403 ([] : List Int) t411).bind fun t433 => (if t433 = (t411.length : Int) then ((impl_CountFitting.f kj7 t401 t402 t403 ([] : List Int) t415).bind fun t434 => (laws_FnQuads.j1 kj7 t404 t407 t411 t415 (wrap64 (Int.tdiv (wrap64 ((t415.length : Int) - (t404.length : Int))) 2)) (t434 != (t415.length : Int)) t401 t402 t403)) else (none))) else (none))) else (none)) else (none)) else (none)) else (none)) = some r := H
                  have A30 := Aside0.mk A300
                  clear A300
                  by_cases c31 : t427 = true
                  · subst c31
                    have H1 : (if 0 ≤ (wrap64 (Int.tdiv (wrap64 ((t415.length : Int) - (t404.length : Int))) 2)) then (if (wrap64 (Int.tdiv (wrap64 ((t415.length : Int) - (t404.length : Int))) 2)) ≤ (wrap64 ((wrap64 (Int.tdiv (wrap64 ((t415.length : Int) - (t404.length : Int))) 2)) + (t404.length : Int))) then (if (wrap64 ((wrap64 (Int.tdiv (wrap64 ((t415.length : Int) - (t404.length : Int))) 2)) + (t404.length : Int))) ≤ (t415.length : Int) then ((laws_ints.f kj7 ((t415.take ((wrap64 ((wrap64 (Int.tdiv (wrap64 ((t415.length : Int) - (t404.length : Int))) 2)) + (t404.length : Int))) : Int).toNat).drop ((wrap64 (Int.tdiv (wrap64 ((t415.length : Int) - (t404.length : Int))) 2)) : Int).toNat) t404).bind fun t432 => (if t432 = true then ((impl_CountFitting.f kj7 t401 t402 t403 ([] : List Int) t411).bind fun t433 => (if t433 = (t411.length : Int) then ((impl_CountFitting.f kj7 t401 t402 t403 ([] : List Int) t415).bind fun t434 => (laws_FnQuads.j1 kj7 t404 t407 t411 t415 (wrap64 (Int.tdiv (wrap64 ((t415.length : Int) - (t404.length : Int))) 2)) (t434 != (t415.length : Int)) t401 t402 t403)) else (none))) else (none))) else (none)) else (none)) else (none)) = some r := by rw [if_pos rfl] at H; exact H
                    clear H
                    have H := H1
                    clear H1
                    obtain ⟨ji32, hji32⟩ : ∃ j_ : Int, (wrap64 (Int.tdiv (wrap64 ((t415.length : Int) - (t404.length : Int))) 2)) = j_ := ⟨_, rfl⟩
                    replace H : (if 0 ≤ (ji32) then (if (ji32) ≤ (wrap64 ((ji32) + (t404.length : Int))) then (if (wrap64 ((ji32) + (t404.length : Int))) ≤ (t415.length : Int) then ((laws_ints.f kj7 ((t415.take ((wrap64 ((ji32) + (t404.length : Int))) : Int).toNat).drop ((ji32) : Int).toNat) t404).bind fun t432 => (if t432 = true then ((impl_CountFitting.f kj7 t401 t402 t403 ([] : List Int) t411).bind fun t433 => (if t433 = (t411.length : Int) then ((impl_CountFitting.f kj7 t401 t402 t403 ([] : List Int) t415).bind fun t434 => (laws_FnQuads.j1 kj7 t404 t407 t411 t415 ji32 (t434 != (t415.length : Int)) t401 t402 t403)) else (none))) else (none))) else (none)) else (none)) else (none)) = some r := by first | (rw [hji32] at H; exact H) | (simp only [hji32] at H ⊢; exact H)
                    (try rw [hji32] at A30)
                    have hji32w : (IntKind.i64.wrap (Int.tdiv (wrap64 ((t415.length : Int) - (t404.length : Int))) 2)) = ji32 := (i64_w _).trans hji32
                    by_cases c33 : 0 ≤ (ji32)
                    · rw [if_pos c33] at H
                      have c33b0 := eq_true c33
                      have c33b1 : decide (0 ≤ (ji32)) = true := decide_eq_true c33
                      clear c33
                      by_cases c34 : (ji32) ≤ (wrap64 ((ji32) + (t404.length : Int)))
                      · rw [if_pos c34] at H
                        have c34b0 := eq_true c34
                        have c34b1 : decide ((ji32) ≤ (wrap64 ((ji32) + (t404.length : Int)))) = true := decide_eq_true c34
                        by_cases c35 : (wrap64 ((ji32) + (t404.length : Int))) ≤ (t415.length : Int)
                        · rw [if_pos c35] at H
                          have c35b0 := eq_true c35
                          have c35b1 : decide ((wrap64 ((ji32) + (t404.length : Int))) ≤ (t415.length : Int)) = true := decide_eq_true c35
                          obtain ⟨y428, hy428⟩ : ∃ y_ : List Int, y_ = ((t415.take ((wrap64 ((ji32) + (t404.length : Int))) : Int).toNat).drop ((ji32) : Int).toNat) := ⟨_, rfl⟩
                          replace H : ((laws_ints.f kj7 y428 t404).bind fun t432 => (if t432 = true then ((impl_CountFitting.f kj7 t401 t402 t403 ([] : List Int) t411).bind fun t433 => (if t433 = (t411.length : Int) then ((impl_CountFitting.f kj7 t401 t402 t403 ([] : List Int) t415).bind fun t434 => (laws_FnQuads.j1 kj7 t404 t407 t411 t415 ji32 (t434 != (t415.length : Int)) t401 t402 t403)) else (none))) else (none))) = some r := by first | (rw [hy428]; with_reducible exact H) | (have H2_ := (Option.bind_some _ _).symm.trans H; rw [hy428]; with_reducible exact H2_) | (have H2_ := (Option.bind_some _ _).symm.trans H; with_reducible exact H2_) | with_reducible exact H | (rw [hy428]; exact H) | exact H
                          have Ny428 := Aside0.mk hy428
                          clear hy428
                          replace H := Option.bind_eq_some_iff.mp H
                          obtain ⟨t432, A360, H⟩ := H
                          replace H : (if t432 = true then ((impl_CountFitting.f kj7 t401 t402 t403 ([] : List Int) t411).bind fun t433 => (if t433 = (t411.length : Int) then ((impl_CountFitting.f kj7 t401 t402 t403 ([] : List Int) t415).bind fun t434 => (laws_FnQuads.j1 kj7 t404 t407 t411 t415 ji32 (t434 != (t415.length : Int)) t401 t402 t403)) else (none))) else (none)) = some r := H
                          have A36 := Aside0.mk A360
                          clear A360
                          by_cases c37 : t432 = true
                          · subst c37
                            have H1 : ((impl_CountFitting.f kj7 t401 t402 t403 ([] : List Int) t411).bind fun t433 => (if t433 = (t411.length : Int) then ((impl_CountFitting.f kj7 t401 t402 t403 ([] : List Int) t415).bind fun t434 => (laws_FnQuads.j1 kj7 t404 t407 t411 t415 ji32 (t434 != (t415.length : Int)) t401 t402 t403)) else (none))) = some r := by rw [if_pos rfl] at H; exact H
                            clear H
                            have H := H1
                            clear H1
                            replace H := Option.bind_eq_some_iff.mp H
                            obtain ⟨t433, A380, H⟩ := H
                            replace H : (if t433 = (t411.length : Int) then ((impl_CountFitting.f kj7 t401 t402 t403 ([] : List Int) t415).bind fun t434 => (laws_FnQuads.j1 kj7 t404 t407 t411 t415 ji32 (t434 != (t415.length : Int)) t401 t402 t403)) else (none)) = some r := H
                            have A38 := Aside0.mk A380
                            clear A380
                            by_cases c39 : t433 = (t411.length : Int)
                            · rw [if_pos c39] at H
                              have c39b0 : (t433 == (t411.length : Int)) = true := beq_iff_eq.mpr c39
                              have c39b1 : (t433 != (t411.length : Int)) = false := bne_eq_false_iff_eq.mpr c39
                              clear c39
                              (first | rw [c39b0] | (simp only [i64_w, i32_w]; rw [c39b0]) | skip)
                              replace H := Option.bind_eq_some_iff.mp H
                              obtain ⟨t434, A400, H⟩ := H
                              replace H : (laws_FnQuads.j1 kj7 t404 t407 t411 t415 ji32 (t434 != (t415.length : Int)) t401 t402 t403) = some r := H
                              have A40 := Aside0.mk A400
                              clear A400
                              have H' := Aside0.mk H
                              clear H
                              obtain ⟨Ao42, co42, eo42⟩ := Kd.R_slice HO_6.out
                              subst eo42
                              have q41 : ((t404.length : Int) : Int) ≤ ((t411.length : Int) : Int) := of_decide_eq_true (by first | (with_reducible assumption) | assumption)
                              obtain ⟨i041, hi041, _, hsz41, _⟩ := info_parts info3
                              have hroom41 : t411.length ≤ co42 := (Kd.R_reads' HO_6.out).2.1
                              have hC41 : Kd.C (Kd.int .i64) _ Ao42 t411.length t411 := (Kd.R_reads' HO_6.out).2.2
                              have hcut41 := cut_to (P := Try.prog) 28 3 .i64 Try.underlying28 hi041 Ao42 t411.length co42 (t404.length : Int) (of_decide_eq_true (by first | (with_reducible assumption) | assumption)) q41 hroom41
                              have hr41 := Kd.C_take (m := ((t404.length : Int) : Int).toNat) hC41 (by omega)
                              have hy41 : y423.length = ((t404.length : Int) : Int).toNat := (by rw [Ny423.out, List.length_take]; omega)
                              rw [← Ny423.out] at hr41
                              rw [← hy41] at hcut41
                              have HR426 := Aside0.mk hr41
                              have HC426 := Aside0.mk (show y423.length ≤ co42 from by omega)
                              clear hr41 hC41 hroom41 hi041 hsz41
                              have KY41 := Aside0.mk hy41
                              clear hy41
                              have KL41 := Aside0.mk (show ((t404.length : Int) : Int).toNat ≤ t411.length from by omega)
                              replace q41 := eq_true q41
                              go_wp2_with (first | (go_at_call 64; (try simp only [i64_w, i32_w]); (with_reducible refine (laws_ints.calls kj7 _ _ y423 _ _ t404 true _ ?side1 ?side2 ?side3 ?side4 A30.out).mono ?_); (case side1 => repeat (first | exact (by repeat (first | (with_reducible exact HR426.out) | (with_reducible refine Kd.C_alloc ?_ _) | (with_reducible refine Kd.C_drewN ?_ _) | (with_reducible refine Kd.C_drew ?_) | exact HR426.out)) | (with_reducible refine Kd.C_alloc ?_ _) | (with_reducible refine Kd.C_drewN ?_ _) | (with_reducible refine Kd.C_drew ?_))); (case side2 => exact HC426.out); (case side3 => repeat (first | exact (Kd.R_reads' HO_4.out).2.2 | (with_reducible refine Kd.C_alloc ?_ _) | (with_reducible refine Kd.C_drewN ?_ _) | (with_reducible refine Kd.C_drew ?_))); (case side4 => exact (Kd.R_reads' HO_4.out).2.1); rintro e w' ⟨rfl, ⟨nd, rfl⟩⟩; (try first | exact ⟨rfl, _, World.drewN_drewN _ _ _⟩ | exact ⟨rfl, _, Eq.trans (World.drewN_drewN _ _ _) (congrArg (World.drewN _) (Nat.add_assoc _ _ _))⟩); have q43 : ((wrap64 ((ji32) + (t404.length : Int))) : Int) ≤ ((t415.length : Int) : Int) := of_decide_eq_true (by first | (with_reducible assumption) | assumption); obtain ⟨i043, hi043, _, hsz43, _⟩ := info_parts info3; have hroom43 : t415.length ≤ co27 := (Kd.R_reads' HO_8.out).2.1; have hC43 : Kd.C (Kd.int .i64) _ Ao27 t415.length t415 := (Kd.R_reads' HO_8.out).2.2; have ql43 : ((ji32) : Int) ≤ ((wrap64 ((ji32) + (t404.length : Int))) : Int) := of_decide_eq_true (by first | (with_reducible assumption) | assumption); have q043 : (0 : Int) ≤ ((ji32) : Int) := of_decide_eq_true (by first | (with_reducible assumption) | assumption); have hcut43 := cut_mid (P := Try.prog) 28 3 .i64 .i64 Try.underlying28 hi043 1 hsz43 Ao27 t415.length co27 (ji32) (wrap64 ((ji32) + (t404.length : Int))) q043 ql43 q43 hroom43; have hr43 := Kd.C_mid (lo := ((ji32) : Int).toNat) (hi := ((wrap64 ((ji32) + (t404.length : Int))) : Int).toNat) (c := co27) hC43 (by omega) (by omega) hroom43; obtain ⟨A43, hA43⟩ : ∃ A1, A1 = (if co27 = ((ji32) : Int).toNat then Ao27 else (Ao27 : Option Addr).map (·.add (((ji32) : Int).toNat * 1))) := ⟨_, rfl⟩; obtain ⟨c43, hc43⟩ : ∃ c1, c1 = co27 - ((ji32) : Int).toNat := ⟨_, rfl⟩; have hy43 : y428.length = ((wrap64 ((ji32) + (t404.length : Int))) : Int).toNat - ((ji32) : Int).toNat := (by rw [Ny428.out, List.length_drop, List.length_take] <;> omega); rw [show ((t415).take ((wrap64 ((ji32) + (t404.length : Int))) : Int).toNat).drop ((ji32) : Int).toNat = y428 from Ny428.out.symm] at hr43; replace hr43 : Kd.C (Kd.int .i64) _ A43 y428.length y428 := (by rw [hA43]; exact hr43); rw [← hy43, ← hA43, ← hc43] at hcut43; have HR431 := Aside0.mk hr43; have HC431 := Aside0.mk (show y428.length ≤ c43 from by rw [hy43, hc43]; exact Nat.sub_le_sub_right (Nat.le_trans (by omega) hroom43) _); clear hr43 hC43 hroom43 hi043 hsz43 hc43; have KY43 := Aside0.mk hy43; have KA43 := Aside0.mk hA43; clear hy43 hA43; have KL43 := Aside0.mk (show ((wrap64 ((ji32) + (t404.length : Int))) : Int).toNat ≤ t415.length from by omega); have KM43 := Aside0.mk (show ((ji32) : Int).toNat ≤ ((wrap64 ((ji32) + (t404.length : Int))) : Int).toNat from by omega); replace q43 := eq_true q43) | (go_at_call 64; (try simp only [i64_w, i32_w]); (with_reducible refine (laws_ints.calls kj7 _ _ y428 _ _ t404 true _ ?side1 ?side2 ?side3 ?side4 A36.out).mono ?_); (case side1 => repeat (first | exact (by repeat (first | (with_reducible exact HR431.out) | (with_reducible refine Kd.C_alloc ?_ _) | (with_reducible refine Kd.C_drewN ?_ _) | (with_reducible refine Kd.C_drew ?_) | exact HR431.out)) | (with_reducible refine Kd.C_alloc ?_ _) | (with_reducible refine Kd.C_drewN ?_ _) | (with_reducible refine Kd.C_drew ?_))); (case side2 => exact HC431.out); (case side3 => repeat (first | exact (Kd.R_reads' HO_4.out).2.2 | (with_reducible refine Kd.C_alloc ?_ _) | (with_reducible refine Kd.C_drewN ?_ _) | (with_reducible refine Kd.C_drew ?_))); (case side4 => exact (Kd.R_reads' HO_4.out).2.1); rintro e w' ⟨rfl, ⟨nd, rfl⟩⟩; (try first | exact ⟨rfl, _, World.drewN_drewN _ _ _⟩ | exact ⟨rfl, _, Eq.trans (World.drewN_drewN _ _ _) (congrArg (World.drewN _) (Nat.add_assoc _ _ _))⟩); have hcz44_0 : wc.cell? ⟨gb410, 0, none⟩ = some (.int .i64 t401) := (blk_cell BK410.out 0).trans rfl; have hcz44_1 : wc.cell? ⟨gb410, 1, none⟩ = some (.int .i64 t402) := (blk_cell BK410.out 1).trans rfl; have hcz44_2 : wc.cell? ⟨gb410, 2, none⟩ = some (.int .i64 t403) := (blk_cell BK410.out 2).trans rfl; have hfz44_0 := blk_frozen BK410.out 0; have hfz44_1 := blk_frozen BK410.out 1; have hfz44_2 := blk_frozen BK410.out 2) | (go_at_call 41; (try simp only [i64_w, i32_w]); (with_reducible show Calls _ _ #[_, _, .slice Ao42 t411.length co42] _ _); (refine (impl_CountFitting.calls kj7 t401 t402 t403 (fun k_ => False) _ _ ([] : List Int) (fun k_ => some k_ = (.slice Ao42 t411.length co42 : Value).ownBlock) _ _ t411 t433 _ ?side1 ?side2 A38.out).mono ?_); (case side1 => exact Kd.V_nil _ _ _ _ _); (case side2 => exact Kd.R_V (Kd.R_tight rfl (Kd.R_types (HO_6.out) BK410.out (by decide)))); rintro e w45 ⟨rfl, hb⟩; have n0_ := Aside0.mk (Kd.R_below (by (with_reducible repeat (first | apply Kd.R_alloc | apply Kd.R_drewN | apply Kd.R_drew)); exact HO_4.out) hb); have n1_ := Aside0.mk (Kd.Q_below (by (with_reducible repeat (first | apply Kd.Q_alloc | apply Kd.Q_drewN | apply Kd.Q_drew)); exact HO_5.out) hb); have n2_ := Aside0.mk (Kd.R_below (by (with_reducible repeat (first | apply Kd.R_alloc | apply Kd.R_drewN | apply Kd.R_drew)); exact HO_6.out) hb); have n3_ := Aside0.mk (Kd.R_below (by (with_reducible repeat (first | apply Kd.R_alloc | apply Kd.R_drewN | apply Kd.R_drew)); exact HO_8.out) hb); have n4_ := Aside0.mk (blk_below (g := gb410) (o := .cells #[.int .i64 t401, .int .i64 t402, .int .i64 t403] 25 (0, 0)) (by (with_reducible repeat (first | refine blk_drewN ?_ _ | refine blk_drew ?_ | refine blk_alloc ?_ _)); exact BK410.out) hb); have n7_ := Aside0.mk (below_step (by first | (with_reducible exact pw_below_drewN HB.out _) | repeat (first | (with_reducible first | exact HB.out | apply below_alloc | apply pw_below_drewN | apply below_drew1 | refine below_set ?_ GE410.out) | exact HB.out)) hb); clear HO_4; clear HO_5; clear HO_6; clear HO_8; clear BK410; (try clear HR426); (try clear HR431); clear HB; have HO_4 := n0_; have HO_5 := n1_; have HO_6 := n2_; have HO_8 := n3_; have BK410 := n4_; have HB := n7_; clear n0_ n1_ n2_ n3_ n4_ n7_; (try clear hb); (try clear hb2); (try clear hk); (try clear hi); have hcz46_0 : w45.cell? ⟨gb410, 0, none⟩ = some (.int .i64 t401) := (blk_cell BK410.out 0).trans rfl; have hcz46_1 : w45.cell? ⟨gb410, 1, none⟩ = some (.int .i64 t402) := (blk_cell BK410.out 1).trans rfl; have hcz46_2 : w45.cell? ⟨gb410, 2, none⟩ = some (.int .i64 t403) := (blk_cell BK410.out 2).trans rfl; have hfz46_0 := blk_frozen BK410.out 0; have hfz46_1 := blk_frozen BK410.out 1; have hfz46_2 := blk_frozen BK410.out 2) | (go_at_call 41; (try simp only [i64_w, i32_w]); (with_reducible show Calls _ _ #[_, _, .slice Ao27 t415.length co27] _ _); (refine (impl_CountFitting.calls kj7 t401 t402 t403 (fun k_ => False) _ _ ([] : List Int) (fun k_ => some k_ = (.slice Ao27 t415.length co27 : Value).ownBlock) _ _ t415 t434 _ ?side1 ?side2 A40.out).mono ?_); (case side1 => exact Kd.V_nil _ _ _ _ _); (case side2 => exact Kd.R_V (Kd.R_tight rfl (Kd.R_types (HO_8.out) BK410.out (by decide)))); rintro e w47 ⟨rfl, hb⟩; have n0_ := Aside0.mk (Kd.R_below (by (with_reducible repeat (first | apply Kd.R_alloc | apply Kd.R_drewN | apply Kd.R_drew)); exact HO_4.out) hb); have n1_ := Aside0.mk (Kd.Q_below (by (with_reducible repeat (first | apply Kd.Q_alloc | apply Kd.Q_drewN | apply Kd.Q_drew)); exact HO_5.out) hb); have n2_ := Aside0.mk (Kd.R_below (by (with_reducible repeat (first | apply Kd.R_alloc | apply Kd.R_drewN | apply Kd.R_drew)); exact HO_6.out) hb); have n3_ := Aside0.mk (Kd.R_below (by (with_reducible repeat (first | apply Kd.R_alloc | apply Kd.R_drewN | apply Kd.R_drew)); exact HO_8.out) hb); have n4_ := Aside0.mk (blk_below (g := gb410) (o := .cells #[.int .i64 t401, .int .i64 t402, .int .i64 t403] 25 (0, 0)) (by (with_reducible repeat (first | refine blk_drewN ?_ _ | refine blk_drew ?_ | refine blk_alloc ?_ _)); exact BK410.out) hb); have n7_ := Aside0.mk (below_step (by first | (with_reducible exact pw_below_drewN HB.out _) | repeat (first | (with_reducible first | exact HB.out | apply below_alloc | apply pw_below_drewN | apply below_drew1 | refine below_set ?_ GE410.out) | exact HB.out)) hb); clear HO_4; clear HO_5; clear HO_6; clear HO_8; clear BK410; (try clear HR426); (try clear HR431); clear HB; have HO_4 := n0_; have HO_5 := n1_; have HO_6 := n2_; have HO_8 := n3_; have BK410 := n4_; have HB := n7_; clear n0_ n1_ n2_ n3_ n4_ n7_; (try clear hb); (try clear hb2); (try clear hk); (try clear hi)))
                              repeat (go_quiet (first | (go_at_call 64; (try simp only [i64_w, i32_w]); (with_reducible refine (laws_ints.calls kj7 _ _ y423 _ _ t404 true _ ?side1 ?side2 ?side3 ?side4 A30.out).mono ?_); (case side1 => repeat (first | exact (by repeat (first | (with_reducible exact HR426.out) | (with_reducible refine Kd.C_alloc ?_ _) | (with_reducible refine Kd.C_drewN ?_ _) | (with_reducible refine Kd.C_drew ?_) | exact HR426.out)) | (with_reducible refine Kd.C_alloc ?_ _) | (with_reducible refine Kd.C_drewN ?_ _) | (with_reducible refine Kd.C_drew ?_))); (case side2 => exact HC426.out); (case side3 => repeat (first | exact (Kd.R_reads' HO_4.out).2.2 | (with_reducible refine Kd.C_alloc ?_ _) | (with_reducible refine Kd.C_drewN ?_ _) | (with_reducible refine Kd.C_drew ?_))); (case side4 => exact (Kd.R_reads' HO_4.out).2.1); rintro e w' ⟨rfl, ⟨nd, rfl⟩⟩; (try first | exact ⟨rfl, _, World.drewN_drewN _ _ _⟩ | exact ⟨rfl, _, Eq.trans (World.drewN_drewN _ _ _) (congrArg (World.drewN _) (Nat.add_assoc _ _ _))⟩); have q43 : ((wrap64 ((ji32) + (t404.length : Int))) : Int) ≤ ((t415.length : Int) : Int) := of_decide_eq_true (by first | (with_reducible assumption) | assumption); obtain ⟨i043, hi043, _, hsz43, _⟩ := info_parts info3; have hroom43 : t415.length ≤ co27 := (Kd.R_reads' HO_8.out).2.1; have hC43 : Kd.C (Kd.int .i64) _ Ao27 t415.length t415 := (Kd.R_reads' HO_8.out).2.2; have ql43 : ((ji32) : Int) ≤ ((wrap64 ((ji32) + (t404.length : Int))) : Int) := of_decide_eq_true (by first | (with_reducible assumption) | assumption); have q043 : (0 : Int) ≤ ((ji32) : Int) := of_decide_eq_true (by first | (with_reducible assumption) | assumption); have hcut43 := cut_mid (P := Try.prog) 28 3 .i64 .i64 Try.underlying28 hi043 1 hsz43 Ao27 t415.length co27 (ji32) (wrap64 ((ji32) + (t404.length : Int))) q043 ql43 q43 hroom43; have hr43 := Kd.C_mid (lo := ((ji32) : Int).toNat) (hi := ((wrap64 ((ji32) + (t404.length : Int))) : Int).toNat) (c := co27) hC43 (by omega) (by omega) hroom43; obtain ⟨A43, hA43⟩ : ∃ A1, A1 = (if co27 = ((ji32) : Int).toNat then Ao27 else (Ao27 : Option Addr).map (·.add (((ji32) : Int).toNat * 1))) := ⟨_, rfl⟩; obtain ⟨c43, hc43⟩ : ∃ c1, c1 = co27 - ((ji32) : Int).toNat := ⟨_, rfl⟩; have hy43 : y428.length = ((wrap64 ((ji32) + (t404.length : Int))) : Int).toNat - ((ji32) : Int).toNat := (by rw [Ny428.out, List.length_drop, List.length_take] <;> omega); rw [show ((t415).take ((wrap64 ((ji32) + (t404.length : Int))) : Int).toNat).drop ((ji32) : Int).toNat = y428 from Ny428.out.symm] at hr43; replace hr43 : Kd.C (Kd.int .i64) _ A43 y428.length y428 := (by rw [hA43]; exact hr43); rw [← hy43, ← hA43, ← hc43] at hcut43; have HR431 := Aside0.mk hr43; have HC431 := Aside0.mk (show y428.length ≤ c43 from by rw [hy43, hc43]; exact Nat.sub_le_sub_right (Nat.le_trans (by omega) hroom43) _); clear hr43 hC43 hroom43 hi043 hsz43 hc43; have KY43 := Aside0.mk hy43; have KA43 := Aside0.mk hA43; clear hy43 hA43; have KL43 := Aside0.mk (show ((wrap64 ((ji32) + (t404.length : Int))) : Int).toNat ≤ t415.length from by omega); have KM43 := Aside0.mk (show ((ji32) : Int).toNat ≤ ((wrap64 ((ji32) + (t404.length : Int))) : Int).toNat from by omega); replace q43 := eq_true q43) | (go_at_call 64; (try simp only [i64_w, i32_w]); (with_reducible refine (laws_ints.calls kj7 _ _ y428 _ _ t404 true _ ?side1 ?side2 ?side3 ?side4 A36.out).mono ?_); (case side1 => repeat (first | exact (by repeat (first | (with_reducible exact HR431.out) | (with_reducible refine Kd.C_alloc ?_ _) | (with_reducible refine Kd.C_drewN ?_ _) | (with_reducible refine Kd.C_drew ?_) | exact HR431.out)) | (with_reducible refine Kd.C_alloc ?_ _) | (with_reducible refine Kd.C_drewN ?_ _) | (with_reducible refine Kd.C_drew ?_))); (case side2 => exact HC431.out); (case side3 => repeat (first | exact (Kd.R_reads' HO_4.out).2.2 | (with_reducible refine Kd.C_alloc ?_ _) | (with_reducible refine Kd.C_drewN ?_ _) | (with_reducible refine Kd.C_drew ?_))); (case side4 => exact (Kd.R_reads' HO_4.out).2.1); rintro e w' ⟨rfl, ⟨nd, rfl⟩⟩; (try first | exact ⟨rfl, _, World.drewN_drewN _ _ _⟩ | exact ⟨rfl, _, Eq.trans (World.drewN_drewN _ _ _) (congrArg (World.drewN _) (Nat.add_assoc _ _ _))⟩); have hcz44_0 : wc.cell? ⟨gb410, 0, none⟩ = some (.int .i64 t401) := (blk_cell BK410.out 0).trans rfl; have hcz44_1 : wc.cell? ⟨gb410, 1, none⟩ = some (.int .i64 t402) := (blk_cell BK410.out 1).trans rfl; have hcz44_2 : wc.cell? ⟨gb410, 2, none⟩ = some (.int .i64 t403) := (blk_cell BK410.out 2).trans rfl; have hfz44_0 := blk_frozen BK410.out 0; have hfz44_1 := blk_frozen BK410.out 1; have hfz44_2 := blk_frozen BK410.out 2) | (go_at_call 41; (try simp only [i64_w, i32_w]); (with_reducible show Calls _ _ #[_, _, .slice Ao42 t411.length co42] _ _); (refine (impl_CountFitting.calls kj7 t401 t402 t403 (fun k_ => False) _ _ ([] : List Int) (fun k_ => some k_ = (.slice Ao42 t411.length co42 : Value).ownBlock) _ _ t411 t433 _ ?side1 ?side2 A38.out).mono ?_); (case side1 => exact Kd.V_nil _ _ _ _ _); (case side2 => exact Kd.R_V (Kd.R_tight rfl (Kd.R_types (HO_6.out) BK410.out (by decide)))); rintro e w45 ⟨rfl, hb⟩; have n0_ := Aside0.mk (Kd.R_below (by (with_reducible repeat (first | apply Kd.R_alloc | apply Kd.R_drewN | apply Kd.R_drew)); exact HO_4.out) hb); have n1_ := Aside0.mk (Kd.Q_below (by (with_reducible repeat (first | apply Kd.Q_alloc | apply Kd.Q_drewN | apply Kd.Q_drew)); exact HO_5.out) hb); have n2_ := Aside0.mk (Kd.R_below (by (with_reducible repeat (first | apply Kd.R_alloc | apply Kd.R_drewN | apply Kd.R_drew)); exact HO_6.out) hb); have n3_ := Aside0.mk (Kd.R_below (by (with_reducible repeat (first | apply Kd.R_alloc | apply Kd.R_drewN | apply Kd.R_drew)); exact HO_8.out) hb); have n4_ := Aside0.mk (blk_below (g := gb410) (o := .cells #[.int .i64 t401, .int .i64 t402, .int .i64 t403] 25 (0, 0)) (by (with_reducible repeat (first | refine blk_drewN ?_ _ | refine blk_drew ?_ | refine blk_alloc ?_ _)); exact BK410.out) hb); have n7_ := Aside0.mk (below_step (by first | (with_reducible exact pw_below_drewN HB.out _) | repeat (first | (with_reducible first | exact HB.out | apply below_alloc | apply pw_below_drewN | apply below_drew1 | refine below_set ?_ GE410.out) | exact HB.out)) hb); clear HO_4; clear HO_5; clear HO_6; clear HO_8; clear BK410; (try clear HR426); (try clear HR431); clear HB; have HO_4 := n0_; have HO_5 := n1_; have HO_6 := n2_; have HO_8 := n3_; have BK410 := n4_; have HB := n7_; clear n0_ n1_ n2_ n3_ n4_ n7_; (try clear hb); (try clear hb2); (try clear hk); (try clear hi); have hcz46_0 : w45.cell? ⟨gb410, 0, none⟩ = some (.int .i64 t401) := (blk_cell BK410.out 0).trans rfl; have hcz46_1 : w45.cell? ⟨gb410, 1, none⟩ = some (.int .i64 t402) := (blk_cell BK410.out 1).trans rfl; have hcz46_2 : w45.cell? ⟨gb410, 2, none⟩ = some (.int .i64 t403) := (blk_cell BK410.out 2).trans rfl; have hfz46_0 := blk_frozen BK410.out 0; have hfz46_1 := blk_frozen BK410.out 1; have hfz46_2 := blk_frozen BK410.out 2) | (go_at_call 41; (try simp only [i64_w, i32_w]); (with_reducible show Calls _ _ #[_, _, .slice Ao27 t415.length co27] _ _); (refine (impl_CountFitting.calls kj7 t401 t402 t403 (fun k_ => False) _ _ ([] : List Int) (fun k_ => some k_ = (.slice Ao27 t415.length co27 : Value).ownBlock) _ _ t415 t434 _ ?side1 ?side2 A40.out).mono ?_); (case side1 => exact Kd.V_nil _ _ _ _ _); (case side2 => exact Kd.R_V (Kd.R_tight rfl (Kd.R_types (HO_8.out) BK410.out (by decide)))); rintro e w47 ⟨rfl, hb⟩; have n0_ := Aside0.mk (Kd.R_below (by (with_reducible repeat (first | apply Kd.R_alloc | apply Kd.R_drewN | apply Kd.R_drew)); exact HO_4.out) hb); have n1_ := Aside0.mk (Kd.Q_below (by (with_reducible repeat (first | apply Kd.Q_alloc | apply Kd.Q_drewN | apply Kd.Q_drew)); exact HO_5.out) hb); have n2_ := Aside0.mk (Kd.R_below (by (with_reducible repeat (first | apply Kd.R_alloc | apply Kd.R_drewN | apply Kd.R_drew)); exact HO_6.out) hb); have n3_ := Aside0.mk (Kd.R_below (by (with_reducible repeat (first | apply Kd.R_alloc | apply Kd.R_drewN | apply Kd.R_drew)); exact HO_8.out) hb); have n4_ := Aside0.mk (blk_below (g := gb410) (o := .cells #[.int .i64 t401, .int .i64 t402, .int .i64 t403] 25 (0, 0)) (by (with_reducible repeat (first | refine blk_drewN ?_ _ | refine blk_drew ?_ | refine blk_alloc ?_ _)); exact BK410.out) hb); have n7_ := Aside0.mk (below_step (by first | (with_reducible exact pw_below_drewN HB.out _) | repeat (first | (with_reducible first | exact HB.out | apply below_alloc | apply pw_below_drewN | apply below_drew1 | refine below_set ?_ GE410.out) | exact HB.out)) hb); clear HO_4; clear HO_5; clear HO_6; clear HO_8; clear BK410; (try clear HR426); (try clear HR431); clear HB; have HO_4 := n0_; have HO_5 := n1_; have HO_6 := n2_; have HO_8 := n3_; have BK410 := n4_; have HB := n7_; clear n0_ n1_ n2_ n3_ n4_ n7_; (try clear hb); (try clear hb2); (try clear hk); (try clear hi))); try go_wp2_with (first | (go_at_call 64; (try simp only [i64_w, i32_w]); (with_reducible refine (laws_ints.calls kj7 _ _ y423 _ _ t404 true _ ?side1 ?side2 ?side3 ?side4 A30.out).mono ?_); (case side1 => repeat (first | exact (by repeat (first | (with_reducible exact HR426.out) | (with_reducible refine Kd.C_alloc ?_ _) | (with_reducible refine Kd.C_drewN ?_ _) | (with_reducible refine Kd.C_drew ?_) | exact HR426.out)) | (with_reducible refine Kd.C_alloc ?_ _) | (with_reducible refine Kd.C_drewN ?_ _) | (with_reducible refine Kd.C_drew ?_))); (case side2 => exact HC426.out); (case side3 => repeat (first | exact (Kd.R_reads' HO_4.out).2.2 | (with_reducible refine Kd.C_alloc ?_ _) | (with_reducible refine Kd.C_drewN ?_ _) | (with_reducible refine Kd.C_drew ?_))); (case side4 => exact (Kd.R_reads' HO_4.out).2.1); rintro e w' ⟨rfl, ⟨nd, rfl⟩⟩; (try first | exact ⟨rfl, _, World.drewN_drewN _ _ _⟩ | exact ⟨rfl, _, Eq.trans (World.drewN_drewN _ _ _) (congrArg (World.drewN _) (Nat.add_assoc _ _ _))⟩); have q43 : ((wrap64 ((ji32) + (t404.length : Int))) : Int) ≤ ((t415.length : Int) : Int) := of_decide_eq_true (by first | (with_reducible assumption) | assumption); obtain ⟨i043, hi043, _, hsz43, _⟩ := info_parts info3; have hroom43 : t415.length ≤ co27 := (Kd.R_reads' HO_8.out).2.1; have hC43 : Kd.C (Kd.int .i64) _ Ao27 t415.length t415 := (Kd.R_reads' HO_8.out).2.2; have ql43 : ((ji32) : Int) ≤ ((wrap64 ((ji32) + (t404.length : Int))) : Int) := of_decide_eq_true (by first | (with_reducible assumption) | assumption); have q043 : (0 : Int) ≤ ((ji32) : Int) := of_decide_eq_true (by first | (with_reducible assumption) | assumption); have hcut43 := cut_mid (P := Try.prog) 28 3 .i64 .i64 Try.underlying28 hi043 1 hsz43 Ao27 t415.length co27 (ji32) (wrap64 ((ji32) + (t404.length : Int))) q043 ql43 q43 hroom43; have hr43 := Kd.C_mid (lo := ((ji32) : Int).toNat) (hi := ((wrap64 ((ji32) + (t404.length : Int))) : Int).toNat) (c := co27) hC43 (by omega) (by omega) hroom43; obtain ⟨A43, hA43⟩ : ∃ A1, A1 = (if co27 = ((ji32) : Int).toNat then Ao27 else (Ao27 : Option Addr).map (·.add (((ji32) : Int).toNat * 1))) := ⟨_, rfl⟩; obtain ⟨c43, hc43⟩ : ∃ c1, c1 = co27 - ((ji32) : Int).toNat := ⟨_, rfl⟩; have hy43 : y428.length = ((wrap64 ((ji32) + (t404.length : Int))) : Int).toNat - ((ji32) : Int).toNat := (by rw [Ny428.out, List.length_drop, List.length_take] <;> omega); rw [show ((t415).take ((wrap64 ((ji32) + (t404.length : Int))) : Int).toNat).drop ((ji32) : Int).toNat = y428 from Ny428.out.symm] at hr43; replace hr43 : Kd.C (Kd.int .i64) _ A43 y428.length y428 := (by rw [hA43]; exact hr43); rw [← hy43, ← hA43, ← hc43] at hcut43; have HR431 := Aside0.mk hr43; have HC431 := Aside0.mk (show y428.length ≤ c43 from by rw [hy43, hc43]; exact Nat.sub_le_sub_right (Nat.le_trans (by omega) hroom43) _); clear hr43 hC43 hroom43 hi043 hsz43 hc43; have KY43 := Aside0.mk hy43; have KA43 := Aside0.mk hA43; clear hy43 hA43; have KL43 := Aside0.mk (show ((wrap64 ((ji32) + (t404.length : Int))) : Int).toNat ≤ t415.length from by omega); have KM43 := Aside0.mk (show ((ji32) : Int).toNat ≤ ((wrap64 ((ji32) + (t404.length : Int))) : Int).toNat from by omega); replace q43 := eq_true q43) | (go_at_call 64; (try simp only [i64_w, i32_w]); (with_reducible refine (laws_ints.calls kj7 _ _ y428 _ _ t404 true _ ?side1 ?side2 ?side3 ?side4 A36.out).mono ?_); (case side1 => repeat (first | exact (by repeat (first | (with_reducible exact HR431.out) | (with_reducible refine Kd.C_alloc ?_ _) | (with_reducible refine Kd.C_drewN ?_ _) | (with_reducible refine Kd.C_drew ?_) | exact HR431.out)) | (with_reducible refine Kd.C_alloc ?_ _) | (with_reducible refine Kd.C_drewN ?_ _) | (with_reducible refine Kd.C_drew ?_))); (case side2 => exact HC431.out); (case side3 => repeat (first | exact (Kd.R_reads' HO_4.out).2.2 | (with_reducible refine Kd.C_alloc ?_ _) | (with_reducible refine Kd.C_drewN ?_ _) | (with_reducible refine Kd.C_drew ?_))); (case side4 => exact (Kd.R_reads' HO_4.out).2.1); rintro e w' ⟨rfl, ⟨nd, rfl⟩⟩; (try first | exact ⟨rfl, _, World.drewN_drewN _ _ _⟩ | exact ⟨rfl, _, Eq.trans (World.drewN_drewN _ _ _) (congrArg (World.drewN _) (Nat.add_assoc _ _ _))⟩); have hcz44_0 : wc.cell? ⟨gb410, 0, none⟩ = some (.int .i64 t401) := (blk_cell BK410.out 0).trans rfl; have hcz44_1 : wc.cell? ⟨gb410, 1, none⟩ = some (.int .i64 t402) := (blk_cell BK410.out 1).trans rfl; have hcz44_2 : wc.cell? ⟨gb410, 2, none⟩ = some (.int .i64 t403) := (blk_cell BK410.out 2).trans rfl; have hfz44_0 := blk_frozen BK410.out 0; have hfz44_1 := blk_frozen BK410.out 1; have hfz44_2 := blk_frozen BK410.out 2) | (go_at_call 41; (try simp only [i64_w, i32_w]); (with_reducible show Calls _ _ #[_, _, .slice Ao42 t411.length co42] _ _); (refine (impl_CountFitting.calls kj7 t401 t402 t403 (fun k_ => False) _ _ ([] : List Int) (fun k_ => some k_ = (.slice Ao42 t411.length co42 : Value).ownBlock) _ _ t411 t433 _ ?side1 ?side2 A38.out).mono ?_); (case side1 => exact Kd.V_nil _ _ _ _ _); (case side2 => exact Kd.R_V (Kd.R_tight rfl (Kd.R_types (HO_6.out) BK410.out (by decide)))); rintro e w45 ⟨rfl, hb⟩; have n0_ := Aside0.mk (Kd.R_below (by (with_reducible repeat (first | apply Kd.R_alloc | apply Kd.R_drewN | apply Kd.R_drew)); exact HO_4.out) hb); have n1_ := Aside0.mk (Kd.Q_below (by (with_reducible repeat (first | apply Kd.Q_alloc | apply Kd.Q_drewN | apply Kd.Q_drew)); exact HO_5.out) hb); have n2_ := Aside0.mk (Kd.R_below (by (with_reducible repeat (first | apply Kd.R_alloc | apply Kd.R_drewN | apply Kd.R_drew)); exact HO_6.out) hb); have n3_ := Aside0.mk (Kd.R_below (by (with_reducible repeat (first | apply Kd.R_alloc | apply Kd.R_drewN | apply Kd.R_drew)); exact HO_8.out) hb); have n4_ := Aside0.mk (blk_below (g := gb410) (o := .cells #[.int .i64 t401, .int .i64 t402, .int .i64 t403] 25 (0, 0)) (by (with_reducible repeat (first | refine blk_drewN ?_ _ | refine blk_drew ?_ | refine blk_alloc ?_ _)); exact BK410.out) hb); have n7_ := Aside0.mk (below_step (by first | (with_reducible exact pw_below_drewN HB.out _) | repeat (first | (with_reducible first | exact HB.out | apply below_alloc | apply pw_below_drewN | apply below_drew1 | refine below_set ?_ GE410.out) | exact HB.out)) hb); clear HO_4; clear HO_5; clear HO_6; clear HO_8; clear BK410; (try clear HR426); (try clear HR431); clear HB; have HO_4 := n0_; have HO_5 := n1_; have HO_6 := n2_; have HO_8 := n3_; have BK410 := n4_; have HB := n7_; clear n0_ n1_ n2_ n3_ n4_ n7_; (try clear hb); (try clear hb2); (try clear hk); (try clear hi); have hcz46_0 : w45.cell? ⟨gb410, 0, none⟩ = some (.int .i64 t401) := (blk_cell BK410.out 0).trans rfl; have hcz46_1 : w45.cell? ⟨gb410, 1, none⟩ = some (.int .i64 t402) := (blk_cell BK410.out 1).trans rfl; have hcz46_2 : w45.cell? ⟨gb410, 2, none⟩ = some (.int .i64 t403) := (blk_cell BK410.out 2).trans rfl; have hfz46_0 := blk_frozen BK410.out 0; have hfz46_1 := blk_frozen BK410.out 1; have hfz46_2 := blk_frozen BK410.out 2) | (go_at_call 41; (try simp only [i64_w, i32_w]); (with_reducible show Calls _ _ #[_, _, .slice Ao27 t415.length co27] _ _); (refine (impl_CountFitting.calls kj7 t401 t402 t403 (fun k_ => False) _ _ ([] : List Int) (fun k_ => some k_ = (.slice Ao27 t415.length co27 : Value).ownBlock) _ _ t415 t434 _ ?side1 ?side2 A40.out).mono ?_); (case side1 => exact Kd.V_nil _ _ _ _ _); (case side2 => exact Kd.R_V (Kd.R_tight rfl (Kd.R_types (HO_8.out) BK410.out (by decide)))); rintro e w47 ⟨rfl, hb⟩; have n0_ := Aside0.mk (Kd.R_below (by (with_reducible repeat (first | apply Kd.R_alloc | apply Kd.R_drewN | apply Kd.R_drew)); exact HO_4.out) hb); have n1_ := Aside0.mk (Kd.Q_below (by (with_reducible repeat (first | apply Kd.Q_alloc | apply Kd.Q_drewN | apply Kd.Q_drew)); exact HO_5.out) hb); have n2_ := Aside0.mk (Kd.R_below (by (with_reducible repeat (first | apply Kd.R_alloc | apply Kd.R_drewN | apply Kd.R_drew)); exact HO_6.out) hb); have n3_ := Aside0.mk (Kd.R_below (by (with_reducible repeat (first | apply Kd.R_alloc | apply Kd.R_drewN | apply Kd.R_drew)); exact HO_8.out) hb); have n4_ := Aside0.mk (blk_below (g := gb410) (o := .cells #[.int .i64 t401, .int .i64 t402, .int .i64 t403] 25 (0, 0)) (by (with_reducible repeat (first | refine blk_drewN ?_ _ | refine blk_drew ?_ | refine blk_alloc ?_ _)); exact BK410.out) hb); have n7_ := Aside0.mk (below_step (by first | (with_reducible exact pw_below_drewN HB.out _) | repeat (first | (with_reducible first | exact HB.out | apply below_alloc | apply pw_below_drewN | apply below_drew1 | refine below_set ?_ GE410.out) | exact HB.out)) hb); clear HO_4; clear HO_5; clear HO_6; clear HO_8; clear BK410; (try clear HR426); (try clear HR431); clear HB; have HO_4 := n0_; have HO_5 := n1_; have HO_6 := n2_; have HO_8 := n3_; have BK410 := n4_; have HB := n7_; clear n0_ n1_ n2_ n3_ n4_ n7_; (try clear hb); (try clear hb2); (try clear hk); (try clear hi))))
                              (try subst hji32)
                              go_meet
                              case rel => exact ⟨_, ((t434 != (t415.length : Int))), (by first | rfl | (simp; done) | (simp [*]; done)), H', ⟨by have := HJ7.out; first | omega | exact Nat.le_refl _⟩, ⟨by (with_reducible repeat (first | apply Kd.R_alloc | apply Kd.R_drewN | apply Kd.R_drew)); exact HO_4.out⟩, ⟨by (with_reducible repeat (first | apply Kd.Q_alloc | apply Kd.Q_drewN | apply Kd.Q_drew)); exact HO_5.out⟩, ⟨by (with_reducible repeat (first | apply Kd.R_alloc | apply Kd.R_drewN | apply Kd.R_drew)); exact HO_6.out⟩, ⟨by (with_reducible repeat (first | apply Kd.R_alloc | apply Kd.R_drewN | apply Kd.R_drew)); exact HO_8.out⟩, ⟨by (with_reducible repeat (first | refine blk_drewN ?_ _ | refine blk_drew ?_ | refine blk_alloc ?_ _)); exact BK410.out⟩, ⟨by repeat (first | (with_reducible first | exact HB.out | apply below_alloc | apply pw_below_drewN | apply below_drew1 | refine below_set ?_ GE410.out) | exact HB.out)⟩⟩
                            · rw [if_neg c39] at H
                              exact absurd H (by simp)
                          · replace c37 := Bool.eq_false_iff.mpr c37
                            subst c37
                            have H1 : (none) = some r := by rw [if_neg (show ¬ (false = true) by decide)] at H; exact H
                            clear H
                            have H := H1
                            clear H1
                            exact absurd H (by simp)
                        · rw [if_neg c35] at H
                          exact absurd H (by simp)
                      · rw [if_neg c34] at H
                        exact absurd H (by simp)
                    · rw [if_neg c33] at H
                      exact absurd H (by simp)
                  · replace c31 := Bool.eq_false_iff.mpr c31
                    subst c31
                    have H1 : (none) = some r := by rw [if_neg (show ¬ (false = true) by decide)] at H; exact H
                    clear H
                    have H := H1
                    clear H1
                    exact absurd H (by simp)
                · rw [if_neg c29] at H
                  exact absurd H (by simp)
              · rw [if_neg c28] at H
                exact absurd H (by simp)
            case rest =>
              clear HC26
              try clear c1
              try clear c2
              try clear c2b0
              try clear c2b1
              try clear p2
              try clear c3
              try clear c4
              try clear q4
              try clear p6
              try clear c7
              try clear c19
              try clear c20
              try clear c21
              try clear c21b0
              try clear c21b1
              try clear c22
              try clear c22b0
              try clear c22b1
              try clear c25
              try clear c28
              try clear c28b0
              try clear c28b1
              try clear c29
              try clear c29b0
              try clear c29b1
              try clear c31
              try clear c33
              try clear c33b0
              try clear c33b1
              try clear c34
              try clear c34b0
              try clear c34b1
              try clear c35
              try clear c35b0
              try clear c35b1
              try clear c37
              try clear c39
              try clear c39b0
              try clear c39b1
              try clear q41
              try clear c43
              try clear q43
              try clear hcz11_0
              try clear hcz11_1
              try clear hcz11_2
              try clear hcz15_0
              try clear hcz15_1
              try clear hcz15_2
              try clear hcz17_0
              try clear hcz17_1
              try clear hcz17_2
              try clear hcz44_0
              try clear hcz44_1
              try clear hcz44_2
              try clear hcz46_0
              try clear hcz46_1
              try clear hcz46_2
              try clear hfz11_0
              try clear hfz11_1
              try clear hfz11_2
              try clear hfz15_0
              try clear hfz15_1
              try clear hfz15_2
              try clear hfz17_0
              try clear hfz17_1
              try clear hfz17_2
              try clear hfz44_0
              try clear hfz44_1
              try clear hfz44_2
              try clear hfz46_0
              try clear hfz46_1
              try clear hfz46_2
              try clear p2
              try clear p6
              try clear q043
              try clear q41
              try clear q43
              obtain ⟨kq, x130_25, rfl, HA, HJ25, HO_4, HO_5, HO_6, HO_8, BK410, HB⟩ := hcut
              cases kq with
              | zero => exact absurd HA.out (by simp [laws_FnQuads.j1])
              | succ kj25 =>
                have H := HA.out
                clear HA
                simp only [laws_FnQuads.j1] at H
                by_cases c48 : x130_25 = true
                · subst c48
                  have H1 : (none) = some r := by rw [if_pos rfl] at H; exact H
                  clear H
                  have H := H1
                  clear H1
                  exact absurd H (by simp)
                · replace c48 := Bool.eq_false_iff.mpr c48
                  subst c48
                  have H1 : (if 0 ≤ (t404.length : Int) then (if (t404.length : Int) ≤ (t411.length : Int) then ((some (t411.drop ((t404.length : Int) : Int).toNat : List Int)).bind fun y435 => (laws_FnQuads.l0 kj25 t407 t411 t415 (wrap64 (Int.tdiv (wrap64 ((t415.length : Int) - (t404.length : Int))) 2)) y435 (y435.length : Int) 0 t401 t402 t403)) else (none)) else (none)) = some r := by rw [if_neg (show ¬ (false = true) by decide)] at H; exact H
                  clear H
                  have H := H1
                  clear H1
                  by_cases c49 : 0 ≤ (t404.length : Int)
                  · rw [if_pos c49] at H
                    have c49b0 := eq_true c49
                    have c49b1 : decide (0 ≤ (t404.length : Int)) = true := decide_eq_true c49
                    clear c49
                    by_cases c50 : (t404.length : Int) ≤ (t411.length : Int)
                    · rw [if_pos c50] at H
                      have c50b0 := eq_true c50
                      have c50b1 : decide ((t404.length : Int) ≤ (t411.length : Int)) = true := decide_eq_true c50
                      clear c50
                      obtain ⟨y435, hy435⟩ : ∃ y_ : List Int, y_ = (t411.drop ((t404.length : Int) : Int).toNat) := ⟨_, rfl⟩
                      replace H : (laws_FnQuads.l0 kj25 t407 t411 t415 (wrap64 (Int.tdiv (wrap64 ((t415.length : Int) - (t404.length : Int))) 2)) y435 (y435.length : Int) 0 t401 t402 t403) = some r := by first | (rw [hy435]; with_reducible exact H) | (have H2_ := (Option.bind_some _ _).symm.trans H; rw [hy435]; with_reducible exact H2_) | (have H2_ := (Option.bind_some _ _).symm.trans H; with_reducible exact H2_) | with_reducible exact H | (rw [hy435]; exact H) | exact H
                      have Ny435 := Aside0.mk hy435
                      clear hy435
                      have H' := Aside0.mk H
                      clear H
                      obtain ⟨Ao52, co52, eo52⟩ := Kd.R_slice HO_6.out
                      subst eo52
                      have q51 : ((t404.length : Int) : Int) ≤ ((t411.length : Int) : Int) := of_decide_eq_true (by first | (with_reducible assumption) | assumption)
                      obtain ⟨i051, hi051, _, hsz51, _⟩ := info_parts info3
                      have hroom51 : t411.length ≤ co52 := (Kd.R_reads' HO_6.out).2.1
                      have hC51 : Kd.C (Kd.int .i64) _ Ao52 t411.length t411 := (Kd.R_reads' HO_6.out).2.2
                      have q051 : (0 : Int) ≤ ((t404.length : Int) : Int) := of_decide_eq_true (by first | (with_reducible assumption) | assumption)
                      have hcut51 := cut_from (P := Try.prog) 28 3 .i64 Try.underlying28 hi051 1 hsz51 Ao52 t411.length co52 (t404.length : Int) q051 q51
                      have hr51 := Kd.C_drop (m := ((t404.length : Int) : Int).toNat) (c := co52) hC51 (by omega) hroom51
                      obtain ⟨A51, hA51⟩ : ∃ A1, A1 = (if co52 = ((t404.length : Int) : Int).toNat then Ao52 else (Ao52 : Option Addr).map (·.add (((t404.length : Int) : Int).toNat * 1))) := ⟨_, rfl⟩
                      obtain ⟨c51, hc51⟩ : ∃ c1, c1 = co52 - ((t404.length : Int) : Int).toNat := ⟨_, rfl⟩
                      have hy51 : y435.length = t411.length - ((t404.length : Int) : Int).toNat := (by rw [Ny435.out, List.length_drop] <;> omega)
                      rw [show (t411).drop ((t404.length : Int) : Int).toNat = y435 from Ny435.out.symm] at hr51
                      replace hr51 : Kd.C (Kd.int .i64) _ A51 y435.length y435 := (by rw [hA51]; exact hr51)
                      rw [← hy51, ← hA51, ← hc51] at hcut51
                      have HR438 := Aside0.mk hr51
                      have HC438 := Aside0.mk (show y435.length ≤ c51 from by rw [hy51, hc51]; exact Nat.sub_le_sub_right hroom51 _)
                      clear hr51 hC51 hroom51 hi051 hsz51 hc51
                      have KY51 := Aside0.mk hy51
                      have KA51 := Aside0.mk hA51
                      clear hy51 hA51
                      have KL51 := Aside0.mk (show ((t404.length : Int) : Int).toNat ≤ t411.length from by omega)
                      replace q51 := eq_true q51
                      go_wp2
                      repeat (go_quiet (fail); try go_wp2)
                      go_loopg [136] kj25 (fun kq v136 w' => ∃ (x136_3 : Int), v136 = .int .i64 x136_3 ∧ Aside0 (laws_FnQuads.l0 kq t407 t411 t415 (wrap64 (Int.tdiv (wrap64 ((t415.length : Int) - (t404.length : Int))) 2)) y435 (y435.length : Int) x136_3 t401 t402 t403 = some r) ∧ Aside0 (kq ≤ kj25) ∧ Aside0 (Kd.Q (Kd.int .i64) 3 w' w.heap.size (fun k_ => some k_ ≠ ((.slice Ao52 t411.length co52) : Value).ownBlock ∧ some k_ ≠ ((.slice Ao27 t415.length co27) : Value).ownBlock) (.slice Ao13 t407.length co13) t407) ∧ Aside0 (Kd.R (Kd.int .i64) 3 w' w.heap.size (fun k_ => some k_ ≠ ((.slice Ao13 t407.length co13) : Value).ownBlock ∧ some k_ ≠ ((.slice Ao27 t415.length co27) : Value).ownBlock) (.slice Ao52 t411.length co52) t411) ∧ Aside0 (Kd.R (Kd.int .i64) 3 w' w.heap.size (fun k_ => some k_ ≠ ((.slice Ao13 t407.length co13) : Value).ownBlock ∧ some k_ ≠ ((.slice Ao52 t411.length co52) : Value).ownBlock) (.slice Ao27 t415.length co27) t415) ∧ Aside0 (w'.heap[gb410]? = some (.cells #[.int .i64 t401, .int .i64 t402, .int .i64 t403] 25 (0, 0))) ∧ Aside0 (Kd.C (Kd.int .i64) w' A51 y435.length y435) ∧ Aside0 (Below w.heap.size w w'))
                      case atStart => exact ⟨(0), (by first | rfl | (simp; done) | (simp [*]; done)), H', ⟨Nat.le_refl _⟩, ⟨by (with_reducible repeat (first | apply Kd.Q_alloc | apply Kd.Q_drewN | apply Kd.Q_drew)); exact Kd.Q_mono HO_5.out (fun _ hk => ⟨hk.2.1, hk.2.2⟩)⟩, ⟨by (with_reducible repeat (first | apply Kd.R_alloc | apply Kd.R_drewN | apply Kd.R_drew)); exact Kd.R_mono HO_6.out (fun _ hk => ⟨hk.2.1, hk.2.2⟩)⟩, ⟨by (with_reducible repeat (first | apply Kd.R_alloc | apply Kd.R_drewN | apply Kd.R_drew)); exact Kd.R_mono HO_8.out (fun _ hk => ⟨hk.2.1, hk.2.2⟩)⟩, ⟨by (with_reducible repeat (first | refine blk_drewN ?_ _ | refine blk_drew ?_ | refine blk_alloc ?_ _)); exact BK410.out⟩, ⟨by repeat (first | (with_reducible exact HR438.out) | (with_reducible refine Kd.C_alloc ?_ _) | (with_reducible refine Kd.C_drewN ?_ _) | (with_reducible refine Kd.C_drew ?_) | exact HR438.out)⟩, ⟨by repeat (first | (with_reducible first | exact HB.out | apply below_alloc | apply pw_below_drewN | apply below_drew1 | refine below_set ?_ GE410.out) | exact HB.out)⟩⟩
                      case round =>
                        clear H'
                        try clear c1
                        try clear c2
                        try clear c2b0
                        try clear c2b1
                        try clear p2
                        try clear c3
                        try clear c4
                        try clear q4
                        try clear c5
                        try clear q5
                        try clear p6
                        try clear c7
                        try clear c19
                        try clear c20
                        try clear c21
                        try clear c21b0
                        try clear c21b1
                        try clear c22
                        try clear c22b0
                        try clear c22b1
                        try clear c25
                        try clear c28
                        try clear c28b0
                        try clear c28b1
                        try clear c29
                        try clear c29b0
                        try clear c29b1
                        try clear c31
                        try clear c33
                        try clear c33b0
                        try clear c33b1
                        try clear c34
                        try clear c34b0
                        try clear c34b1
                        try clear c35
                        try clear c35b0
                        try clear c35b1
                        try clear c37
                        try clear c39
                        try clear c39b0
                        try clear c39b1
                        try clear q41
                        try clear c43
                        try clear q43
                        try clear c48
                        try clear c49
                        try clear c49b0
                        try clear c49b1
                        try clear c50
                        try clear c50b0
                        try clear c50b1
                        try clear c51
                        try clear q51
                        try clear hcz11_0
                        try clear hcz11_1
                        try clear hcz11_2
                        try clear hcz15_0
                        try clear hcz15_1
                        try clear hcz15_2
                        try clear hcz17_0
                        try clear hcz17_1
                        try clear hcz17_2
                        try clear hcz44_0
                        try clear hcz44_1
                        try clear hcz44_2
                        try clear hcz46_0
                        try clear hcz46_1
                        try clear hcz46_2
                        try clear hfz11_0
                        try clear hfz11_1
                        try clear hfz11_2
                        try clear hfz15_0
                        try clear hfz15_1
                        try clear hfz15_2
                        try clear hfz17_0
                        try clear hfz17_1
                        try clear hfz17_2
                        try clear hfz44_0
                        try clear hfz44_1
                        try clear hfz44_2
                        try clear hfz46_0
                        try clear hfz46_1
                        try clear hfz46_2
                        try clear p2
                        try clear p6
                        try clear q043
                        try clear q051
                        try clear q4
                        try clear q41
                        try clear q43
                        try clear q51
                        obtain ⟨x136_3, rfl, HA, HK3, HO_5, HO_6, HO_8, BK410, HR438, HB⟩ := hrel
                        cases gk with
                        | zero => exact absurd HA.out (by simp [laws_FnQuads.l0])
                        | succ k3 =>
                          have H := HA.out
                          clear HA
                          simp only [laws_FnQuads.l0] at H
                          by_cases c53 : x136_3 < (y435.length : Int)
                          · rw [if_pos c53] at H
                            have c53b0 : decide (x136_3 < (y435.length : Int)) = true := decide_eq_true c53
                            clear c53
                            by_cases c54 : 0 ≤ x136_3
                            · rw [if_pos c54] at H
                              have c54b0 : decide (0 ≤ x136_3) = true := decide_eq_true c54
                              clear c54
                              by_cases c55 : x136_3 < (y435.length : Int)
                              · rw [if_pos c55] at H
                                have c55b0 : decide (x136_3 < (y435.length : Int)) = true := decide_eq_true c55
                                clear c55
                                replace H := Option.bind_eq_some_iff.mp H
                                obtain ⟨t440, A560, H⟩ := H
                                replace H : (if t440 = 0 then (none) else (laws_FnQuads.l0 k3 t407 t411 t415 (wrap64 (Int.tdiv (wrap64 ((t415.length : Int) - (t404.length : Int))) 2)) y435 (y435.length : Int) (wrap64 (x136_3 + 1)) t401 t402 t403)) = some r := H
                                have A56 := Aside0.mk A560
                                clear A560
                                by_cases c57 : t440 = 0
                                · rw [if_pos c57] at H
                                  exact absurd H (by simp)
                                · rw [if_neg c57] at H
                                  have c57b0 : (t440 == 0) = false := beq_eq_false_iff_ne.mpr c57
                                  have c57b1 : (t440 != 0) = true := bne_iff_ne.mpr c57
                                  have H' := Aside0.mk H
                                  clear H
                                  have p439 : 0 ≤ (x136_3 : Int) := of_decide_eq_true (by first | (with_reducible assumption) | assumption)
                                  have q439 : x136_3 < (y435.length : Int) := of_decide_eq_true (by first | (with_reducible assumption) | assumption)
                                  obtain ⟨ad439, e439, hx439_0⟩ := Kd.at_int HR438.out x136_3 p439 q439
                                  cases e439
                                  replace p439 := eq_true p439
                                  replace q439 := eq_true q439
                                  go_wp2_with (first | (go_at_call 45; (try simp only [i64_w, i32_w]); (with_reducible refine (laws_count.calls k3 _ _ t407 (rd y435 x136_3) t440 _ ?side1 ?side2 A56.out).mono ?_); (case side1 => repeat (first | exact (Kd.Q_reads' HO_5.out).2.2 | (with_reducible refine Kd.C_alloc ?_ _) | (with_reducible refine Kd.C_drewN ?_ _) | (with_reducible refine Kd.C_drew ?_))); (case side2 => exact (Kd.Q_reads' HO_5.out).2.1); rintro e w' ⟨rfl, ⟨nd, rfl⟩⟩; (try first | exact ⟨rfl, _, World.drewN_drewN _ _ _⟩ | exact ⟨rfl, _, Eq.trans (World.drewN_drewN _ _ _) (congrArg (World.drewN _) (Nat.add_assoc _ _ _))⟩)))
                                  repeat (go_quiet (first | (go_at_call 45; (try simp only [i64_w, i32_w]); (with_reducible refine (laws_count.calls k3 _ _ t407 (rd y435 x136_3) t440 _ ?side1 ?side2 A56.out).mono ?_); (case side1 => repeat (first | exact (Kd.Q_reads' HO_5.out).2.2 | (with_reducible refine Kd.C_alloc ?_ _) | (with_reducible refine Kd.C_drewN ?_ _) | (with_reducible refine Kd.C_drew ?_))); (case side2 => exact (Kd.Q_reads' HO_5.out).2.1); rintro e w' ⟨rfl, ⟨nd, rfl⟩⟩; (try first | exact ⟨rfl, _, World.drewN_drewN _ _ _⟩ | exact ⟨rfl, _, Eq.trans (World.drewN_drewN _ _ _) (congrArg (World.drewN _) (Nat.add_assoc _ _ _))⟩))); try go_wp2_with (first | (go_at_call 45; (try simp only [i64_w, i32_w]); (with_reducible refine (laws_count.calls k3 _ _ t407 (rd y435 x136_3) t440 _ ?side1 ?side2 A56.out).mono ?_); (case side1 => repeat (first | exact (Kd.Q_reads' HO_5.out).2.2 | (with_reducible refine Kd.C_alloc ?_ _) | (with_reducible refine Kd.C_drewN ?_ _) | (with_reducible refine Kd.C_drew ?_))); (case side2 => exact (Kd.Q_reads' HO_5.out).2.1); rintro e w' ⟨rfl, ⟨nd, rfl⟩⟩; (try first | exact ⟨rfl, _, World.drewN_drewN _ _ _⟩ | exact ⟨rfl, _, Eq.trans (World.drewN_drewN _ _ _) (congrArg (World.drewN _) (Nat.add_assoc _ _ _))⟩))))
                                  go_roundg k3
                                  case measure => have := HJ7.out; have := HJ25.out; have := HK3.out; omega
                                  case rel => exact ⟨(wrap64 (x136_3 + 1)), (by first | rfl | (simp; done) | (simp [*]; done)), H', ⟨by have := HJ7.out; have := HJ25.out; have := HK3.out; omega⟩, ⟨by (with_reducible repeat (first | apply Kd.Q_alloc | apply Kd.Q_drewN | apply Kd.Q_drew)); exact HO_5.out⟩, ⟨by (with_reducible repeat (first | apply Kd.R_alloc | apply Kd.R_drewN | apply Kd.R_drew)); exact HO_6.out⟩, ⟨by (with_reducible repeat (first | apply Kd.R_alloc | apply Kd.R_drewN | apply Kd.R_drew)); exact HO_8.out⟩, ⟨by (with_reducible repeat (first | refine blk_drewN ?_ _ | refine blk_drew ?_ | refine blk_alloc ?_ _)); exact BK410.out⟩, ⟨by repeat (first | (with_reducible exact HR438.out) | (with_reducible refine Kd.C_alloc ?_ _) | (with_reducible refine Kd.C_drewN ?_ _) | (with_reducible refine Kd.C_drew ?_) | exact HR438.out)⟩, ⟨by repeat (first | (with_reducible first | exact HB.out | apply below_alloc | apply pw_below_drewN | apply below_drew1 | refine below_set ?_ GE410.out) | exact HB.out)⟩⟩
                              · rw [if_neg c55] at H
                                exact absurd H (by simp)
                            · rw [if_neg c54] at H
                              exact absurd H (by simp)
                          · rw [if_neg c53] at H
                            have c53b0 : decide (x136_3 < (y435.length : Int)) = false := decide_eq_false c53
                            clear c53
                            have H' := Aside0.mk H
                            clear H
                            go_wp2
                            repeat (go_quiet (fail); try go_wp2)
                            go_loopg [15] k3 (fun kq v15 w' => ∃ (x15_4 : Int), v15 = .int .i64 x15_4 ∧ Aside0 (laws_FnQuads.l1 kq t407 t411 t415 (wrap64 (Int.tdiv (wrap64 ((t415.length : Int) - (t404.length : Int))) 2)) x15_4 t401 t402 t403 = some r) ∧ Aside0 (kq ≤ k3) ∧ Aside0 (Kd.Q (Kd.int .i64) 3 w' w.heap.size (fun k_ => some k_ ≠ ((.slice Ao52 t411.length co52) : Value).ownBlock ∧ some k_ ≠ ((.slice Ao27 t415.length co27) : Value).ownBlock) (.slice Ao13 t407.length co13) t407) ∧ Aside0 (Kd.R (Kd.int .i64) 3 w' w.heap.size (fun k_ => some k_ ≠ ((.slice Ao13 t407.length co13) : Value).ownBlock ∧ some k_ ≠ ((.slice Ao27 t415.length co27) : Value).ownBlock) (.slice Ao52 t411.length co52) t411) ∧ Aside0 (Kd.R (Kd.int .i64) 3 w' w.heap.size (fun k_ => some k_ ≠ ((.slice Ao13 t407.length co13) : Value).ownBlock ∧ some k_ ≠ ((.slice Ao52 t411.length co52) : Value).ownBlock) (.slice Ao27 t415.length co27) t415) ∧ Aside0 (w'.heap[gb410]? = some (.cells #[.int .i64 t401, .int .i64 t402, .int .i64 t403] 25 (0, 0))) ∧ Aside0 (Kd.C (Kd.int .i64) w' A51 y435.length y435) ∧ Aside0 (Below w.heap.size w w'))
                            case atStart => exact ⟨(0), (by first | rfl | (simp; done) | (simp [*]; done)), H', ⟨Nat.le_refl _⟩, ⟨by (with_reducible repeat (first | apply Kd.Q_alloc | apply Kd.Q_drewN | apply Kd.Q_drew)); exact HO_5.out⟩, ⟨by (with_reducible repeat (first | apply Kd.R_alloc | apply Kd.R_drewN | apply Kd.R_drew)); exact HO_6.out⟩, ⟨by (with_reducible repeat (first | apply Kd.R_alloc | apply Kd.R_drewN | apply Kd.R_drew)); exact HO_8.out⟩, ⟨by (with_reducible repeat (first | refine blk_drewN ?_ _ | refine blk_drew ?_ | refine blk_alloc ?_ _)); exact BK410.out⟩, ⟨by repeat (first | (with_reducible exact HR438.out) | (with_reducible refine Kd.C_alloc ?_ _) | (with_reducible refine Kd.C_drewN ?_ _) | (with_reducible refine Kd.C_drew ?_) | exact HR438.out)⟩, ⟨by repeat (first | (with_reducible first | exact HB.out | apply below_alloc | apply pw_below_drewN | apply below_drew1 | refine below_set ?_ GE410.out) | exact HB.out)⟩⟩
                            case round =>
                              clear H'
                              try clear c1
                              try clear c2
                              try clear c2b0
                              try clear c2b1
                              try clear p2
                              try clear c3
                              try clear c4
                              try clear p4
                              try clear q4
                              try clear hx4
                              try clear c5
                              try clear q5
                              try clear p6
                              try clear c7
                              try clear c19
                              try clear c20
                              try clear c21
                              try clear c21b0
                              try clear c21b1
                              try clear c22
                              try clear c22b0
                              try clear c22b1
                              try clear c25
                              try clear c28
                              try clear c28b0
                              try clear c28b1
                              try clear c29
                              try clear c29b0
                              try clear c29b1
                              try clear c31
                              try clear c33
                              try clear c33b0
                              try clear c33b1
                              try clear c34
                              try clear c34b0
                              try clear c34b1
                              try clear c35
                              try clear c35b0
                              try clear c35b1
                              try clear c37
                              try clear c39
                              try clear c39b0
                              try clear c39b1
                              try clear q41
                              try clear c43
                              try clear p43
                              try clear q43
                              try clear hx43
                              try clear c48
                              try clear c49
                              try clear c49b0
                              try clear c49b1
                              try clear c50
                              try clear c50b0
                              try clear c50b1
                              try clear c51
                              try clear q51
                              try clear c53
                              try clear c53b0
                              try clear c54
                              try clear c54b0
                              try clear c55
                              try clear c55b0
                              try clear c57
                              try clear c57b0
                              try clear c57b1
                              try clear hcz11_0
                              try clear hcz11_1
                              try clear hcz11_2
                              try clear hcz15_0
                              try clear hcz15_1
                              try clear hcz15_2
                              try clear hcz17_0
                              try clear hcz17_1
                              try clear hcz17_2
                              try clear hcz44_0
                              try clear hcz44_1
                              try clear hcz44_2
                              try clear hcz46_0
                              try clear hcz46_1
                              try clear hcz46_2
                              try clear hfz11_0
                              try clear hfz11_1
                              try clear hfz11_2
                              try clear hfz15_0
                              try clear hfz15_1
                              try clear hfz15_2
                              try clear hfz17_0
                              try clear hfz17_1
                              try clear hfz17_2
                              try clear hfz44_0
                              try clear hfz44_1
                              try clear hfz44_2
                              try clear hfz46_0
                              try clear hfz46_1
                              try clear hfz46_2
                              try clear hx439_0
                              try clear p2
                              try clear p439
                              try clear p6
                              try clear q043
                              try clear q051
                              try clear q4
                              try clear q41
                              try clear q43
                              try clear q439
                              try clear q5
                              try clear q51
                              obtain ⟨x15_4, rfl, HA, HK4, HO_5, HO_6, HO_8, BK410, HR438, HB⟩ := hrel
                              cases gk with
                              | zero => exact absurd HA.out (by simp [laws_FnQuads.l1])
                              | succ k4 =>
                                have H := HA.out
                                clear HA
                                simp only [laws_FnQuads.l1] at H
                                by_cases c58 : x15_4 < (wrap64 (Int.tdiv (wrap64 ((t415.length : Int) - (t404.length : Int))) 2))
                                · rw [if_pos c58] at H
                                  have c58b0 : decide (x15_4 < (wrap64 (Int.tdiv (wrap64 ((t415.length : Int) - (t404.length : Int))) 2))) = true := decide_eq_true c58
                                  clear c58
                                  by_cases c59 : 0 ≤ x15_4
                                  · rw [if_pos c59] at H
                                    have c59b0 : decide (0 ≤ x15_4) = true := decide_eq_true c59
                                    clear c59
                                    by_cases c60 : x15_4 < (t415.length : Int)
                                    · rw [if_pos c60] at H
                                      have c60b0 : decide (x15_4 < (t415.length : Int)) = true := decide_eq_true c60
                                      clear c60
                                      obtain ⟨ji61, hji61⟩ : ∃ j_ : Int, (wrap64 ((wrap64 ((t415.length : Int) - 1)) - x15_4)) = j_ := ⟨_, rfl⟩
                                      replace H : (if 0 ≤ (ji61) then (if (ji61) < (t415.length : Int) then (if (rd t415 x15_4) = (rd t415 (ji61)) then ((laws_count.f k4 t407 (rd t415 x15_4)).bind fun t444 => (if t444 = 0 then (none) else (laws_FnQuads.l1 k4 t407 t411 t415 (wrap64 (Int.tdiv (wrap64 ((t415.length : Int) - (t404.length : Int))) 2)) (wrap64 (x15_4 + 1)) t401 t402 t403))) else (none)) else (none)) else (none)) = some r := by first | (rw [hji61] at H; exact H) | (simp only [hji61] at H ⊢; exact H)
                                      have hji61w : (IntKind.i64.wrap ((wrap64 ((t415.length : Int) - 1)) - x15_4)) = ji61 := (i64_w _).trans hji61
                                      by_cases c62 : 0 ≤ (ji61)
                                      · rw [if_pos c62] at H
                                        have c62b0 : decide (0 ≤ (ji61)) = true := decide_eq_true c62
                                        clear c62
                                        by_cases c63 : (ji61) < (t415.length : Int)
                                        · rw [if_pos c63] at H
                                          have c63b0 : decide ((ji61) < (t415.length : Int)) = true := decide_eq_true c63
                                          clear c63
                                          by_cases c64 : (rd t415 x15_4) = (rd t415 (ji61))
                                          · rw [if_pos c64] at H
                                            have c64b0 : ((rd t415 x15_4) == (rd t415 (ji61))) = true := beq_iff_eq.mpr c64
                                            have c64b1 : ((rd t415 x15_4) != (rd t415 (ji61))) = false := bne_eq_false_iff_eq.mpr c64
                                            clear c64
                                            replace H := Option.bind_eq_some_iff.mp H
                                            obtain ⟨t444, A650, H⟩ := H
                                            replace H : (if t444 = 0 then (none) else (laws_FnQuads.l1 k4 t407 t411 t415 (wrap64 (Int.tdiv (wrap64 ((t415.length : Int) - (t404.length : Int))) 2)) (wrap64 (x15_4 + 1)) t401 t402 t403)) = some r := H
                                            have A65 := Aside0.mk A650
                                            clear A650
                                            by_cases c66 : t444 = 0
                                            · rw [if_pos c66] at H
                                              exact absurd H (by simp)
                                            · rw [if_neg c66] at H
                                              have c66b0 : (t444 == 0) = false := beq_eq_false_iff_ne.mpr c66
                                              have c66b1 : (t444 != 0) = true := bne_iff_ne.mpr c66
                                              have H' := Aside0.mk H
                                              clear H
                                              have p441 : 0 ≤ (x15_4 : Int) := of_decide_eq_true (by first | (with_reducible assumption) | assumption)
                                              have q441 : x15_4 < (t415.length : Int) := of_decide_eq_true (by first | (with_reducible assumption) | assumption)
                                              obtain ⟨ad441, e441, hx441_0⟩ := Kd.at_int (Kd.R_reads' HO_8.out).2.2 x15_4 p441 q441
                                              cases e441
                                              replace p441 := eq_true p441
                                              replace q441 := eq_true q441
                                              have p442 : 0 ≤ ((ji61) : Int) := of_decide_eq_true (by first | (with_reducible assumption) | assumption)
                                              have q442 : (ji61) < (t415.length : Int) := of_decide_eq_true (by first | (with_reducible assumption) | assumption)
                                              obtain ⟨ad442, e442, hx442_0⟩ := Kd.at_int (Kd.R_reads' HO_8.out).2.2 (ji61) p442 q442
                                              obtain rfl : ad441 = ad442 := (by injection e442)
                                              replace p442 := eq_true p442
                                              replace q442 := eq_true q442
                                              have p443 : 0 ≤ (x15_4 : Int) := of_decide_eq_true (by first | (with_reducible assumption) | assumption)
                                              have q443 : x15_4 < (t415.length : Int) := of_decide_eq_true (by first | (with_reducible assumption) | assumption)
                                              obtain ⟨ad443, e443, hx443_0⟩ := Kd.at_int (Kd.R_reads' HO_8.out).2.2 x15_4 p443 q443
                                              obtain rfl : ad441 = ad443 := (by injection e443)
                                              replace p443 := eq_true p443
                                              replace q443 := eq_true q443
                                              go_wp2_with (first | (go_at_call 45; (try simp only [i64_w, i32_w]); (with_reducible refine (laws_count.calls k4 _ _ t407 (rd t415 x15_4) t444 _ ?side1 ?side2 A65.out).mono ?_); (case side1 => repeat (first | exact (Kd.Q_reads' HO_5.out).2.2 | (with_reducible refine Kd.C_alloc ?_ _) | (with_reducible refine Kd.C_drewN ?_ _) | (with_reducible refine Kd.C_drew ?_))); (case side2 => exact (Kd.Q_reads' HO_5.out).2.1); rintro e w' ⟨rfl, ⟨nd, rfl⟩⟩; (try first | exact ⟨rfl, _, World.drewN_drewN _ _ _⟩ | exact ⟨rfl, _, Eq.trans (World.drewN_drewN _ _ _) (congrArg (World.drewN _) (Nat.add_assoc _ _ _))⟩)))
                                              repeat (go_quiet (first | (go_at_call 45; (try simp only [i64_w, i32_w]); (with_reducible refine (laws_count.calls k4 _ _ t407 (rd t415 x15_4) t444 _ ?side1 ?side2 A65.out).mono ?_); (case side1 => repeat (first | exact (Kd.Q_reads' HO_5.out).2.2 | (with_reducible refine Kd.C_alloc ?_ _) | (with_reducible refine Kd.C_drewN ?_ _) | (with_reducible refine Kd.C_drew ?_))); (case side2 => exact (Kd.Q_reads' HO_5.out).2.1); rintro e w' ⟨rfl, ⟨nd, rfl⟩⟩; (try first | exact ⟨rfl, _, World.drewN_drewN _ _ _⟩ | exact ⟨rfl, _, Eq.trans (World.drewN_drewN _ _ _) (congrArg (World.drewN _) (Nat.add_assoc _ _ _))⟩))); try go_wp2_with (first | (go_at_call 45; (try simp only [i64_w, i32_w]); (with_reducible refine (laws_count.calls k4 _ _ t407 (rd t415 x15_4) t444 _ ?side1 ?side2 A65.out).mono ?_); (case side1 => repeat (first | exact (Kd.Q_reads' HO_5.out).2.2 | (with_reducible refine Kd.C_alloc ?_ _) | (with_reducible refine Kd.C_drewN ?_ _) | (with_reducible refine Kd.C_drew ?_))); (case side2 => exact (Kd.Q_reads' HO_5.out).2.1); rintro e w' ⟨rfl, ⟨nd, rfl⟩⟩; (try first | exact ⟨rfl, _, World.drewN_drewN _ _ _⟩ | exact ⟨rfl, _, Eq.trans (World.drewN_drewN _ _ _) (congrArg (World.drewN _) (Nat.add_assoc _ _ _))⟩))))
                                              go_roundg k4
                                              case measure => have := HJ7.out; have := HJ25.out; have := HK3.out; have := HK4.out; omega
                                              case rel => exact ⟨(wrap64 (x15_4 + 1)), (by first | rfl | (simp; done) | (simp [*]; done)), H', ⟨by have := HJ7.out; have := HJ25.out; have := HK3.out; have := HK4.out; omega⟩, ⟨by (with_reducible repeat (first | apply Kd.Q_alloc | apply Kd.Q_drewN | apply Kd.Q_drew)); exact HO_5.out⟩, ⟨by (with_reducible repeat (first | apply Kd.R_alloc | apply Kd.R_drewN | apply Kd.R_drew)); exact HO_6.out⟩, ⟨by (with_reducible repeat (first | apply Kd.R_alloc | apply Kd.R_drewN | apply Kd.R_drew)); exact HO_8.out⟩, ⟨by (with_reducible repeat (first | refine blk_drewN ?_ _ | refine blk_drew ?_ | refine blk_alloc ?_ _)); exact BK410.out⟩, ⟨by repeat (first | (with_reducible exact HR438.out) | (with_reducible refine Kd.C_alloc ?_ _) | (with_reducible refine Kd.C_drewN ?_ _) | (with_reducible refine Kd.C_drew ?_) | exact HR438.out)⟩, ⟨by repeat (first | (with_reducible first | exact HB.out | apply below_alloc | apply pw_below_drewN | apply below_drew1 | refine below_set ?_ GE410.out) | exact HB.out)⟩⟩
                                          · rw [if_neg c64] at H
                                            exact absurd H (by simp)
                                        · rw [if_neg c63] at H
                                          exact absurd H (by simp)
                                      · rw [if_neg c62] at H
                                        exact absurd H (by simp)
                                    · rw [if_neg c60] at H
                                      exact absurd H (by simp)
                                  · rw [if_neg c59] at H
                                    exact absurd H (by simp)
                                · rw [if_neg c58] at H
                                  have c58b0 : decide (x15_4 < (wrap64 (Int.tdiv (wrap64 ((t415.length : Int) - (t404.length : Int))) 2))) = false := decide_eq_false c58
                                  clear c58
                                  have H' := Aside0.mk H
                                  clear H
                                  go_wp2
                                  repeat (go_quiet (fail); try go_wp2)
                                  go_loopg [174] k4 (fun kq v174 w' => ∃ (x174_5 : Int), v174 = .int .i64 x174_5 ∧ Aside0 (laws_FnQuads.l2 kq t411 t415 t407 (t407.length : Int) x174_5 t401 t402 t403 = some r) ∧ Aside0 (kq ≤ k4) ∧ Aside0 (Kd.R (Kd.int .i64) 3 w' w.heap.size (fun k_ => some k_ ≠ ((.slice Ao27 t415.length co27) : Value).ownBlock ∧ some k_ ≠ ((.slice Ao13 t407.length co13) : Value).ownBlock) (.slice Ao52 t411.length co52) t411) ∧ Aside0 (Kd.R (Kd.int .i64) 3 w' w.heap.size (fun k_ => some k_ ≠ ((.slice Ao52 t411.length co52) : Value).ownBlock ∧ some k_ ≠ ((.slice Ao13 t407.length co13) : Value).ownBlock) (.slice Ao27 t415.length co27) t415) ∧ Aside0 (Kd.Q (Kd.int .i64) 3 w' w.heap.size (fun k_ => some k_ ≠ ((.slice Ao52 t411.length co52) : Value).ownBlock ∧ some k_ ≠ ((.slice Ao27 t415.length co27) : Value).ownBlock) (.slice Ao13 t407.length co13) t407) ∧ Aside0 (w'.heap[gb410]? = some (.cells #[.int .i64 t401, .int .i64 t402, .int .i64 t403] 25 (0, 0))) ∧ Aside0 (Kd.C (Kd.int .i64) w' A51 y435.length y435) ∧ Aside0 (Below w.heap.size w w'))
                                  case atStart => exact ⟨(0), (by first | rfl | (simp; done) | (simp [*]; done)), H', ⟨Nat.le_refl _⟩, ⟨by (with_reducible repeat (first | apply Kd.R_alloc | apply Kd.R_drewN | apply Kd.R_drew)); exact Kd.R_mono HO_6.out (fun _ hk => ⟨hk.2, hk.1⟩)⟩, ⟨by (with_reducible repeat (first | apply Kd.R_alloc | apply Kd.R_drewN | apply Kd.R_drew)); exact Kd.R_mono HO_8.out (fun _ hk => ⟨hk.2, hk.1⟩)⟩, ⟨by (with_reducible repeat (first | apply Kd.Q_alloc | apply Kd.Q_drewN | apply Kd.Q_drew)); exact HO_5.out⟩, ⟨by (with_reducible repeat (first | refine blk_drewN ?_ _ | refine blk_drew ?_ | refine blk_alloc ?_ _)); exact BK410.out⟩, ⟨by repeat (first | (with_reducible exact HR438.out) | (with_reducible refine Kd.C_alloc ?_ _) | (with_reducible refine Kd.C_drewN ?_ _) | (with_reducible refine Kd.C_drew ?_) | exact HR438.out)⟩, ⟨by repeat (first | (with_reducible first | exact HB.out | apply below_alloc | apply pw_below_drewN | apply below_drew1 | refine below_set ?_ GE410.out) | exact HB.out)⟩⟩
                                  case round =>
                                    clear H'
                                    try clear c1
                                    try clear c2
                                    try clear c2b0
                                    try clear c2b1
                                    try clear p2
                                    try clear c3
                                    try clear c4
                                    try clear p4
                                    try clear q4
                                    try clear hx4
                                    try clear c5
                                    try clear q5
                                    try clear c6
                                    try clear p6
                                    try clear c7
                                    try clear c19
                                    try clear c20
                                    try clear c21
                                    try clear c21b0
                                    try clear c21b1
                                    try clear c22
                                    try clear c22b0
                                    try clear c22b1
                                    try clear c25
                                    try clear c28
                                    try clear c28b0
                                    try clear c28b1
                                    try clear c29
                                    try clear c29b0
                                    try clear c29b1
                                    try clear c31
                                    try clear c33
                                    try clear c33b0
                                    try clear c33b1
                                    try clear c34
                                    try clear c34b0
                                    try clear c34b1
                                    try clear c35
                                    try clear c35b0
                                    try clear c35b1
                                    try clear c37
                                    try clear c39
                                    try clear c39b0
                                    try clear c39b1
                                    try clear q41
                                    try clear c43
                                    try clear p43
                                    try clear q43
                                    try clear hx43
                                    try clear p44
                                    try clear q44
                                    try clear hx44
                                    try clear c48
                                    try clear c49
                                    try clear c49b0
                                    try clear c49b1
                                    try clear c50
                                    try clear c50b0
                                    try clear c50b1
                                    try clear c51
                                    try clear q51
                                    try clear c53
                                    try clear c53b0
                                    try clear c54
                                    try clear c54b0
                                    try clear c55
                                    try clear c55b0
                                    try clear c57
                                    try clear c57b0
                                    try clear c57b1
                                    try clear c58
                                    try clear c58b0
                                    try clear c59
                                    try clear c59b0
                                    try clear c60
                                    try clear c60b0
                                    try clear c62
                                    try clear c62b0
                                    try clear c63
                                    try clear c63b0
                                    try clear c64
                                    try clear c64b0
                                    try clear c64b1
                                    try clear p64
                                    try clear c66
                                    try clear c66b0
                                    try clear c66b1
                                    try clear hcz11_0
                                    try clear hcz11_1
                                    try clear hcz11_2
                                    try clear hcz15_0
                                    try clear hcz15_1
                                    try clear hcz15_2
                                    try clear hcz17_0
                                    try clear hcz17_1
                                    try clear hcz17_2
                                    try clear hcz44_0
                                    try clear hcz44_1
                                    try clear hcz44_2
                                    try clear hcz46_0
                                    try clear hcz46_1
                                    try clear hcz46_2
                                    try clear hfz11_0
                                    try clear hfz11_1
                                    try clear hfz11_2
                                    try clear hfz15_0
                                    try clear hfz15_1
                                    try clear hfz15_2
                                    try clear hfz17_0
                                    try clear hfz17_1
                                    try clear hfz17_2
                                    try clear hfz44_0
                                    try clear hfz44_1
                                    try clear hfz44_2
                                    try clear hfz46_0
                                    try clear hfz46_1
                                    try clear hfz46_2
                                    try clear hx439_0
                                    try clear hx441_0
                                    try clear hx442_0
                                    try clear hx443_0
                                    try clear p2
                                    try clear p4
                                    try clear p43
                                    try clear p439
                                    try clear p441
                                    try clear p442
                                    try clear p443
                                    try clear p6
                                    try clear q043
                                    try clear q051
                                    try clear q4
                                    try clear q41
                                    try clear q43
                                    try clear q439
                                    try clear q441
                                    try clear q442
                                    try clear q443
                                    try clear q5
                                    try clear q51
                                    obtain ⟨x174_5, rfl, HA, HK5, HO_6, HO_8, HO_172, BK410, HR438, HB⟩ := hrel
                                    cases gk with
                                    | zero => exact absurd HA.out (by simp [laws_FnQuads.l2])
                                    | succ k5 =>
                                      have H := HA.out
                                      clear HA
                                      simp only [laws_FnQuads.l2] at H
                                      by_cases c67 : x174_5 < (t407.length : Int)
                                      · rw [if_pos c67] at H
                                        have c67b0 : decide (x174_5 < (t407.length : Int)) = true := decide_eq_true c67
                                        clear c67
                                        by_cases c68 : 0 ≤ x174_5
                                        · rw [if_pos c68] at H
                                          have c68b0 : decide (0 ≤ x174_5) = true := decide_eq_true c68
                                          clear c68
                                          by_cases c69 : x174_5 < (t407.length : Int)
                                          · rw [if_pos c69] at H
                                            have c69b0 : decide (x174_5 < (t407.length : Int)) = true := decide_eq_true c69
                                            clear c69
                                            obtain ⟨y446, hy446⟩ : ∃ y_ : List Int, y_ = (([rd t407 x174_5] : List Int)) := ⟨_, rfl⟩
                                            replace H : ((impl_CountFitting.f k5 t401 t402 t403 t411 y446).bind fun t449 => (if t449 = 0 then ((impl_CountFitting.f k5 t401 t402 t403 t415 (([rd t407 x174_5, rd t407 x174_5] : List Int))).bind fun t453 => (if t453 = 2 then (none) else (laws_FnQuads.l2 k5 t411 t415 t407 (t407.length : Int) (wrap64 (x174_5 + 1)) t401 t402 t403))) else (none))) = some r := by first | (rw [hy446]; with_reducible exact H) | (have H2_ := (Option.bind_some _ _).symm.trans H; rw [hy446]; with_reducible exact H2_) | (have H2_ := (Option.bind_some _ _).symm.trans H; with_reducible exact H2_) | with_reducible exact H | (rw [hy446]; exact H) | exact H
                                            have Ny446 := Aside0.mk hy446
                                            clear hy446
                                            replace H := Option.bind_eq_some_iff.mp H
                                            obtain ⟨t449, A700, H⟩ := H
                                            replace H : (if t449 = 0 then ((impl_CountFitting.f k5 t401 t402 t403 t415 (([rd t407 x174_5, rd t407 x174_5] : List Int))).bind fun t453 => (if t453 = 2 then (none) else (laws_FnQuads.l2 k5 t411 t415 t407 (t407.length : Int) (wrap64 (x174_5 + 1)) t401 t402 t403))) else (none)) = some r := H
                                            have A70 := Aside0.mk A700
                                            clear A700
                                            by_cases c71 : t449 = 0
                                            · rw [if_pos c71] at H
                                              have c71b0 : (t449 == 0) = true := beq_iff_eq.mpr c71
                                              have c71b1 : (t449 != 0) = false := bne_eq_false_iff_eq.mpr c71
                                              clear c71
                                              obtain ⟨y450, hy450⟩ : ∃ y_ : List Int, y_ = (([rd t407 x174_5, rd t407 x174_5] : List Int)) := ⟨_, rfl⟩
                                              replace H : ((impl_CountFitting.f k5 t401 t402 t403 t415 y450).bind fun t453 => (if t453 = 2 then (none) else (laws_FnQuads.l2 k5 t411 t415 t407 (t407.length : Int) (wrap64 (x174_5 + 1)) t401 t402 t403))) = some r := by first | (rw [hy450]; with_reducible exact H) | (have H2_ := (Option.bind_some _ _).symm.trans H; rw [hy450]; with_reducible exact H2_) | (have H2_ := (Option.bind_some _ _).symm.trans H; with_reducible exact H2_) | with_reducible exact H | (rw [hy450]; exact H) | exact H
                                              have Ny450 := Aside0.mk hy450
                                              clear hy450
                                              replace H := Option.bind_eq_some_iff.mp H
                                              obtain ⟨t453, A720, H⟩ := H
                                              replace H : (if t453 = 2 then (none) else (laws_FnQuads.l2 k5 t411 t415 t407 (t407.length : Int) (wrap64 (x174_5 + 1)) t401 t402 t403)) = some r := H
                                              have A72 := Aside0.mk A720
                                              clear A720
                                              by_cases c73 : t453 = 2
                                              · rw [if_pos c73] at H
                                                exact absurd H (by simp)
                                              · rw [if_neg c73] at H
                                                have c73b0 : (t453 == 2) = false := beq_eq_false_iff_ne.mpr c73
                                                have c73b1 : (t453 != 2) = true := bne_iff_ne.mpr c73
                                                have H' := Aside0.mk H
                                                clear H
                                                have p445 : 0 ≤ (x174_5 : Int) := of_decide_eq_true (by first | (with_reducible assumption) | assumption)
                                                have q445 : x174_5 < (t407.length : Int) := of_decide_eq_true (by first | (with_reducible assumption) | assumption)
                                                obtain ⟨ad445, e445, hx445_0⟩ := Kd.at_int (Kd.Q_reads' HO_172.out).2.2 x174_5 p445 q445
                                                cases e445
                                                replace p445 := eq_true p445
                                                replace q445 := eq_true q445
                                                have hcz74_0 : wr.cell? ⟨gb410, 0, none⟩ = some (.int .i64 t401) := (blk_cell BK410.out 0).trans rfl
                                                have hcz74_1 : wr.cell? ⟨gb410, 1, none⟩ = some (.int .i64 t402) := (blk_cell BK410.out 1).trans rfl
                                                have hcz74_2 : wr.cell? ⟨gb410, 2, none⟩ = some (.int .i64 t403) := (blk_cell BK410.out 2).trans rfl
                                                have hfz74_0 := blk_frozen BK410.out 0
                                                have hfz74_1 := blk_frozen BK410.out 1
                                                have hfz74_2 := blk_frozen BK410.out 2
                                                go_wp2_with (first | ((with_reducible refine gate_dst (N := 181) rfl ?_); (try (refine gate_guard (by rfl) ?_; dsimp only)); refine Kd.R_lit (Kd.int .i64) _ 3 ?hg (N := 181) ?hd (xs := ([rd t407 x174_5] : List Int)) (inner := [.int .i64 (rd t407 x174_5)]) (ok := fun _ => True) (okp := fun _ => True) ?hr ?hp (fun _ hk => hk) trivial (Below.refl _ _) (Nat.le_refl _) (by simp) ?_; (case hd => rfl); (case hg => rfl); (case hr => first | (go_simp; done) | (go_simp; rfl)); (case hp => exact (Reps.one (show Kd.M (Kd.int .i64) _ _ _ (rd t407 x174_5) [.int .i64 (rd t407 x174_5)] from rfl) (Reps.none _ _))); intro v447 w75 ho76 hb hg_ hnew_; clear hg_ hnew_; (first | rw [← Ny446.out] at ho76 | (simp only [Int.reduceToNat] at ho76; rw [← Ny446.out] at ho76)); have n0_ := Aside0.mk (Kd.R_elder' (by (with_reducible repeat (first | apply Kd.R_alloc | apply Kd.R_drewN | apply Kd.R_drew)); exact HO_6.out) (Kd.R_base ho76) hb); have n1_ := Aside0.mk (Kd.R_elder' (by (with_reducible repeat (first | apply Kd.R_alloc | apply Kd.R_drewN | apply Kd.R_drew)); exact HO_8.out) (Kd.R_base ho76) hb); have n2_ := Aside0.mk (Kd.Q_elder' (by (with_reducible repeat (first | apply Kd.Q_alloc | apply Kd.Q_drewN | apply Kd.Q_drew)); exact HO_172.out) (Kd.R_base ho76) hb); have n3_ := Aside0.mk (Kd.R_lower (Kd.R_new' (Kd.R_new' (Kd.R_new' ho76 (Kd.R_lt (by (with_reducible repeat (first | apply Kd.R_alloc | apply Kd.R_drewN | apply Kd.R_drew)); exact HO_6.out))) (Kd.R_lt (by (with_reducible repeat (first | apply Kd.R_alloc | apply Kd.R_drewN | apply Kd.R_drew)); exact HO_8.out))) (Kd.Q_lt (by (with_reducible repeat (first | apply Kd.Q_alloc | apply Kd.Q_drewN | apply Kd.Q_drew)); exact HO_172.out))) (below_size (by repeat (first | (with_reducible first | exact HB.out | apply below_alloc | apply pw_below_drewN | apply below_drew1 | refine below_set ?_ GE410.out) | exact HB.out)))); have n4_ := Aside0.mk (blk_below (g := gb410) (o := .cells #[.int .i64 t401, .int .i64 t402, .int .i64 t403] 25 (0, 0)) (by (with_reducible repeat (first | refine blk_drewN ?_ _ | refine blk_drew ?_ | refine blk_alloc ?_ _)); exact BK410.out) hb); have n5_ := Aside0.mk (Kd.C_below (by repeat (first | (with_reducible exact HR438.out) | (with_reducible refine Kd.C_alloc ?_ _) | (with_reducible refine Kd.C_drewN ?_ _) | (with_reducible refine Kd.C_drew ?_) | exact HR438.out)) hb); have n6_ := Aside0.mk (below_step (by first | (with_reducible exact pw_below_drewN HB.out _) | repeat (first | (with_reducible first | exact HB.out | apply below_alloc | apply pw_below_drewN | apply below_drew1 | refine below_set ?_ GE410.out) | exact HB.out)) hb); clear HO_6; clear HO_8; clear HO_172; clear BK410; clear HR438; clear HB; have HO_6 := n0_; have HO_8 := n1_; have HO_172 := n2_; have HO448 := n3_; have BK410 := n4_; have HR438 := n5_; have HB := n6_; clear n0_ n1_ n2_ n3_ n4_ n5_ n6_; clear hb ho76; obtain ⟨Ao77, co77, eo77⟩ := Kd.R_slice HO448.out; subst eo77) | (go_at_call 41; (try simp only [i64_w, i32_w]); (with_reducible refine (impl_CountFitting.calls k5 t401 t402 t403 (fun k_ => some k_ = (.slice Ao52 t411.length co52 : Value).ownBlock) _ _ t411 (fun k_ => some k_ = (.slice Ao77 y446.length co77 : Value).ownBlock) _ _ y446 t449 _ ?side1 ?side2 A70.out).mono ?_); (case side1 => exact Kd.R_V (Kd.R_tight rfl (Kd.R_types (HO_6.out) BK410.out (by decide)))); (case side2 => exact Kd.R_V (Kd.R_tight rfl (Kd.R_types (HO448.out) BK410.out (by decide)))); rintro e w78 ⟨rfl, hb⟩; have n0_ := Aside0.mk (Kd.R_below (by (with_reducible repeat (first | apply Kd.R_alloc | apply Kd.R_drewN | apply Kd.R_drew)); exact HO_6.out) hb); have n1_ := Aside0.mk (Kd.R_below (by (with_reducible repeat (first | apply Kd.R_alloc | apply Kd.R_drewN | apply Kd.R_drew)); exact HO_8.out) hb); have n2_ := Aside0.mk (Kd.Q_below (by (with_reducible repeat (first | apply Kd.Q_alloc | apply Kd.Q_drewN | apply Kd.Q_drew)); exact HO_172.out) hb); have n3_ := Aside0.mk (Kd.R_below (by (with_reducible repeat (first | apply Kd.R_alloc | apply Kd.R_drewN | apply Kd.R_drew)); exact HO448.out) hb); have n4_ := Aside0.mk (blk_below (g := gb410) (o := .cells #[.int .i64 t401, .int .i64 t402, .int .i64 t403] 25 (0, 0)) (by (with_reducible repeat (first | refine blk_drewN ?_ _ | refine blk_drew ?_ | refine blk_alloc ?_ _)); exact BK410.out) hb); have n5_ := Aside0.mk (Kd.C_below (by repeat (first | (with_reducible exact HR438.out) | (with_reducible refine Kd.C_alloc ?_ _) | (with_reducible refine Kd.C_drewN ?_ _) | (with_reducible refine Kd.C_drew ?_) | exact HR438.out)) hb); have n6_ := Aside0.mk (below_step (by first | (with_reducible exact pw_below_drewN HB.out _) | repeat (first | (with_reducible first | exact HB.out | apply below_alloc | apply pw_below_drewN | apply below_drew1 | refine below_set ?_ GE410.out) | exact HB.out)) hb); clear HO_6; clear HO_8; clear HO_172; clear HO448; clear BK410; clear HR438; clear HB; have HO_6 := n0_; have HO_8 := n1_; have HO_172 := n2_; have HO448 := n3_; have BK410 := n4_; have HR438 := n5_; have HB := n6_; clear n0_ n1_ n2_ n3_ n4_ n5_ n6_; (try clear hb); (try clear hb2); (try clear hk); (try clear hi); have hcz79_0 : w78.cell? ⟨gb410, 0, none⟩ = some (.int .i64 t401) := (blk_cell BK410.out 0).trans rfl; have hcz79_1 : w78.cell? ⟨gb410, 1, none⟩ = some (.int .i64 t402) := (blk_cell BK410.out 1).trans rfl; have hcz79_2 : w78.cell? ⟨gb410, 2, none⟩ = some (.int .i64 t403) := (blk_cell BK410.out 2).trans rfl; have hfz79_0 := blk_frozen BK410.out 0; have hfz79_1 := blk_frozen BK410.out 1; have hfz79_2 := blk_frozen BK410.out 2) | ((with_reducible refine gate_dst (N := 189) rfl ?_); (try (refine gate_guard (by rfl) ?_; dsimp only)); refine Kd.R_lit (Kd.int .i64) _ 3 ?hg (N := 189) ?hd (xs := ([rd t407 x174_5, rd t407 x174_5] : List Int)) (inner := [.int .i64 (rd t407 x174_5), .int .i64 (rd t407 x174_5)]) (ok := fun _ => True) (okp := fun _ => True) ?hr ?hp (fun _ hk => hk) trivial (Below.refl _ _) (Nat.le_refl _) (by simp) ?_; (case hd => rfl); (case hg => rfl); (case hr => first | (go_simp; done) | (go_simp; rfl)); (case hp => exact (Reps.one (show Kd.M (Kd.int .i64) _ _ _ (rd t407 x174_5) [.int .i64 (rd t407 x174_5)] from rfl) (Reps.one (show Kd.M (Kd.int .i64) _ _ _ (rd t407 x174_5) [.int .i64 (rd t407 x174_5)] from rfl) (Reps.none _ _)))); intro v451 w80 ho81 hb hg_ hnew_; clear hg_ hnew_; (first | rw [← Ny450.out] at ho81 | (simp only [Int.reduceToNat] at ho81; rw [← Ny450.out] at ho81)); have n0_ := Aside0.mk (Kd.R_elder' (by (with_reducible repeat (first | apply Kd.R_alloc | apply Kd.R_drewN | apply Kd.R_drew)); exact HO_6.out) (Kd.R_base ho81) hb); have n1_ := Aside0.mk (Kd.R_elder' (by (with_reducible repeat (first | apply Kd.R_alloc | apply Kd.R_drewN | apply Kd.R_drew)); exact HO_8.out) (Kd.R_base ho81) hb); have n2_ := Aside0.mk (Kd.Q_elder' (by (with_reducible repeat (first | apply Kd.Q_alloc | apply Kd.Q_drewN | apply Kd.Q_drew)); exact HO_172.out) (Kd.R_base ho81) hb); have n3_ := Aside0.mk (Kd.R_elder' (by (with_reducible repeat (first | apply Kd.R_alloc | apply Kd.R_drewN | apply Kd.R_drew)); exact HO448.out) (Kd.R_base ho81) hb); have n4_ := Aside0.mk (Kd.R_lower (Kd.R_new' (Kd.R_new' (Kd.R_new' (Kd.R_new' ho81 (Kd.R_lt (by (with_reducible repeat (first | apply Kd.R_alloc | apply Kd.R_drewN | apply Kd.R_drew)); exact HO_6.out))) (Kd.R_lt (by (with_reducible repeat (first | apply Kd.R_alloc | apply Kd.R_drewN | apply Kd.R_drew)); exact HO_8.out))) (Kd.Q_lt (by (with_reducible repeat (first | apply Kd.Q_alloc | apply Kd.Q_drewN | apply Kd.Q_drew)); exact HO_172.out))) (Kd.R_lt (by (with_reducible repeat (first | apply Kd.R_alloc | apply Kd.R_drewN | apply Kd.R_drew)); exact HO448.out))) (below_size (by repeat (first | (with_reducible first | exact HB.out | apply below_alloc | apply pw_below_drewN | apply below_drew1 | refine below_set ?_ GE410.out) | exact HB.out)))); have n5_ := Aside0.mk (blk_below (g := gb410) (o := .cells #[.int .i64 t401, .int .i64 t402, .int .i64 t403] 25 (0, 0)) (by (with_reducible repeat (first | refine blk_drewN ?_ _ | refine blk_drew ?_ | refine blk_alloc ?_ _)); exact BK410.out) hb); have n6_ := Aside0.mk (Kd.C_below (by repeat (first | (with_reducible exact HR438.out) | (with_reducible refine Kd.C_alloc ?_ _) | (with_reducible refine Kd.C_drewN ?_ _) | (with_reducible refine Kd.C_drew ?_) | exact HR438.out)) hb); have n7_ := Aside0.mk (below_step (by first | (with_reducible exact pw_below_drewN HB.out _) | repeat (first | (with_reducible first | exact HB.out | apply below_alloc | apply pw_below_drewN | apply below_drew1 | refine below_set ?_ GE410.out) | exact HB.out)) hb); clear HO_6; clear HO_8; clear HO_172; clear HO448; clear BK410; clear HR438; clear HB; have HO_6 := n0_; have HO_8 := n1_; have HO_172 := n2_; have HO448 := n3_; have HO452 := n4_; have BK410 := n5_; have HR438 := n6_; have HB := n7_; clear n0_ n1_ n2_ n3_ n4_ n5_ n6_ n7_; clear hb ho81; obtain ⟨Ao82, co82, eo82⟩ := Kd.R_slice HO452.out; subst eo82) | (go_at_call 41; (try simp only [i64_w, i32_w]); (with_reducible refine (impl_CountFitting.calls k5 t401 t402 t403 (fun k_ => some k_ = (.slice Ao27 t415.length co27 : Value).ownBlock) _ _ t415 (fun k_ => some k_ = (.slice Ao82 y450.length co82 : Value).ownBlock) _ _ y450 t453 _ ?side1 ?side2 A72.out).mono ?_); (case side1 => exact Kd.R_V (Kd.R_tight rfl (Kd.R_types (HO_8.out) BK410.out (by decide)))); (case side2 => exact Kd.R_V (Kd.R_tight rfl (Kd.R_types (HO452.out) BK410.out (by decide)))); rintro e w83 ⟨rfl, hb⟩; have n0_ := Aside0.mk (Kd.R_below (by (with_reducible repeat (first | apply Kd.R_alloc | apply Kd.R_drewN | apply Kd.R_drew)); exact HO_6.out) hb); have n1_ := Aside0.mk (Kd.R_below (by (with_reducible repeat (first | apply Kd.R_alloc | apply Kd.R_drewN | apply Kd.R_drew)); exact HO_8.out) hb); have n2_ := Aside0.mk (Kd.Q_below (by (with_reducible repeat (first | apply Kd.Q_alloc | apply Kd.Q_drewN | apply Kd.Q_drew)); exact HO_172.out) hb); have n3_ := Aside0.mk (Kd.R_below (by (with_reducible repeat (first | apply Kd.R_alloc | apply Kd.R_drewN | apply Kd.R_drew)); exact HO448.out) hb); have n4_ := Aside0.mk (Kd.R_below (by (with_reducible repeat (first | apply Kd.R_alloc | apply Kd.R_drewN | apply Kd.R_drew)); exact HO452.out) hb); have n5_ := Aside0.mk (blk_below (g := gb410) (o := .cells #[.int .i64 t401, .int .i64 t402, .int .i64 t403] 25 (0, 0)) (by (with_reducible repeat (first | refine blk_drewN ?_ _ | refine blk_drew ?_ | refine blk_alloc ?_ _)); exact BK410.out) hb); have n6_ := Aside0.mk (Kd.C_below (by repeat (first | (with_reducible exact HR438.out) | (with_reducible refine Kd.C_alloc ?_ _) | (with_reducible refine Kd.C_drewN ?_ _) | (with_reducible refine Kd.C_drew ?_) | exact HR438.out)) hb); have n7_ := Aside0.mk (below_step (by first | (with_reducible exact pw_below_drewN HB.out _) | repeat (first | (with_reducible first | exact HB.out | apply below_alloc | apply pw_below_drewN | apply below_drew1 | refine below_set ?_ GE410.out) | exact HB.out)) hb); clear HO_6; clear HO_8; clear HO_172; clear HO448; clear HO452; clear BK410; clear HR438; clear HB; have HO_6 := n0_; have HO_8 := n1_; have HO_172 := n2_; have HO448 := n3_; have HO452 := n4_; have BK410 := n5_; have HR438 := n6_; have HB := n7_; clear n0_ n1_ n2_ n3_ n4_ n5_ n6_ n7_; (try clear hb); (try clear hb2); (try clear hk); (try clear hi)))
                                                repeat (go_quiet (first | ((with_reducible refine gate_dst (N := 181) rfl ?_); (try (refine gate_guard (by rfl) ?_; dsimp only)); refine Kd.R_lit (Kd.int .i64) _ 3 ?hg (N := 181) ?hd (xs := ([rd t407 x174_5] : List Int)) (inner := [.int .i64 (rd t407 x174_5)]) (ok := fun _ => True) (okp := fun _ => True) ?hr ?hp (fun _ hk => hk) trivial (Below.refl _ _) (Nat.le_refl _) (by simp) ?_; (case hd => rfl); (case hg => rfl); (case hr => first | (go_simp; done) | (go_simp; rfl)); (case hp => exact (Reps.one (show Kd.M (Kd.int .i64) _ _ _ (rd t407 x174_5) [.int .i64 (rd t407 x174_5)] from rfl) (Reps.none _ _))); intro v447 w75 ho76 hb hg_ hnew_; clear hg_ hnew_; (first | rw [← Ny446.out] at ho76 | (simp only [Int.reduceToNat] at ho76; rw [← Ny446.out] at ho76)); have n0_ := Aside0.mk (Kd.R_elder' (by (with_reducible repeat (first | apply Kd.R_alloc | apply Kd.R_drewN | apply Kd.R_drew)); exact HO_6.out) (Kd.R_base ho76) hb); have n1_ := Aside0.mk (Kd.R_elder' (by (with_reducible repeat (first | apply Kd.R_alloc | apply Kd.R_drewN | apply Kd.R_drew)); exact HO_8.out) (Kd.R_base ho76) hb); have n2_ := Aside0.mk (Kd.Q_elder' (by (with_reducible repeat (first | apply Kd.Q_alloc | apply Kd.Q_drewN | apply Kd.Q_drew)); exact HO_172.out) (Kd.R_base ho76) hb); have n3_ := Aside0.mk (Kd.R_lower (Kd.R_new' (Kd.R_new' (Kd.R_new' ho76 (Kd.R_lt (by (with_reducible repeat (first | apply Kd.R_alloc | apply Kd.R_drewN | apply Kd.R_drew)); exact HO_6.out))) (Kd.R_lt (by (with_reducible repeat (first | apply Kd.R_alloc | apply Kd.R_drewN | apply Kd.R_drew)); exact HO_8.out))) (Kd.Q_lt (by (with_reducible repeat (first | apply Kd.Q_alloc | apply Kd.Q_drewN | apply Kd.Q_drew)); exact HO_172.out))) (below_size (by repeat (first | (with_reducible first | exact HB.out | apply below_alloc | apply pw_below_drewN | apply below_drew1 | refine below_set ?_ GE410.out) | exact HB.out)))); have n4_ := Aside0.mk (blk_below (g := gb410) (o := .cells #[.int .i64 t401, .int .i64 t402, .int .i64 t403] 25 (0, 0)) (by (with_reducible repeat (first | refine blk_drewN ?_ _ | refine blk_drew ?_ | refine blk_alloc ?_ _)); exact BK410.out) hb); have n5_ := Aside0.mk (Kd.C_below (by repeat (first | (with_reducible exact HR438.out) | (with_reducible refine Kd.C_alloc ?_ _) | (with_reducible refine Kd.C_drewN ?_ _) | (with_reducible refine Kd.C_drew ?_) | exact HR438.out)) hb); have n6_ := Aside0.mk (below_step (by first | (with_reducible exact pw_below_drewN HB.out _) | repeat (first | (with_reducible first | exact HB.out | apply below_alloc | apply pw_below_drewN | apply below_drew1 | refine below_set ?_ GE410.out) | exact HB.out)) hb); clear HO_6; clear HO_8; clear HO_172; clear BK410; clear HR438; clear HB; have HO_6 := n0_; have HO_8 := n1_; have HO_172 := n2_; have HO448 := n3_; have BK410 := n4_; have HR438 := n5_; have HB := n6_; clear n0_ n1_ n2_ n3_ n4_ n5_ n6_; clear hb ho76; obtain ⟨Ao77, co77, eo77⟩ := Kd.R_slice HO448.out; subst eo77) | (go_at_call 41; (try simp only [i64_w, i32_w]); (with_reducible refine (impl_CountFitting.calls k5 t401 t402 t403 (fun k_ => some k_ = (.slice Ao52 t411.length co52 : Value).ownBlock) _ _ t411 (fun k_ => some k_ = (.slice Ao77 y446.length co77 : Value).ownBlock) _ _ y446 t449 _ ?side1 ?side2 A70.out).mono ?_); (case side1 => exact Kd.R_V (Kd.R_tight rfl (Kd.R_types (HO_6.out) BK410.out (by decide)))); (case side2 => exact Kd.R_V (Kd.R_tight rfl (Kd.R_types (HO448.out) BK410.out (by decide)))); rintro e w78 ⟨rfl, hb⟩; have n0_ := Aside0.mk (Kd.R_below (by (with_reducible repeat (first | apply Kd.R_alloc | apply Kd.R_drewN | apply Kd.R_drew)); exact HO_6.out) hb); have n1_ := Aside0.mk (Kd.R_below (by (with_reducible repeat (first | apply Kd.R_alloc | apply Kd.R_drewN | apply Kd.R_drew)); exact HO_8.out) hb); have n2_ := Aside0.mk (Kd.Q_below (by (with_reducible repeat (first | apply Kd.Q_alloc | apply Kd.Q_drewN | apply Kd.Q_drew)); exact HO_172.out) hb); have n3_ := Aside0.mk (Kd.R_below (by (with_reducible repeat (first | apply Kd.R_alloc | apply Kd.R_drewN | apply Kd.R_drew)); exact HO448.out) hb); have n4_ := Aside0.mk (blk_below (g := gb410) (o := .cells #[.int .i64 t401, .int .i64 t402, .int .i64 t403] 25 (0, 0)) (by (with_reducible repeat (first | refine blk_drewN ?_ _ | refine blk_drew ?_ | refine blk_alloc ?_ _)); exact BK410.out) hb); have n5_ := Aside0.mk (Kd.C_below (by repeat (first | (with_reducible exact HR438.out) | (with_reducible refine Kd.C_alloc ?_ _) | (with_reducible refine Kd.C_drewN ?_ _) | (with_reducible refine Kd.C_drew ?_) | exact HR438.out)) hb); have n6_ := Aside0.mk (below_step (by first | (with_reducible exact pw_below_drewN HB.out _) | repeat (first | (with_reducible first | exact HB.out | apply below_alloc | apply pw_below_drewN | apply below_drew1 | refine below_set ?_ GE410.out) | exact HB.out)) hb); clear HO_6; clear HO_8; clear HO_172; clear HO448; clear BK410; clear HR438; clear HB; have HO_6 := n0_; have HO_8 := n1_; have HO_172 := n2_; have HO448 := n3_; have BK410 := n4_; have HR438 := n5_; have HB := n6_; clear n0_ n1_ n2_ n3_ n4_ n5_ n6_; (try clear hb); (try clear hb2); (try clear hk); (try clear hi); have hcz79_0 : w78.cell? ⟨gb410, 0, none⟩ = some (.int .i64 t401) := (blk_cell BK410.out 0).trans rfl; have hcz79_1 : w78.cell? ⟨gb410, 1, none⟩ = some (.int .i64 t402) := (blk_cell BK410.out 1).trans rfl; have hcz79_2 : w78.cell? ⟨gb410, 2, none⟩ = some (.int .i64 t403) := (blk_cell BK410.out 2).trans rfl; have hfz79_0 := blk_frozen BK410.out 0; have hfz79_1 := blk_frozen BK410.out 1; have hfz79_2 := blk_frozen BK410.out 2) | ((with_reducible refine gate_dst (N := 189) rfl ?_); (try (refine gate_guard (by rfl) ?_; dsimp only)); refine Kd.R_lit (Kd.int .i64) _ 3 ?hg (N := 189) ?hd (xs := ([rd t407 x174_5, rd t407 x174_5] : List Int)) (inner := [.int .i64 (rd t407 x174_5), .int .i64 (rd t407 x174_5)]) (ok := fun _ => True) (okp := fun _ => True) ?hr ?hp (fun _ hk => hk) trivial (Below.refl _ _) (Nat.le_refl _) (by simp) ?_; (case hd => rfl); (case hg => rfl); (case hr => first | (go_simp; done) | (go_simp; rfl)); (case hp => exact (Reps.one (show Kd.M (Kd.int .i64) _ _ _ (rd t407 x174_5) [.int .i64 (rd t407 x174_5)] from rfl) (Reps.one (show Kd.M (Kd.int .i64) _ _ _ (rd t407 x174_5) [.int .i64 (rd t407 x174_5)] from rfl) (Reps.none _ _)))); intro v451 w80 ho81 hb hg_ hnew_; clear hg_ hnew_; (first | rw [← Ny450.out] at ho81 | (simp only [Int.reduceToNat] at ho81; rw [← Ny450.out] at ho81)); have n0_ := Aside0.mk (Kd.R_elder' (by (with_reducible repeat (first | apply Kd.R_alloc | apply Kd.R_drewN | apply Kd.R_drew)); exact HO_6.out) (Kd.R_base ho81) hb); have n1_ := Aside0.mk (Kd.R_elder' (by (with_reducible repeat (first | apply Kd.R_alloc | apply Kd.R_drewN | apply Kd.R_drew)); exact HO_8.out) (Kd.R_base ho81) hb); have n2_ := Aside0.mk (Kd.Q_elder' (by (with_reducible repeat (first | apply Kd.Q_alloc | apply Kd.Q_drewN | apply Kd.Q_drew)); exact HO_172.out) (Kd.R_base ho81) hb); have n3_ := Aside0.mk (Kd.R_elder' (by (with_reducible repeat (first | apply Kd.R_alloc | apply Kd.R_drewN | apply Kd.R_drew)); exact HO448.out) (Kd.R_base ho81) hb); have n4_ := Aside0.mk (Kd.R_lower (Kd.R_new' (Kd.R_new' (Kd.R_new' (Kd.R_new' ho81 (Kd.R_lt (by (with_reducible repeat (first | apply Kd.R_alloc | apply Kd.R_drewN | apply Kd.R_drew)); exact HO_6.out))) (Kd.R_lt (by (with_reducible repeat (first | apply Kd.R_alloc | apply Kd.R_drewN | apply Kd.R_drew)); exact HO_8.out))) (Kd.Q_lt (by (with_reducible repeat (first | apply Kd.Q_alloc | apply Kd.Q_drewN | apply Kd.Q_drew)); exact HO_172.out))) (Kd.R_lt (by (with_reducible repeat (first | apply Kd.R_alloc | apply Kd.R_drewN | apply Kd.R_drew)); exact HO448.out))) (below_size (by repeat (first | (with_reducible first | exact HB.out | apply below_alloc | apply pw_below_drewN | apply below_drew1 | refine below_set ?_ GE410.out) | exact HB.out)))); have n5_ := Aside0.mk (blk_below (g := gb410) (o := .cells #[.int .i64 t401, .int .i64 t402, .int .i64 t403] 25 (0, 0)) (by (with_reducible repeat (first | refine blk_drewN ?_ _ | refine blk_drew ?_ | refine blk_alloc ?_ _)); exact BK410.out) hb); have n6_ := Aside0.mk (Kd.C_below (by repeat (first | (with_reducible exact HR438.out) | (with_reducible refine Kd.C_alloc ?_ _) | (with_reducible refine Kd.C_drewN ?_ _) | (with_reducible refine Kd.C_drew ?_) | exact HR438.out)) hb); have n7_ := Aside0.mk (below_step (by first | (with_reducible exact pw_below_drewN HB.out _) | repeat (first | (with_reducible first | exact HB.out | apply below_alloc | apply pw_below_drewN | apply below_drew1 | refine below_set ?_ GE410.out) | exact HB.out)) hb); clear HO_6; clear HO_8; clear HO_172; clear HO448; clear BK410; clear HR438; clear HB; have HO_6 := n0_; have HO_8 := n1_; have HO_172 := n2_; have HO448 := n3_; have HO452 := n4_; have BK410 := n5_; have HR438 := n6_; have HB := n7_; clear n0_ n1_ n2_ n3_ n4_ n5_ n6_ n7_; clear hb ho81; obtain ⟨Ao82, co82, eo82⟩ := Kd.R_slice HO452.out; subst eo82) | (go_at_call 41; (try simp only [i64_w, i32_w]); (with_reducible refine (impl_CountFitting.calls k5 t401 t402 t403 (fun k_ => some k_ = (.slice Ao27 t415.length co27 : Value).ownBlock) _ _ t415 (fun k_ => some k_ = (.slice Ao82 y450.length co82 : Value).ownBlock) _ _ y450 t453 _ ?side1 ?side2 A72.out).mono ?_); (case side1 => exact Kd.R_V (Kd.R_tight rfl (Kd.R_types (HO_8.out) BK410.out (by decide)))); (case side2 => exact Kd.R_V (Kd.R_tight rfl (Kd.R_types (HO452.out) BK410.out (by decide)))); rintro e w83 ⟨rfl, hb⟩; have n0_ := Aside0.mk (Kd.R_below (by (with_reducible repeat (first | apply Kd.R_alloc | apply Kd.R_drewN | apply Kd.R_drew)); exact HO_6.out) hb); have n1_ := Aside0.mk (Kd.R_below (by (with_reducible repeat (first | apply Kd.R_alloc | apply Kd.R_drewN | apply Kd.R_drew)); exact HO_8.out) hb); have n2_ := Aside0.mk (Kd.Q_below (by (with_reducible repeat (first | apply Kd.Q_alloc | apply Kd.Q_drewN | apply Kd.Q_drew)); exact HO_172.out) hb); have n3_ := Aside0.mk (Kd.R_below (by (with_reducible repeat (first | apply Kd.R_alloc | apply Kd.R_drewN | apply Kd.R_drew)); exact HO448.out) hb); have n4_ := Aside0.mk (Kd.R_below (by (with_reducible repeat (first | apply Kd.R_alloc | apply Kd.R_drewN | apply Kd.R_drew)); exact HO452.out) hb); have n5_ := Aside0.mk (blk_below (g := gb410) (o := .cells #[.int .i64 t401, .int .i64 t402, .int .i64 t403] 25 (0, 0)) (by (with_reducible repeat (first | refine blk_drewN ?_ _ | refine blk_drew ?_ | refine blk_alloc ?_ _)); exact BK410.out) hb); have n6_ := Aside0.mk (Kd.C_below (by repeat (first | (with_reducible exact HR438.out) | (with_reducible refine Kd.C_alloc ?_ _) | (with_reducible refine Kd.C_drewN ?_ _) | (with_reducible refine Kd.C_drew ?_) | exact HR438.out)) hb); have n7_ := Aside0.mk (below_step (by first | (with_reducible exact pw_below_drewN HB.out _) | repeat (first | (with_reducible first | exact HB.out | apply below_alloc | apply pw_below_drewN | apply below_drew1 | refine below_set ?_ GE410.out) | exact HB.out)) hb); clear HO_6; clear HO_8; clear HO_172; clear HO448; clear HO452; clear BK410; clear HR438; clear HB; have HO_6 := n0_; have HO_8 := n1_; have HO_172 := n2_; have HO448 := n3_; have HO452 := n4_; have BK410 := n5_; have HR438 := n6_; have HB := n7_; clear n0_ n1_ n2_ n3_ n4_ n5_ n6_ n7_; (try clear hb); (try clear hb2); (try clear hk); (try clear hi))); try go_wp2_with (first | ((with_reducible refine gate_dst (N := 181) rfl ?_); (try (refine gate_guard (by rfl) ?_; dsimp only)); refine Kd.R_lit (Kd.int .i64) _ 3 ?hg (N := 181) ?hd (xs := ([rd t407 x174_5] : List Int)) (inner := [.int .i64 (rd t407 x174_5)]) (ok := fun _ => True) (okp := fun _ => True) ?hr ?hp (fun _ hk => hk) trivial (Below.refl _ _) (Nat.le_refl _) (by simp) ?_; (case hd => rfl); (case hg => rfl); (case hr => first | (go_simp; done) | (go_simp; rfl)); (case hp => exact (Reps.one (show Kd.M (Kd.int .i64) _ _ _ (rd t407 x174_5) [.int .i64 (rd t407 x174_5)] from rfl) (Reps.none _ _))); intro v447 w75 ho76 hb hg_ hnew_; clear hg_ hnew_; (first | rw [← Ny446.out] at ho76 | (simp only [Int.reduceToNat] at ho76; rw [← Ny446.out] at ho76)); have n0_ := Aside0.mk (Kd.R_elder' (by (with_reducible repeat (first | apply Kd.R_alloc | apply Kd.R_drewN | apply Kd.R_drew)); exact HO_6.out) (Kd.R_base ho76) hb); have n1_ := Aside0.mk (Kd.R_elder' (by (with_reducible repeat (first | apply Kd.R_alloc | apply Kd.R_drewN | apply Kd.R_drew)); exact HO_8.out) (Kd.R_base ho76) hb); have n2_ := Aside0.mk (Kd.Q_elder' (by (with_reducible repeat (first | apply Kd.Q_alloc | apply Kd.Q_drewN | apply Kd.Q_drew)); exact HO_172.out) (Kd.R_base ho76) hb); have n3_ := Aside0.mk (Kd.R_lower (Kd.R_new' (Kd.R_new' (Kd.R_new' ho76 (Kd.R_lt (by (with_reducible repeat (first | apply Kd.R_alloc | apply Kd.R_drewN | apply Kd.R_drew)); exact HO_6.out))) (Kd.R_lt (by (with_reducible repeat (first | apply Kd.R_alloc | apply Kd.R_drewN | apply Kd.R_drew)); exact HO_8.out))) (Kd.Q_lt (by (with_reducible repeat (first | apply Kd.Q_alloc | apply Kd.Q_drewN | apply Kd.Q_drew)); exact HO_172.out))) (below_size (by repeat (first | (with_reducible first | exact HB.out | apply below_alloc | apply pw_below_drewN | apply below_drew1 | refine below_set ?_ GE410.out) | exact HB.out)))); have n4_ := Aside0.mk (blk_below (g := gb410) (o := .cells #[.int .i64 t401, .int .i64 t402, .int .i64 t403] 25 (0, 0)) (by (with_reducible repeat (first | refine blk_drewN ?_ _ | refine blk_drew ?_ | refine blk_alloc ?_ _)); exact BK410.out) hb); have n5_ := Aside0.mk (Kd.C_below (by repeat (first | (with_reducible exact HR438.out) | (with_reducible refine Kd.C_alloc ?_ _) | (with_reducible refine Kd.C_drewN ?_ _) | (with_reducible refine Kd.C_drew ?_) | exact HR438.out)) hb); have n6_ := Aside0.mk (below_step (by first | (with_reducible exact pw_below_drewN HB.out _) | repeat (first | (with_reducible first | exact HB.out | apply below_alloc | apply pw_below_drewN | apply below_drew1 | refine below_set ?_ GE410.out) | exact HB.out)) hb); clear HO_6; clear HO_8; clear HO_172; clear BK410; clear HR438; clear HB; have HO_6 := n0_; have HO_8 := n1_; have HO_172 := n2_; have HO448 := n3_; have BK410 := n4_; have HR438 := n5_; have HB := n6_; clear n0_ n1_ n2_ n3_ n4_ n5_ n6_; clear hb ho76; obtain ⟨Ao77, co77, eo77⟩ := Kd.R_slice HO448.out; subst eo77) | (go_at_call 41; (try simp only [i64_w, i32_w]); (with_reducible refine (impl_CountFitting.calls k5 t401 t402 t403 (fun k_ => some k_ = (.slice Ao52 t411.length co52 : Value).ownBlock) _ _ t411 (fun k_ => some k_ = (.slice Ao77 y446.length co77 : Value).ownBlock) _ _ y446 t449 _ ?side1 ?side2 A70.out).mono ?_); (case side1 => exact Kd.R_V (Kd.R_tight rfl (Kd.R_types (HO_6.out) BK410.out (by decide)))); (case side2 => exact Kd.R_V (Kd.R_tight rfl (Kd.R_types (HO448.out) BK410.out (by decide)))); rintro e w78 ⟨rfl, hb⟩; have n0_ := Aside0.mk (Kd.R_below (by (with_reducible repeat (first | apply Kd.R_alloc | apply Kd.R_drewN | apply Kd.R_drew)); exact HO_6.out) hb); have n1_ := Aside0.mk (Kd.R_below (by (with_reducible repeat (first | apply Kd.R_alloc | apply Kd.R_drewN | apply Kd.R_drew)); exact HO_8.out) hb); have n2_ := Aside0.mk (Kd.Q_below (by (with_reducible repeat (first | apply Kd.Q_alloc | apply Kd.Q_drewN | apply Kd.Q_drew)); exact HO_172.out) hb); have n3_ := Aside0.mk (Kd.R_below (by (with_reducible repeat (first | apply Kd.R_alloc | apply Kd.R_drewN | apply Kd.R_drew)); exact HO448.out) hb); have n4_ := Aside0.mk (blk_below (g := gb410) (o := .cells #[.int .i64 t401, .int .i64 t402, .int .i64 t403] 25 (0, 0)) (by (with_reducible repeat (first | refine blk_drewN ?_ _ | refine blk_drew ?_ | refine blk_alloc ?_ _)); exact BK410.out) hb); have n5_ := Aside0.mk (Kd.C_below (by repeat (first | (with_reducible exact HR438.out) | (with_reducible refine Kd.C_alloc ?_ _) | (with_reducible refine Kd.C_drewN ?_ _) | (with_reducible refine Kd.C_drew ?_) | exact HR438.out)) hb); have n6_ := Aside0.mk (below_step (by first | (with_reducible exact pw_below_drewN HB.out _) | repeat (first | (with_reducible first | exact HB.out | apply below_alloc | apply pw_below_drewN | apply below_drew1 | refine below_set ?_ GE410.out) | exact HB.out)) hb); clear HO_6; clear HO_8; clear HO_172; clear HO448; clear BK410; clear HR438; clear HB; have HO_6 := n0_; have HO_8 := n1_; have HO_172 := n2_; have HO448 := n3_; have BK410 := n4_; have HR438 := n5_; have HB := n6_; clear n0_ n1_ n2_ n3_ n4_ n5_ n6_; (try clear hb); (try clear hb2); (try clear hk); (try clear hi); have hcz79_0 : w78.cell? ⟨gb410, 0, none⟩ = some (.int .i64 t401) := (blk_cell BK410.out 0).trans rfl; have hcz79_1 : w78.cell? ⟨gb410, 1, none⟩ = some (.int .i64 t402) := (blk_cell BK410.out 1).trans rfl; have hcz79_2 : w78.cell? ⟨gb410, 2, none⟩ = some (.int .i64 t403) := (blk_cell BK410.out 2).trans rfl; have hfz79_0 := blk_frozen BK410.out 0; have hfz79_1 := blk_frozen BK410.out 1; have hfz79_2 := blk_frozen BK410.out 2) | ((with_reducible refine gate_dst (N := 189) rfl ?_); (try (refine gate_guard (by rfl) ?_; dsimp only)); refine Kd.R_lit (Kd.int .i64) _ 3 ?hg (N := 189) ?hd (xs := ([rd t407 x174_5, rd t407 x174_5] : List Int)) (inner := [.int .i64 (rd t407 x174_5), .int .i64 (rd t407 x174_5)]) (ok := fun _ => True) (okp := fun _ => True) ?hr ?hp (fun _ hk => hk) trivial (Below.refl _ _) (Nat.le_refl _) (by simp) ?_; (case hd => rfl); (case hg => rfl); (case hr => first | (go_simp; done) | (go_simp; rfl)); (case hp => exact (Reps.one (show Kd.M (Kd.int .i64) _ _ _ (rd t407 x174_5) [.int .i64 (rd t407 x174_5)] from rfl) (Reps.one (show Kd.M (Kd.int .i64) _ _ _ (rd t407 x174_5) [.int .i64 (rd t407 x174_5)] from rfl) (Reps.none _ _)))); intro v451 w80 ho81 hb hg_ hnew_; clear hg_ hnew_; (first | rw [← Ny450.out] at ho81 | (simp only [Int.reduceToNat] at ho81; rw [← Ny450.out] at ho81)); have n0_ := Aside0.mk (Kd.R_elder' (by (with_reducible repeat (first | apply Kd.R_alloc | apply Kd.R_drewN | apply Kd.R_drew)); exact HO_6.out) (Kd.R_base ho81) hb); have n1_ := Aside0.mk (Kd.R_elder' (by (with_reducible repeat (first | apply Kd.R_alloc | apply Kd.R_drewN | apply Kd.R_drew)); exact HO_8.out) (Kd.R_base ho81) hb); have n2_ := Aside0.mk (Kd.Q_elder' (by (with_reducible repeat (first | apply Kd.Q_alloc | apply Kd.Q_drewN | apply Kd.Q_drew)); exact HO_172.out) (Kd.R_base ho81) hb); have n3_ := Aside0.mk (Kd.R_elder' (by (with_reducible repeat (first | apply Kd.R_alloc | apply Kd.R_drewN | apply Kd.R_drew)); exact HO448.out) (Kd.R_base ho81) hb); have n4_ := Aside0.mk (Kd.R_lower (Kd.R_new' (Kd.R_new' (Kd.R_new' (Kd.R_new' ho81 (Kd.R_lt (by (with_reducible repeat (first | apply Kd.R_alloc | apply Kd.R_drewN | apply Kd.R_drew)); exact HO_6.out))) (Kd.R_lt (by (with_reducible repeat (first | apply Kd.R_alloc | apply Kd.R_drewN | apply Kd.R_drew)); exact HO_8.out))) (Kd.Q_lt (by (with_reducible repeat (first | apply Kd.Q_alloc | apply Kd.Q_drewN | apply Kd.Q_drew)); exact HO_172.out))) (Kd.R_lt (by (with_reducible repeat (first | apply Kd.R_alloc | apply Kd.R_drewN | apply Kd.R_drew)); exact HO448.out))) (below_size (by repeat (first | (with_reducible first | exact HB.out | apply below_alloc | apply pw_below_drewN | apply below_drew1 | refine below_set ?_ GE410.out) | exact HB.out)))); have n5_ := Aside0.mk (blk_below (g := gb410) (o := .cells #[.int .i64 t401, .int .i64 t402, .int .i64 t403] 25 (0, 0)) (by (with_reducible repeat (first | refine blk_drewN ?_ _ | refine blk_drew ?_ | refine blk_alloc ?_ _)); exact BK410.out) hb); have n6_ := Aside0.mk (Kd.C_below (by repeat (first | (with_reducible exact HR438.out) | (with_reducible refine Kd.C_alloc ?_ _) | (with_reducible refine Kd.C_drewN ?_ _) | (with_reducible refine Kd.C_drew ?_) | exact HR438.out)) hb); have n7_ := Aside0.mk (below_step (by first | (with_reducible exact pw_below_drewN HB.out _) | repeat (first | (with_reducible first | exact HB.out | apply below_alloc | apply pw_below_drewN | apply below_drew1 | refine below_set ?_ GE410.out) | exact HB.out)) hb); clear HO_6; clear HO_8; clear HO_172; clear HO448; clear BK410; clear HR438; clear HB; have HO_6 := n0_; have HO_8 := n1_; have HO_172 := n2_; have HO448 := n3_; have HO452 := n4_; have BK410 := n5_; have HR438 := n6_; have HB := n7_; clear n0_ n1_ n2_ n3_ n4_ n5_ n6_ n7_; clear hb ho81; obtain ⟨Ao82, co82, eo82⟩ := Kd.R_slice HO452.out; subst eo82) | (go_at_call 41; (try simp only [i64_w, i32_w]); (with_reducible refine (impl_CountFitting.calls k5 t401 t402 t403 (fun k_ => some k_ = (.slice Ao27 t415.length co27 : Value).ownBlock) _ _ t415 (fun k_ => some k_ = (.slice Ao82 y450.length co82 : Value).ownBlock) _ _ y450 t453 _ ?side1 ?side2 A72.out).mono ?_); (case side1 => exact Kd.R_V (Kd.R_tight rfl (Kd.R_types (HO_8.out) BK410.out (by decide)))); (case side2 => exact Kd.R_V (Kd.R_tight rfl (Kd.R_types (HO452.out) BK410.out (by decide)))); rintro e w83 ⟨rfl, hb⟩; have n0_ := Aside0.mk (Kd.R_below (by (with_reducible repeat (first | apply Kd.R_alloc | apply Kd.R_drewN | apply Kd.R_drew)); exact HO_6.out) hb); have n1_ := Aside0.mk (Kd.R_below (by (with_reducible repeat (first | apply Kd.R_alloc | apply Kd.R_drewN | apply Kd.R_drew)); exact HO_8.out) hb); have n2_ := Aside0.mk (Kd.Q_below (by (with_reducible repeat (first | apply Kd.Q_alloc | apply Kd.Q_drewN | apply Kd.Q_drew)); exact HO_172.out) hb); have n3_ := Aside0.mk (Kd.R_below (by (with_reducible repeat (first | apply Kd.R_alloc | apply Kd.R_drewN | apply Kd.R_drew)); exact HO448.out) hb); have n4_ := Aside0.mk (Kd.R_below (by (with_reducible repeat (first | apply Kd.R_alloc | apply Kd.R_drewN | apply Kd.R_drew)); exact HO452.out) hb); have n5_ := Aside0.mk (blk_below (g := gb410) (o := .cells #[.int .i64 t401, .int .i64 t402, .int .i64 t403] 25 (0, 0)) (by (with_reducible repeat (first | refine blk_drewN ?_ _ | refine blk_drew ?_ | refine blk_alloc ?_ _)); exact BK410.out) hb); have n6_ := Aside0.mk (Kd.C_below (by repeat (first | (with_reducible exact HR438.out) | (with_reducible refine Kd.C_alloc ?_ _) | (with_reducible refine Kd.C_drewN ?_ _) | (with_reducible refine Kd.C_drew ?_) | exact HR438.out)) hb); have n7_ := Aside0.mk (below_step (by first | (with_reducible exact pw_below_drewN HB.out _) | repeat (first | (with_reducible first | exact HB.out | apply below_alloc | apply pw_below_drewN | apply below_drew1 | refine below_set ?_ GE410.out) | exact HB.out)) hb); clear HO_6; clear HO_8; clear HO_172; clear HO448; clear HO452; clear BK410; clear HR438; clear HB; have HO_6 := n0_; have HO_8 := n1_; have HO_172 := n2_; have HO448 := n3_; have HO452 := n4_; have BK410 := n5_; have HR438 := n6_; have HB := n7_; clear n0_ n1_ n2_ n3_ n4_ n5_ n6_ n7_; (try clear hb); (try clear hb2); (try clear hk); (try clear hi))))
                                                go_roundg k5
                                                case measure => have := HJ7.out; have := HJ25.out; have := HK3.out; have := HK4.out; have := HK5.out; omega
                                                case rel => exact ⟨(wrap64 (x174_5 + 1)), (by first | rfl | (simp; done) | (simp [*]; done)), H', ⟨by have := HJ7.out; have := HJ25.out; have := HK3.out; have := HK4.out; have := HK5.out; omega⟩, ⟨by (with_reducible repeat (first | apply Kd.R_alloc | apply Kd.R_drewN | apply Kd.R_drew)); exact Kd.R_mono HO_6.out (fun _ hk => ⟨hk.1.1.1, hk.1.1.2⟩)⟩, ⟨by (with_reducible repeat (first | apply Kd.R_alloc | apply Kd.R_drewN | apply Kd.R_drew)); exact Kd.R_mono HO_8.out (fun _ hk => ⟨hk.1.1.1, hk.1.1.2⟩)⟩, ⟨by (with_reducible repeat (first | apply Kd.Q_alloc | apply Kd.Q_drewN | apply Kd.Q_drew)); exact Kd.Q_mono HO_172.out (fun _ hk => ⟨hk.1.1.1, hk.1.1.2⟩)⟩, ⟨by (with_reducible repeat (first | refine blk_drewN ?_ _ | refine blk_drew ?_ | refine blk_alloc ?_ _)); exact BK410.out⟩, ⟨by repeat (first | (with_reducible exact HR438.out) | (with_reducible refine Kd.C_alloc ?_ _) | (with_reducible refine Kd.C_drewN ?_ _) | (with_reducible refine Kd.C_drew ?_) | exact HR438.out)⟩, ⟨by repeat (first | (with_reducible first | exact HB.out | apply below_alloc | apply pw_below_drewN | apply below_drew1 | refine below_set ?_ GE410.out) | exact HB.out)⟩⟩
                                            · rw [if_neg c71] at H
                                              exact absurd H (by simp)
                                          · rw [if_neg c69] at H
                                            exact absurd H (by simp)
                                        · rw [if_neg c68] at H
                                          exact absurd H (by simp)
                                      · rw [if_neg c67] at H
                                        have c67b0 : decide (x174_5 < (t407.length : Int)) = false := decide_eq_false c67
                                        clear c67
                                        obtain rfl := Option.some.inj H
                                        go_wp2
                                        repeat (go_quiet (fail); try go_wp2)
                                        go_ret
                                        exact ⟨by first | rfl | (simp only [i64_w, i32_w]; rfl) | (simp only [i64_w, i32_w, wrap64_zero, Int.sub_zero, Int.add_zero, Int.mul_zero, Int.zero_mul]; rfl) | (simp [errW_none, errW_some] <;> rfl) | (simp [*, errW_none, errW_some] <;> rfl), by repeat (first | (with_reducible first | exact HB.out | apply below_alloc | apply pw_below_drewN | apply below_drew1 | refine below_set ?_ GE410.out) | exact HB.out)⟩
                    · rw [if_neg c50] at H
                      exact absurd H (by simp)
                  · rw [if_neg c49] at H
                    exact absurd H (by simp)
    · replace c7 := Bool.eq_false_iff.mpr c7
      subst c7
      have H1 : (if t414 = true then (none) else (if t418 = true then (none) else (some ((t419.length : Int) == 0)))) = some r := by rw [if_neg (show ¬ (false = true) by decide)] at H; exact H
      clear H
      have H := H1
      clear H1
      by_cases c84 : t414 = true
      · subst c84
        have H1 : (none) = some r := by rw [if_pos rfl] at H; exact H
        clear H
        have H := H1
        clear H1
        exact absurd H (by simp)
      · replace c84 := Bool.eq_false_iff.mpr c84
        subst c84
        have H1 : (if t418 = true then (none) else (some ((t419.length : Int) == 0))) = some r := by rw [if_neg (show ¬ (false = true) by decide)] at H; exact H
        clear H
        have H := H1
        clear H1
        by_cases c85 : t418 = true
        · subst c85
          have H1 : (none) = some r := by rw [if_pos rfl] at H; exact H
          clear H
          have H := H1
          clear H1
          exact absurd H (by simp)
        · replace c85 := Bool.eq_false_iff.mpr c85
          subst c85
          have H1 : (some ((t419.length : Int) == 0)) = some r := by rw [if_neg (show ¬ (false = true) by decide)] at H; exact H
          clear H
          have H := H1
          clear H1
          obtain rfl := Option.some.inj H
          go_enter Try.func22, Try.ntmps22
          go_wp2_with (first | (go_at_call 63; (try simp only [i64_w, i32_w]); (with_reducible refine (spec_DrawQuadLine.calls k _ _ l0 t401 t402 t403 t404 t407 _ ?side1 ?side2 A3.out).mono ?_); (case side1 => repeat (first | exact HR0.out | (with_reducible refine Kd.C_alloc ?_ _) | (with_reducible refine Kd.C_drewN ?_ _) | (with_reducible refine Kd.C_drew ?_))); (case side2 => exact HC0.out); rintro e w86 ⟨v405, v408, rfl, ho0, ho1, hb⟩; have n0_ := Aside0.mk (Kd.R_lower ho0 (below_size (by repeat (first | (with_reducible first | exact HB.out | apply below_alloc | apply pw_below_drewN | apply below_drew1) | exact HB.out)))); have n1_ := Aside0.mk (Kd.Q_lower ho1 (below_size (by repeat (first | (with_reducible first | exact HB.out | apply below_alloc | apply pw_below_drewN | apply below_drew1) | exact HB.out)))); have n2_ := Aside0.mk (below_step (by first | (with_reducible exact pw_below_drewN HB.out _) | repeat (first | (with_reducible first | exact HB.out | apply below_alloc | apply pw_below_drewN | apply below_drew1) | exact HB.out)) hb); clear HB; have HO406 := n0_; have HO409 := n1_; have HB := n2_; clear n0_ n1_ n2_; (try clear hb); (try clear hb2); (try clear hk); (try clear hi); (try clear ho0); (try clear ho1)) | ((with_reducible refine gate_dst (N := 3) rfl ?_); (try (refine gate_guard (by rfl) ?_; dsimp only)); refine box_event ?hg (N := 3) ?hd (cs := #[.int .i64 0, .int .i64 0, .int .i64 0]) (t := 25) ?hr ?_; (case hd => rfl); (case hg => rfl); (case hr => first | (go_simp; done) | (go_simp; rfl)); intro gb410 hg w87 hbox hb; have n0_ := Aside0.mk (Kd.R_below (by (with_reducible repeat (first | apply Kd.R_alloc | apply Kd.R_drewN | apply Kd.R_drew)); exact HO406.out) hb); have n1_ := Aside0.mk (Kd.Q_below (by (with_reducible repeat (first | apply Kd.Q_alloc | apply Kd.Q_drewN | apply Kd.Q_drew)); exact HO409.out) hb); have n2_ := Aside0.mk (below_step (by first | (with_reducible exact pw_below_drewN HB.out _) | repeat (first | (with_reducible first | exact HB.out | apply below_alloc | apply pw_below_drewN | apply below_drew1) | exact HB.out)) hb); have n3_ := Aside0.mk (hbox); have n4_ := Aside0.mk ((by rw [hg]; exact (below_size (by repeat (first | (with_reducible first | exact HB.out | apply below_alloc | apply pw_below_drewN | apply below_drew1) | exact HB.out))) : w.heap.size ≤ gb410)); have n5_ := Aside0.mk ((by rw [hg]; exact (below_size (by repeat (first | (with_reducible first | exact HB.out | apply below_alloc | apply pw_below_drewN | apply below_drew1) | exact HB.out))) : w.heap.size ≤ gb410)); clear HO406; clear HO409; clear HB; have HO406 := n0_; have HO409 := n1_; have HB := n2_; have BK410 := n3_; have GW410 := n4_; have GE410 := n5_; clear n0_ n1_ n2_ n3_ n4_ n5_; clear hb hbox hg; have hcz88_0 : w87.cell? ⟨gb410, 0, none⟩ = some (.int .i64 0) := (blk_cell BK410.out 0).trans rfl; have hcz88_1 : w87.cell? ⟨gb410, 1, none⟩ = some (.int .i64 0) := (blk_cell BK410.out 1).trans rfl; have hcz88_2 : w87.cell? ⟨gb410, 2, none⟩ = some (.int .i64 0) := (blk_cell BK410.out 2).trans rfl; have hfz88_0 := blk_frozen BK410.out 0; have hfz88_1 := blk_frozen BK410.out 1; have hfz88_2 := blk_frozen BK410.out 2; obtain ⟨Ao89, co89, eo89⟩ := Kd.R_slice HO406.out; subst eo89; obtain ⟨Ao90, co90, eo90, _⟩ := Kd.Q_slice HO409.out; subst eo90) | (go_at_call 59; (try simp only [i64_w, i32_w]); (with_reducible refine (impl_QuadLine.calls k t401 t402 t403 _ _ t404 _ _ t407 t411 false _ ?side1 ?side2 ?side3 ?side4 A4.out).mono ?_); (case side1 => refine (Kd.R_reads' (e := 3) (base := w.heap.size) (ok := fun k_ => some k_ ≠ (.slice Ao90 t407.length co90 : Value).ownBlock) (n := t404.length) (c := co89) ?_).2.2; exact (by (with_reducible repeat (first | apply Kd.R_alloc | apply Kd.R_drewN | apply Kd.R_drew)); exact (Kd.R_mono (Kd.R_far (p := ⟨gb410, 2, none⟩) (Kd.R_far (p := ⟨gb410, 1, none⟩) (Kd.R_far (p := ⟨gb410, 0, none⟩) (Kd.R_types HO406.out BK410.out (by decide)) (fun _ hk => hk.2) (.int .i64 t401)) (fun _ hk => hk.2) (.int .i64 t402)) (fun _ hk => hk.2) (.int .i64 t403)) (fun _ h_ => h_.1)))); (case side2 => exact (Kd.R_reads' HO406.out).2.1); (case side3 => refine (Kd.Q_reads' (e := 3) (base := w.heap.size) (ok := fun k_ => some k_ ≠ (.slice Ao89 t404.length co89 : Value).ownBlock) (n := t407.length) (c := co90) ?_).2.2; exact (by (with_reducible repeat (first | apply Kd.Q_alloc | apply Kd.Q_drewN | apply Kd.Q_drew)); exact (Kd.Q_mono (Kd.Q_far (p := ⟨gb410, 2, none⟩) (Kd.Q_far (p := ⟨gb410, 1, none⟩) (Kd.Q_far (p := ⟨gb410, 0, none⟩) (Kd.Q_types HO409.out BK410.out (by decide)) (fun _ hk => hk.2) (.int .i64 t401)) (fun _ hk => hk.2) (.int .i64 t402)) (fun _ hk => hk.2) (.int .i64 t403)) (fun _ h_ => h_.1)))); (case side4 => exact (Kd.Q_reads' HO409.out).2.1); rintro e w91 ⟨v412, rfl, ho0, hb⟩; have n0_ := Aside0.mk (Kd.R_elder' (by (with_reducible repeat (first | apply Kd.R_alloc | apply Kd.R_drewN | apply Kd.R_drew)); exact (Kd.R_mono (Kd.R_far (p := ⟨gb410, 2, none⟩) (Kd.R_far (p := ⟨gb410, 1, none⟩) (Kd.R_far (p := ⟨gb410, 0, none⟩) (Kd.R_types HO406.out BK410.out (by decide)) (fun _ hk => hk.2) (.int .i64 t401)) (fun _ hk => hk.2) (.int .i64 t402)) (fun _ hk => hk.2) (.int .i64 t403)) (fun _ h_ => h_.1))) (Kd.R_base ho0) hb); have n1_ := Aside0.mk (Kd.Q_elder' (by (with_reducible repeat (first | apply Kd.Q_alloc | apply Kd.Q_drewN | apply Kd.Q_drew)); exact (Kd.Q_mono (Kd.Q_far (p := ⟨gb410, 2, none⟩) (Kd.Q_far (p := ⟨gb410, 1, none⟩) (Kd.Q_far (p := ⟨gb410, 0, none⟩) (Kd.Q_types HO409.out BK410.out (by decide)) (fun _ hk => hk.2) (.int .i64 t401)) (fun _ hk => hk.2) (.int .i64 t402)) (fun _ hk => hk.2) (.int .i64 t403)) (fun _ h_ => h_.1))) (Kd.R_base ho0) hb); have n2_ := Aside0.mk (Kd.R_lower (Kd.R_new' (Kd.R_new' ho0 (Kd.R_lt (by (with_reducible repeat (first | apply Kd.R_alloc | apply Kd.R_drewN | apply Kd.R_drew)); exact (Kd.R_mono (Kd.R_far (p := ⟨gb410, 2, none⟩) (Kd.R_far (p := ⟨gb410, 1, none⟩) (Kd.R_far (p := ⟨gb410, 0, none⟩) (Kd.R_types HO406.out BK410.out (by decide)) (fun _ hk => hk.2) (.int .i64 t401)) (fun _ hk => hk.2) (.int .i64 t402)) (fun _ hk => hk.2) (.int .i64 t403)) (fun _ h_ => h_.1))))) (Kd.Q_lt (by (with_reducible repeat (first | apply Kd.Q_alloc | apply Kd.Q_drewN | apply Kd.Q_drew)); exact (Kd.Q_mono (Kd.Q_far (p := ⟨gb410, 2, none⟩) (Kd.Q_far (p := ⟨gb410, 1, none⟩) (Kd.Q_far (p := ⟨gb410, 0, none⟩) (Kd.Q_types HO409.out BK410.out (by decide)) (fun _ hk => hk.2) (.int .i64 t401)) (fun _ hk => hk.2) (.int .i64 t402)) (fun _ hk => hk.2) (.int .i64 t403)) (fun _ h_ => h_.1))))) (below_size (by repeat (first | (with_reducible first | exact HB.out | apply below_alloc | apply pw_below_drewN | apply below_drew1 | refine below_set ?_ GE410.out) | exact HB.out)))); have n3_ := Aside0.mk (blk_below (g := gb410) (o := .cells #[.int .i64 t401, .int .i64 t402, .int .i64 t403] 25 (0, 0)) (by (with_reducible repeat (first | refine blk_drewN ?_ _ | refine blk_drew ?_ | refine blk_alloc ?_ _)); refine blk_put (cs := #[.int .i64 t401, .int .i64 t402, .int .i64 0]) ?_ 2 _ rfl; (with_reducible repeat (first | refine blk_drewN ?_ _ | refine blk_drew ?_ | refine blk_alloc ?_ _)); refine blk_put (cs := #[.int .i64 t401, .int .i64 0, .int .i64 0]) ?_ 1 _ rfl; (with_reducible repeat (first | refine blk_drewN ?_ _ | refine blk_drew ?_ | refine blk_alloc ?_ _)); refine blk_put (cs := #[.int .i64 0, .int .i64 0, .int .i64 0]) ?_ 0 _ rfl; (with_reducible repeat (first | refine blk_drewN ?_ _ | refine blk_drew ?_ | refine blk_alloc ?_ _)); exact BK410.out) hb); have n4_ := Aside0.mk (below_step (by first | (with_reducible exact pw_below_drewN HB.out _) | repeat (first | (with_reducible first | exact HB.out | apply below_alloc | apply pw_below_drewN | apply below_drew1 | refine below_set ?_ GE410.out) | exact HB.out)) hb); clear HO406; clear HO409; clear BK410; clear HB; have HO406 := n0_; have HO409 := n1_; have HO413 := n2_; have BK410 := n3_; have HB := n4_; clear n0_ n1_ n2_ n3_ n4_; (try clear hb); (try clear hb2); (try clear hk); (try clear hi); (try clear ho0); have hcz92_0 : w91.cell? ⟨gb410, 0, none⟩ = some (.int .i64 t401) := (blk_cell BK410.out 0).trans rfl; have hcz92_1 : w91.cell? ⟨gb410, 1, none⟩ = some (.int .i64 t402) := (blk_cell BK410.out 1).trans rfl; have hcz92_2 : w91.cell? ⟨gb410, 2, none⟩ = some (.int .i64 t403) := (blk_cell BK410.out 2).trans rfl; have hfz92_0 := blk_frozen BK410.out 0; have hfz92_1 := blk_frozen BK410.out 1; have hfz92_2 := blk_frozen BK410.out 2) | (go_at_call 57; (try simp only [i64_w, i32_w]); (with_reducible refine (impl_CenterLine.calls k t401 t402 t403 _ _ t404 _ _ t407 t415 false _ ?side1 ?side2 ?side3 ?side4 A5.out).mono ?_); (case side1 => repeat (first | exact (Kd.R_reads' HO406.out).2.2 | (with_reducible refine Kd.C_alloc ?_ _) | (with_reducible refine Kd.C_drewN ?_ _) | (with_reducible refine Kd.C_drew ?_))); (case side2 => exact (Kd.R_reads' HO406.out).2.1); (case side3 => repeat (first | exact (Kd.Q_reads' HO409.out).2.2 | (with_reducible refine Kd.C_alloc ?_ _) | (with_reducible refine Kd.C_drewN ?_ _) | (with_reducible refine Kd.C_drew ?_))); (case side4 => exact (Kd.Q_reads' HO409.out).2.1); rintro e w93 ⟨v416, rfl, ho0, hb⟩; have n0_ := Aside0.mk (Kd.R_elder' (by (with_reducible repeat (first | apply Kd.R_alloc | apply Kd.R_drewN | apply Kd.R_drew)); exact HO406.out) (Kd.R_base ho0) hb); have n1_ := Aside0.mk (Kd.Q_elder' (by (with_reducible repeat (first | apply Kd.Q_alloc | apply Kd.Q_drewN | apply Kd.Q_drew)); exact HO409.out) (Kd.R_base ho0) hb); have n2_ := Aside0.mk (Kd.R_elder' (by (with_reducible repeat (first | apply Kd.R_alloc | apply Kd.R_drewN | apply Kd.R_drew)); exact HO413.out) (Kd.R_base ho0) hb); have n3_ := Aside0.mk (Kd.R_lower (Kd.R_new' (Kd.R_new' (Kd.R_new' ho0 (Kd.R_lt (by (with_reducible repeat (first | apply Kd.R_alloc | apply Kd.R_drewN | apply Kd.R_drew)); exact HO406.out))) (Kd.Q_lt (by (with_reducible repeat (first | apply Kd.Q_alloc | apply Kd.Q_drewN | apply Kd.Q_drew)); exact HO409.out))) (Kd.R_lt (by (with_reducible repeat (first | apply Kd.R_alloc | apply Kd.R_drewN | apply Kd.R_drew)); exact HO413.out))) (below_size (by repeat (first | (with_reducible first | exact HB.out | apply below_alloc | apply pw_below_drewN | apply below_drew1 | refine below_set ?_ GE410.out) | exact HB.out)))); have n4_ := Aside0.mk (blk_below (g := gb410) (o := .cells #[.int .i64 t401, .int .i64 t402, .int .i64 t403] 25 (0, 0)) (by (with_reducible repeat (first | refine blk_drewN ?_ _ | refine blk_drew ?_ | refine blk_alloc ?_ _)); exact BK410.out) hb); have n5_ := Aside0.mk (below_step (by first | (with_reducible exact pw_below_drewN HB.out _) | repeat (first | (with_reducible first | exact HB.out | apply below_alloc | apply pw_below_drewN | apply below_drew1 | refine below_set ?_ GE410.out) | exact HB.out)) hb); clear HO406; clear HO409; clear HO413; clear BK410; clear HB; have HO406 := n0_; have HO409 := n1_; have HO413 := n2_; have HO417 := n3_; have BK410 := n4_; have HB := n5_; clear n0_ n1_ n2_ n3_ n4_ n5_; (try clear hb); (try clear hb2); (try clear hk); (try clear hi); (try clear ho0); have hcz94_0 : w93.cell? ⟨gb410, 0, none⟩ = some (.int .i64 t401) := (blk_cell BK410.out 0).trans rfl; have hcz94_1 : w93.cell? ⟨gb410, 1, none⟩ = some (.int .i64 t402) := (blk_cell BK410.out 1).trans rfl; have hcz94_2 : w93.cell? ⟨gb410, 2, none⟩ = some (.int .i64 t403) := (blk_cell BK410.out 2).trans rfl; have hfz94_0 := blk_frozen BK410.out 0; have hfz94_1 := blk_frozen BK410.out 1; have hfz94_2 := blk_frozen BK410.out 2) | (go_at_call 58; (try simp only [i64_w, i32_w]); (with_reducible refine (spec_QuadLine.calls k t401 t402 t403 _ _ t404 _ _ t407 t419 false _ ?side1 ?side2 ?side3 ?side4 A6.out).mono ?_); (case side1 => repeat (first | exact (Kd.R_reads' HO406.out).2.2 | (with_reducible refine Kd.C_alloc ?_ _) | (with_reducible refine Kd.C_drewN ?_ _) | (with_reducible refine Kd.C_drew ?_))); (case side2 => exact (Kd.R_reads' HO406.out).2.1); (case side3 => repeat (first | exact (Kd.Q_reads' HO409.out).2.2 | (with_reducible refine Kd.C_alloc ?_ _) | (with_reducible refine Kd.C_drewN ?_ _) | (with_reducible refine Kd.C_drew ?_))); (case side4 => exact (Kd.Q_reads' HO409.out).2.1); rintro e w95 ⟨v420, rfl, ho0, hb⟩; have n0_ := Aside0.mk (Kd.R_elder' (by (with_reducible repeat (first | apply Kd.R_alloc | apply Kd.R_drewN | apply Kd.R_drew)); exact HO406.out) (Kd.R_base ho0) hb); have n1_ := Aside0.mk (Kd.Q_elder' (by (with_reducible repeat (first | apply Kd.Q_alloc | apply Kd.Q_drewN | apply Kd.Q_drew)); exact HO409.out) (Kd.R_base ho0) hb); have n2_ := Aside0.mk (Kd.R_elder' (by (with_reducible repeat (first | apply Kd.R_alloc | apply Kd.R_drewN | apply Kd.R_drew)); exact HO413.out) (Kd.R_base ho0) hb); have n3_ := Aside0.mk (Kd.R_elder' (by (with_reducible repeat (first | apply Kd.R_alloc | apply Kd.R_drewN | apply Kd.R_drew)); exact HO417.out) (Kd.R_base ho0) hb); have n4_ := Aside0.mk (Kd.R_lower (Kd.R_new' (Kd.R_new' (Kd.R_new' (Kd.R_new' ho0 (Kd.R_lt (by (with_reducible repeat (first | apply Kd.R_alloc | apply Kd.R_drewN | apply Kd.R_drew)); exact HO406.out))) (Kd.Q_lt (by (with_reducible repeat (first | apply Kd.Q_alloc | apply Kd.Q_drewN | apply Kd.Q_drew)); exact HO409.out))) (Kd.R_lt (by (with_reducible repeat (first | apply Kd.R_alloc | apply Kd.R_drewN | apply Kd.R_drew)); exact HO413.out))) (Kd.R_lt (by (with_reducible repeat (first | apply Kd.R_alloc | apply Kd.R_drewN | apply Kd.R_drew)); exact HO417.out))) (below_size (by repeat (first | (with_reducible first | exact HB.out | apply below_alloc | apply pw_below_drewN | apply below_drew1 | refine below_set ?_ GE410.out) | exact HB.out)))); have n5_ := Aside0.mk (blk_below (g := gb410) (o := .cells #[.int .i64 t401, .int .i64 t402, .int .i64 t403] 25 (0, 0)) (by (with_reducible repeat (first | refine blk_drewN ?_ _ | refine blk_drew ?_ | refine blk_alloc ?_ _)); exact BK410.out) hb); have n6_ := Aside0.mk (below_step (by first | (with_reducible exact pw_below_drewN HB.out _) | repeat (first | (with_reducible first | exact HB.out | apply below_alloc | apply pw_below_drewN | apply below_drew1 | refine below_set ?_ GE410.out) | exact HB.out)) hb); clear HO406; clear HO409; clear HO413; clear HO417; clear BK410; clear HB; have HO406 := n0_; have HO409 := n1_; have HO413 := n2_; have HO417 := n3_; have HO421 := n4_; have BK410 := n5_; have HB := n6_; clear n0_ n1_ n2_ n3_ n4_ n5_ n6_; (try clear hb); (try clear hb2); (try clear hk); (try clear hi); (try clear ho0); obtain ⟨Ao96, co96, eo96⟩ := Kd.R_slice HO421.out; subst eo96))
          repeat (go_quiet (first | (go_at_call 63; (try simp only [i64_w, i32_w]); (with_reducible refine (spec_DrawQuadLine.calls k _ _ l0 t401 t402 t403 t404 t407 _ ?side1 ?side2 A3.out).mono ?_); (case side1 => repeat (first | exact HR0.out | (with_reducible refine Kd.C_alloc ?_ _) | (with_reducible refine Kd.C_drewN ?_ _) | (with_reducible refine Kd.C_drew ?_))); (case side2 => exact HC0.out); rintro e w86 ⟨v405, v408, rfl, ho0, ho1, hb⟩; have n0_ := Aside0.mk (Kd.R_lower ho0 (below_size (by repeat (first | (with_reducible first | exact HB.out | apply below_alloc | apply pw_below_drewN | apply below_drew1) | exact HB.out)))); have n1_ := Aside0.mk (Kd.Q_lower ho1 (below_size (by repeat (first | (with_reducible first | exact HB.out | apply below_alloc | apply pw_below_drewN | apply below_drew1) | exact HB.out)))); have n2_ := Aside0.mk (below_step (by first | (with_reducible exact pw_below_drewN HB.out _) | repeat (first | (with_reducible first | exact HB.out | apply below_alloc | apply pw_below_drewN | apply below_drew1) | exact HB.out)) hb); clear HB; have HO406 := n0_; have HO409 := n1_; have HB := n2_; clear n0_ n1_ n2_; (try clear hb); (try clear hb2); (try clear hk); (try clear hi); (try clear ho0); (try clear ho1)) | ((with_reducible refine gate_dst (N := 3) rfl ?_); (try (refine gate_guard (by rfl) ?_; dsimp only)); refine box_event ?hg (N := 3) ?hd (cs := #[.int .i64 0, .int .i64 0, .int .i64 0]) (t := 25) ?hr ?_; (case hd => rfl); (case hg => rfl); (case hr => first | (go_simp; done) | (go_simp; rfl)); intro gb410 hg w87 hbox hb; have n0_ := Aside0.mk (Kd.R_below (by (with_reducible repeat (first | apply Kd.R_alloc | apply Kd.R_drewN | apply Kd.R_drew)); exact HO406.out) hb); have n1_ := Aside0.mk (Kd.Q_below (by (with_reducible repeat (first | apply Kd.Q_alloc | apply Kd.Q_drewN | apply Kd.Q_drew)); exact HO409.out) hb); have n2_ := Aside0.mk (below_step (by first | (with_reducible exact pw_below_drewN HB.out _) | repeat (first | (with_reducible first | exact HB.out | apply below_alloc | apply pw_below_drewN | apply below_drew1) | exact HB.out)) hb); have n3_ := Aside0.mk (hbox); have n4_ := Aside0.mk ((by rw [hg]; exact (below_size (by repeat (first | (with_reducible first | exact HB.out | apply below_alloc | apply pw_below_drewN | apply below_drew1) | exact HB.out))) : w.heap.size ≤ gb410)); have n5_ := Aside0.mk ((by rw [hg]; exact (below_size (by repeat (first | (with_reducible first | exact HB.out | apply below_alloc | apply pw_below_drewN | apply below_drew1) | exact HB.out))) : w.heap.size ≤ gb410)); clear HO406; clear HO409; clear HB; have HO406 := n0_; have HO409 := n1_; have HB := n2_; have BK410 := n3_; have GW410 := n4_; have GE410 := n5_; clear n0_ n1_ n2_ n3_ n4_ n5_; clear hb hbox hg; have hcz88_0 : w87.cell? ⟨gb410, 0, none⟩ = some (.int .i64 0) := (blk_cell BK410.out 0).trans rfl; have hcz88_1 : w87.cell? ⟨gb410, 1, none⟩ = some (.int .i64 0) := (blk_cell BK410.out 1).trans rfl; have hcz88_2 : w87.cell? ⟨gb410, 2, none⟩ = some (.int .i64 0) := (blk_cell BK410.out 2).trans rfl; have hfz88_0 := blk_frozen BK410.out 0; have hfz88_1 := blk_frozen BK410.out 1; have hfz88_2 := blk_frozen BK410.out 2; obtain ⟨Ao89, co89, eo89⟩ := Kd.R_slice HO406.out; subst eo89; obtain ⟨Ao90, co90, eo90, _⟩ := Kd.Q_slice HO409.out; subst eo90) | (go_at_call 59; (try simp only [i64_w, i32_w]); (with_reducible refine (impl_QuadLine.calls k t401 t402 t403 _ _ t404 _ _ t407 t411 false _ ?side1 ?side2 ?side3 ?side4 A4.out).mono ?_); (case side1 => refine (Kd.R_reads' (e := 3) (base := w.heap.size) (ok := fun k_ => some k_ ≠ (.slice Ao90 t407.length co90 : Value).ownBlock) (n := t404.length) (c := co89) ?_).2.2; exact (by (with_reducible repeat (first | apply Kd.R_alloc | apply Kd.R_drewN | apply Kd.R_drew)); exact (Kd.R_mono (Kd.R_far (p := ⟨gb410, 2, none⟩) (Kd.R_far (p := ⟨gb410, 1, none⟩) (Kd.R_far (p := ⟨gb410, 0, none⟩) (Kd.R_types HO406.out BK410.out (by decide)) (fun _ hk => hk.2) (.int .i64 t401)) (fun _ hk => hk.2) (.int .i64 t402)) (fun _ hk => hk.2) (.int .i64 t403)) (fun _ h_ => h_.1)))); (case side2 => exact (Kd.R_reads' HO406.out).2.1); (case side3 => refine (Kd.Q_reads' (e := 3) (base := w.heap.size) (ok := fun k_ => some k_ ≠ (.slice Ao89 t404.length co89 : Value).ownBlock) (n := t407.length) (c := co90) ?_).2.2; exact (by (with_reducible repeat (first | apply Kd.Q_alloc | apply Kd.Q_drewN | apply Kd.Q_drew)); exact (Kd.Q_mono (Kd.Q_far (p := ⟨gb410, 2, none⟩) (Kd.Q_far (p := ⟨gb410, 1, none⟩) (Kd.Q_far (p := ⟨gb410, 0, none⟩) (Kd.Q_types HO409.out BK410.out (by decide)) (fun _ hk => hk.2) (.int .i64 t401)) (fun _ hk => hk.2) (.int .i64 t402)) (fun _ hk => hk.2) (.int .i64 t403)) (fun _ h_ => h_.1)))); (case side4 => exact (Kd.Q_reads' HO409.out).2.1); rintro e w91 ⟨v412, rfl, ho0, hb⟩; have n0_ := Aside0.mk (Kd.R_elder' (by (with_reducible repeat (first | apply Kd.R_alloc | apply Kd.R_drewN | apply Kd.R_drew)); exact (Kd.R_mono (Kd.R_far (p := ⟨gb410, 2, none⟩) (Kd.R_far (p := ⟨gb410, 1, none⟩) (Kd.R_far (p := ⟨gb410, 0, none⟩) (Kd.R_types HO406.out BK410.out (by decide)) (fun _ hk => hk.2) (.int .i64 t401)) (fun _ hk => hk.2) (.int .i64 t402)) (fun _ hk => hk.2) (.int .i64 t403)) (fun _ h_ => h_.1))) (Kd.R_base ho0) hb); have n1_ := Aside0.mk (Kd.Q_elder' (by (with_reducible repeat (first | apply Kd.Q_alloc | apply Kd.Q_drewN | apply Kd.Q_drew)); exact (Kd.Q_mono (Kd.Q_far (p := ⟨gb410, 2, none⟩) (Kd.Q_far (p := ⟨gb410, 1, none⟩) (Kd.Q_far (p := ⟨gb410, 0, none⟩) (Kd.Q_types HO409.out BK410.out (by decide)) (fun _ hk => hk.2) (.int .i64 t401)) (fun _ hk => hk.2) (.int .i64 t402)) (fun _ hk => hk.2) (.int .i64 t403)) (fun _ h_ => h_.1))) (Kd.R_base ho0) hb); have n2_ := Aside0.mk (Kd.R_lower (Kd.R_new' (Kd.R_new' ho0 (Kd.R_lt (by (with_reducible repeat (first | apply Kd.R_alloc | apply Kd.R_drewN | apply Kd.R_drew)); exact (Kd.R_mono (Kd.R_far (p := ⟨gb410, 2, none⟩) (Kd.R_far (p := ⟨gb410, 1, none⟩) (Kd.R_far (p := ⟨gb410, 0, none⟩) (Kd.R_types HO406.out BK410.out (by decide)) (fun _ hk => hk.2) (.int .i64 t401)) (fun _ hk => hk.2) (.int .i64 t402)) (fun _ hk => hk.2) (.int .i64 t403)) (fun _ h_ => h_.1))))) (Kd.Q_lt (by (with_reducible repeat (first | apply Kd.Q_alloc | apply Kd.Q_drewN | apply Kd.Q_drew)); exact (Kd.Q_mono (Kd.Q_far (p := ⟨gb410, 2, none⟩) (Kd.Q_far (p := ⟨gb410, 1, none⟩) (Kd.Q_far (p := ⟨gb410, 0, none⟩) (Kd.Q_types HO409.out BK410.out (by decide)) (fun _ hk => hk.2) (.int .i64 t401)) (fun _ hk => hk.2) (.int .i64 t402)) (fun _ hk => hk.2) (.int .i64 t403)) (fun _ h_ => h_.1))))) (below_size (by repeat (first | (with_reducible first | exact HB.out | apply below_alloc | apply pw_below_drewN | apply below_drew1 | refine below_set ?_ GE410.out) | exact HB.out)))); have n3_ := Aside0.mk (blk_below (g := gb410) (o := .cells #[.int .i64 t401, .int .i64 t402, .int .i64 t403] 25 (0, 0)) (by (with_reducible repeat (first | refine blk_drewN ?_ _ | refine blk_drew ?_ | refine blk_alloc ?_ _)); refine blk_put (cs := #[.int .i64 t401, .int .i64 t402, .int .i64 0]) ?_ 2 _ rfl; (with_reducible repeat (first | refine blk_drewN ?_ _ | refine blk_drew ?_ | refine blk_alloc ?_ _)); refine blk_put (cs := #[.int .i64 t401, .int .i64 0, .int .i64 0]) ?_ 1 _ rfl; (with_reducible repeat (first | refine blk_drewN ?_ _ | refine blk_drew ?_ | refine blk_alloc ?_ _)); refine blk_put (cs := #[.int .i64 0, .int .i64 0, .int .i64 0]) ?_ 0 _ rfl; (with_reducible repeat (first | refine blk_drewN ?_ _ | refine blk_drew ?_ | refine blk_alloc ?_ _)); exact BK410.out) hb); have n4_ := Aside0.mk (below_step (by first | (with_reducible exact pw_below_drewN HB.out _) | repeat (first | (with_reducible first | exact HB.out | apply below_alloc | apply pw_below_drewN | apply below_drew1 | refine below_set ?_ GE410.out) | exact HB.out)) hb); clear HO406; clear HO409; clear BK410; clear HB; have HO406 := n0_; have HO409 := n1_; have HO413 := n2_; have BK410 := n3_; have HB := n4_; clear n0_ n1_ n2_ n3_ n4_; (try clear hb); (try clear hb2); (try clear hk); (try clear hi); (try clear ho0); have hcz92_0 : w91.cell? ⟨gb410, 0, none⟩ = some (.int .i64 t401) := (blk_cell BK410.out 0).trans rfl; have hcz92_1 : w91.cell? ⟨gb410, 1, none⟩ = some (.int .i64 t402) := (blk_cell BK410.out 1).trans rfl; have hcz92_2 : w91.cell? ⟨gb410, 2, none⟩ = some (.int .i64 t403) := (blk_cell BK410.out 2).trans rfl; have hfz92_0 := blk_frozen BK410.out 0; have hfz92_1 := blk_frozen BK410.out 1; have hfz92_2 := blk_frozen BK410.out 2) | (go_at_call 57; (try simp only [i64_w, i32_w]); (with_reducible refine (impl_CenterLine.calls k t401 t402 t403 _ _ t404 _ _ t407 t415 false _ ?side1 ?side2 ?side3 ?side4 A5.out).mono ?_); (case side1 => repeat (first | exact (Kd.R_reads' HO406.out).2.2 | (with_reducible refine Kd.C_alloc ?_ _) | (with_reducible refine Kd.C_drewN ?_ _) | (with_reducible refine Kd.C_drew ?_))); (case side2 => exact (Kd.R_reads' HO406.out).2.1); (case side3 => repeat (first | exact (Kd.Q_reads' HO409.out).2.2 | (with_reducible refine Kd.C_alloc ?_ _) | (with_reducible refine Kd.C_drewN ?_ _) | (with_reducible refine Kd.C_drew ?_))); (case side4 => exact (Kd.Q_reads' HO409.out).2.1); rintro e w93 ⟨v416, rfl, ho0, hb⟩; have n0_ := Aside0.mk (Kd.R_elder' (by (with_reducible repeat (first | apply Kd.R_alloc | apply Kd.R_drewN | apply Kd.R_drew)); exact HO406.out) (Kd.R_base ho0) hb); have n1_ := Aside0.mk (Kd.Q_elder' (by (with_reducible repeat (first | apply Kd.Q_alloc | apply Kd.Q_drewN | apply Kd.Q_drew)); exact HO409.out) (Kd.R_base ho0) hb); have n2_ := Aside0.mk (Kd.R_elder' (by (with_reducible repeat (first | apply Kd.R_alloc | apply Kd.R_drewN | apply Kd.R_drew)); exact HO413.out) (Kd.R_base ho0) hb); have n3_ := Aside0.mk (Kd.R_lower (Kd.R_new' (Kd.R_new' (Kd.R_new' ho0 (Kd.R_lt (by (with_reducible repeat (first | apply Kd.R_alloc | apply Kd.R_drewN | apply Kd.R_drew)); exact HO406.out))) (Kd.Q_lt (by (with_reducible repeat (first | apply Kd.Q_alloc | apply Kd.Q_drewN | apply Kd.Q_drew)); exact HO409.out))) (Kd.R_lt (by (with_reducible repeat (first | apply Kd.R_alloc | apply Kd.R_drewN | apply Kd.R_drew)); exact HO413.out))) (below_size (by repeat (first | (with_reducible first | exact HB.out | apply below_alloc | apply pw_below_drewN | apply below_drew1 | refine below_set ?_ GE410.out) | exact HB.out)))); have n4_ := Aside0.mk (blk_below (g := gb410) (o := .cells #[.int .i64 t401, .int .i64 t402, .int .i64 t403] 25 (0, 0)) (by (with_reducible repeat (first | refine blk_drewN ?_ _ | refine blk_drew ?_ | refine blk_alloc ?_ _)); exact BK410.out) hb); have n5_ := Aside0.mk (below_step (by first | (with_reducible exact pw_below_drewN HB.out _) | repeat (first | (with_reducible first | exact HB.out | apply below_alloc | apply pw_below_drewN | apply below_drew1 | refine below_set ?_ GE410.out) | exact HB.out)) hb); clear HO406; clear HO409; clear HO413; clear BK410; clear HB; have HO406 := n0_; have HO409 := n1_; have HO413 := n2_; have HO417 := n3_; have BK410 := n4_; have HB := n5_; clear n0_ n1_ n2_ n3_ n4_ n5_; (try clear hb); (try clear hb2); (try clear hk); (try clear hi); (try clear ho0); have hcz94_0 : w93.cell? ⟨gb410, 0, none⟩ = some (.int .i64 t401) := (blk_cell BK410.out 0).trans rfl; have hcz94_1 : w93.cell? ⟨gb410, 1, none⟩ = some (.int .i64 t402) := (blk_cell BK410.out 1).trans rfl; have hcz94_2 : w93.cell? ⟨gb410, 2, none⟩ = some (.int .i64 t403) := (blk_cell BK410.out 2).trans rfl; have hfz94_0 := blk_frozen BK410.out 0; have hfz94_1 := blk_frozen BK410.out 1; have hfz94_2 := blk_frozen BK410.out 2) | (go_at_call 58; (try simp only [i64_w, i32_w]); (with_reducible refine (spec_QuadLine.calls k t401 t402 t403 _ _ t404 _ _ t407 t419 false _ ?side1 ?side2 ?side3 ?side4 A6.out).mono ?_); (case side1 => repeat (first | exact (Kd.R_reads' HO406.out).2.2 | (with_reducible refine Kd.C_alloc ?_ _) | (with_reducible refine Kd.C_drewN ?_ _) | (with_reducible refine Kd.C_drew ?_))); (case side2 => exact (Kd.R_reads' HO406.out).2.1); (case side3 => repeat (first | exact (Kd.Q_reads' HO409.out).2.2 | (with_reducible refine Kd.C_alloc ?_ _) | (with_reducible refine Kd.C_drewN ?_ _) | (with_reducible refine Kd.C_drew ?_))); (case side4 => exact (Kd.Q_reads' HO409.out).2.1); rintro e w95 ⟨v420, rfl, ho0, hb⟩; have n0_ := Aside0.mk (Kd.R_elder' (by (with_reducible repeat (first | apply Kd.R_alloc | apply Kd.R_drewN | apply Kd.R_drew)); exact HO406.out) (Kd.R_base ho0) hb); have n1_ := Aside0.mk (Kd.Q_elder' (by (with_reducible repeat (first | apply Kd.Q_alloc | apply Kd.Q_drewN | apply Kd.Q_drew)); exact HO409.out) (Kd.R_base ho0) hb); have n2_ := Aside0.mk (Kd.R_elder' (by (with_reducible repeat (first | apply Kd.R_alloc | apply Kd.R_drewN | apply Kd.R_drew)); exact HO413.out) (Kd.R_base ho0) hb); have n3_ := Aside0.mk (Kd.R_elder' (by (with_reducible repeat (first | apply Kd.R_alloc | apply Kd.R_drewN | apply Kd.R_drew)); exact HO417.out) (Kd.R_base ho0) hb); have n4_ := Aside0.mk (Kd.R_lower (Kd.R_new' (Kd.R_new' (Kd.R_new' (Kd.R_new' ho0 (Kd.R_lt (by (with_reducible repeat (first | apply Kd.R_alloc | apply Kd.R_drewN | apply Kd.R_drew)); exact HO406.out))) (Kd.Q_lt (by (with_reducible repeat (first | apply Kd.Q_alloc | apply Kd.Q_drewN | apply Kd.Q_drew)); exact HO409.out))) (Kd.R_lt (by (with_reducible repeat (first | apply Kd.R_alloc | apply Kd.R_drewN | apply Kd.R_drew)); exact HO413.out))) (Kd.R_lt (by (with_reducible repeat (first | apply Kd.R_alloc | apply Kd.R_drewN | apply Kd.R_drew)); exact HO417.out))) (below_size (by repeat (first | (with_reducible first | exact HB.out | apply below_alloc | apply pw_below_drewN | apply below_drew1 | refine below_set ?_ GE410.out) | exact HB.out)))); have n5_ := Aside0.mk (blk_below (g := gb410) (o := .cells #[.int .i64 t401, .int .i64 t402, .int .i64 t403] 25 (0, 0)) (by (with_reducible repeat (first | refine blk_drewN ?_ _ | refine blk_drew ?_ | refine blk_alloc ?_ _)); exact BK410.out) hb); have n6_ := Aside0.mk (below_step (by first | (with_reducible exact pw_below_drewN HB.out _) | repeat (first | (with_reducible first | exact HB.out | apply below_alloc | apply pw_below_drewN | apply below_drew1 | refine below_set ?_ GE410.out) | exact HB.out)) hb); clear HO406; clear HO409; clear HO413; clear HO417; clear BK410; clear HB; have HO406 := n0_; have HO409 := n1_; have HO413 := n2_; have HO417 := n3_; have HO421 := n4_; have BK410 := n5_; have HB := n6_; clear n0_ n1_ n2_ n3_ n4_ n5_ n6_; (try clear hb); (try clear hb2); (try clear hk); (try clear hi); (try clear ho0); obtain ⟨Ao96, co96, eo96⟩ := Kd.R_slice HO421.out; subst eo96)); try go_wp2_with (first | (go_at_call 63; (try simp only [i64_w, i32_w]); (with_reducible refine (spec_DrawQuadLine.calls k _ _ l0 t401 t402 t403 t404 t407 _ ?side1 ?side2 A3.out).mono ?_); (case side1 => repeat (first | exact HR0.out | (with_reducible refine Kd.C_alloc ?_ _) | (with_reducible refine Kd.C_drewN ?_ _) | (with_reducible refine Kd.C_drew ?_))); (case side2 => exact HC0.out); rintro e w86 ⟨v405, v408, rfl, ho0, ho1, hb⟩; have n0_ := Aside0.mk (Kd.R_lower ho0 (below_size (by repeat (first | (with_reducible first | exact HB.out | apply below_alloc | apply pw_below_drewN | apply below_drew1) | exact HB.out)))); have n1_ := Aside0.mk (Kd.Q_lower ho1 (below_size (by repeat (first | (with_reducible first | exact HB.out | apply below_alloc | apply pw_below_drewN | apply below_drew1) | exact HB.out)))); have n2_ := Aside0.mk (below_step (by first | (with_reducible exact pw_below_drewN HB.out _) | repeat (first | (with_reducible first | exact HB.out | apply below_alloc | apply pw_below_drewN | apply below_drew1) | exact HB.out)) hb); clear HB; have HO406 := n0_; have HO409 := n1_; have HB := n2_; clear n0_ n1_ n2_; (try clear hb); (try clear hb2); (try clear hk); (try clear hi); (try clear ho0); (try clear ho1)) | ((with_reducible refine gate_dst (N := 3) rfl ?_); (try (refine gate_guard (by rfl) ?_; dsimp only)); refine box_event ?hg (N := 3) ?hd (cs := #[.int .i64 0, .int .i64 0, .int .i64 0]) (t := 25) ?hr ?_; (case hd => rfl); (case hg => rfl); (case hr => first | (go_simp; done) | (go_simp; rfl)); intro gb410 hg w87 hbox hb; have n0_ := Aside0.mk (Kd.R_below (by (with_reducible repeat (first | apply Kd.R_alloc | apply Kd.R_drewN | apply Kd.R_drew)); exact HO406.out) hb); have n1_ := Aside0.mk (Kd.Q_below (by (with_reducible repeat (first | apply Kd.Q_alloc | apply Kd.Q_drewN | apply Kd.Q_drew)); exact HO409.out) hb); have n2_ := Aside0.mk (below_step (by first | (with_reducible exact pw_below_drewN HB.out _) | repeat (first | (with_reducible first | exact HB.out | apply below_alloc | apply pw_below_drewN | apply below_drew1) | exact HB.out)) hb); have n3_ := Aside0.mk (hbox); have n4_ := Aside0.mk ((by rw [hg]; exact (below_size (by repeat (first | (with_reducible first | exact HB.out | apply below_alloc | apply pw_below_drewN | apply below_drew1) | exact HB.out))) : w.heap.size ≤ gb410)); have n5_ := Aside0.mk ((by rw [hg]; exact (below_size (by repeat (first | (with_reducible first | exact HB.out | apply below_alloc | apply pw_below_drewN | apply below_drew1) | exact HB.out))) : w.heap.size ≤ gb410)); clear HO406; clear HO409; clear HB; have HO406 := n0_; have HO409 := n1_; have HB := n2_; have BK410 := n3_; have GW410 := n4_; have GE410 := n5_; clear n0_ n1_ n2_ n3_ n4_ n5_; clear hb hbox hg; have hcz88_0 : w87.cell? ⟨gb410, 0, none⟩ = some (.int .i64 0) := (blk_cell BK410.out 0).trans rfl; have hcz88_1 : w87.cell? ⟨gb410, 1, none⟩ = some (.int .i64 0) := (blk_cell BK410.out 1).trans rfl; have hcz88_2 : w87.cell? ⟨gb410, 2, none⟩ = some (.int .i64 0) := (blk_cell BK410.out 2).trans rfl; have hfz88_0 := blk_frozen BK410.out 0; have hfz88_1 := blk_frozen BK410.out 1; have hfz88_2 := blk_frozen BK410.out 2; obtain ⟨Ao89, co89, eo89⟩ := Kd.R_slice HO406.out; subst eo89; obtain ⟨Ao90, co90, eo90, _⟩ := Kd.Q_slice HO409.out; subst eo90) | (go_at_call 59; (try simp only [i64_w, i32_w]); (with_reducible refine (impl_QuadLine.calls k t401 t402 t403 _ _ t404 _ _ t407 t411 false _ ?side1 ?side2 ?side3 ?side4 A4.out).mono ?_); (case side1 => refine (Kd.R_reads' (e := 3) (base := w.heap.size) (ok := fun k_ => some k_ ≠ (.slice Ao90 t407.length co90 : Value).ownBlock) (n := t404.length) (c := co89) ?_).2.2; exact (by (with_reducible repeat (first | apply Kd.R_alloc | apply Kd.R_drewN | apply Kd.R_drew)); exact (Kd.R_mono (Kd.R_far (p := ⟨gb410, 2, none⟩) (Kd.R_far (p := ⟨gb410, 1, none⟩) (Kd.R_far (p := ⟨gb410, 0, none⟩) (Kd.R_types HO406.out BK410.out (by decide)) (fun _ hk => hk.2) (.int .i64 t401)) (fun _ hk => hk.2) (.int .i64 t402)) (fun _ hk => hk.2) (.int .i64 t403)) (fun _ h_ => h_.1)))); (case side2 => exact (Kd.R_reads' HO406.out).2.1); (case side3 => refine (Kd.Q_reads' (e := 3) (base := w.heap.size) (ok := fun k_ => some k_ ≠ (.slice Ao89 t404.length co89 : Value).ownBlock) (n := t407.length) (c := co90) ?_).2.2; exact (by (with_reducible repeat (first | apply Kd.Q_alloc | apply Kd.Q_drewN | apply Kd.Q_drew)); exact (Kd.Q_mono (Kd.Q_far (p := ⟨gb410, 2, none⟩) (Kd.Q_far (p := ⟨gb410, 1, none⟩) (Kd.Q_far (p := ⟨gb410, 0, none⟩) (Kd.Q_types HO409.out BK410.out (by decide)) (fun _ hk => hk.2) (.int .i64 t401)) (fun _ hk => hk.2) (.int .i64 t402)) (fun _ hk => hk.2) (.int .i64 t403)) (fun _ h_ => h_.1)))); (case side4 => exact (Kd.Q_reads' HO409.out).2.1); rintro e w91 ⟨v412, rfl, ho0, hb⟩; have n0_ := Aside0.mk (Kd.R_elder' (by (with_reducible repeat (first | apply Kd.R_alloc | apply Kd.R_drewN | apply Kd.R_drew)); exact (Kd.R_mono (Kd.R_far (p := ⟨gb410, 2, none⟩) (Kd.R_far (p := ⟨gb410, 1, none⟩) (Kd.R_far (p := ⟨gb410, 0, none⟩) (Kd.R_types HO406.out BK410.out (by decide)) (fun _ hk => hk.2) (.int .i64 t401)) (fun _ hk => hk.2) (.int .i64 t402)) (fun _ hk => hk.2) (.int .i64 t403)) (fun _ h_ => h_.1))) (Kd.R_base ho0) hb); have n1_ := Aside0.mk (Kd.Q_elder' (by (with_reducible repeat (first | apply Kd.Q_alloc | apply Kd.Q_drewN | apply Kd.Q_drew)); exact (Kd.Q_mono (Kd.Q_far (p := ⟨gb410, 2, none⟩) (Kd.Q_far (p := ⟨gb410, 1, none⟩) (Kd.Q_far (p := ⟨gb410, 0, none⟩) (Kd.Q_types HO409.out BK410.out (by decide)) (fun _ hk => hk.2) (.int .i64 t401)) (fun _ hk => hk.2) (.int .i64 t402)) (fun _ hk => hk.2) (.int .i64 t403)) (fun _ h_ => h_.1))) (Kd.R_base ho0) hb); have n2_ := Aside0.mk (Kd.R_lower (Kd.R_new' (Kd.R_new' ho0 (Kd.R_lt (by (with_reducible repeat (first | apply Kd.R_alloc | apply Kd.R_drewN | apply Kd.R_drew)); exact (Kd.R_mono (Kd.R_far (p := ⟨gb410, 2, none⟩) (Kd.R_far (p := ⟨gb410, 1, none⟩) (Kd.R_far (p := ⟨gb410, 0, none⟩) (Kd.R_types HO406.out BK410.out (by decide)) (fun _ hk => hk.2) (.int .i64 t401)) (fun _ hk => hk.2) (.int .i64 t402)) (fun _ hk => hk.2) (.int .i64 t403)) (fun _ h_ => h_.1))))) (Kd.Q_lt (by (with_reducible repeat (first | apply Kd.Q_alloc | apply Kd.Q_drewN | apply Kd.Q_drew)); exact (Kd.Q_mono (Kd.Q_far (p := ⟨gb410, 2, none⟩) (Kd.Q_far (p := ⟨gb410, 1, none⟩) (Kd.Q_far (p := ⟨gb410, 0, none⟩) (Kd.Q_types HO409.out BK410.out (by decide)) (fun _ hk => hk.2) (.int .i64 t401)) (fun _ hk => hk.2) (.int .i64 t402)) (fun _ hk => hk.2) (.int .i64 t403)) (fun _ h_ => h_.1))))) (below_size (by repeat (first | (with_reducible first | exact HB.out | apply below_alloc | apply pw_below_drewN | apply below_drew1 | refine below_set ?_ GE410.out) | exact HB.out)))); have n3_ := Aside0.mk (blk_below (g := gb410) (o := .cells #[.int .i64 t401, .int .i64 t402, .int .i64 t403] 25 (0, 0)) (by (with_reducible repeat (first | refine blk_drewN ?_ _ | refine blk_drew ?_ | refine blk_alloc ?_ _)); refine blk_put (cs := #[.int .i64 t401, .int .i64 t402, .int .i64 0]) ?_ 2 _ rfl; (with_reducible repeat (first | refine blk_drewN ?_ _ | refine blk_drew ?_ | refine blk_alloc ?_ _)); refine blk_put (cs := #[.int .i64 t401, .int .i64 0, .int .i64 0]) ?_ 1 _ rfl; (with_reducible repeat (first | refine blk_drewN ?_ _ | refine blk_drew ?_ | refine blk_alloc ?_ _)); refine blk_put (cs := #[.int .i64 0, .int .i64 0, .int .i64 0]) ?_ 0 _ rfl; (with_reducible repeat (first | refine blk_drewN ?_ _ | refine blk_drew ?_ | refine blk_alloc ?_ _)); exact BK410.out) hb); have n4_ := Aside0.mk (below_step (by first | (with_reducible exact pw_below_drewN HB.out _) | repeat (first | (with_reducible first | exact HB.out | apply below_alloc | apply pw_below_drewN | apply below_drew1 | refine below_set ?_ GE410.out) | exact HB.out)) hb); clear HO406; clear HO409; clear BK410; clear HB; have HO406 := n0_; have HO409 := n1_; have HO413 := n2_; have BK410 := n3_; have HB := n4_; clear n0_ n1_ n2_ n3_ n4_; (try clear hb); (try clear hb2); (try clear hk); (try clear hi); (try clear ho0); have hcz92_0 : w91.cell? ⟨gb410, 0, none⟩ = some (.int .i64 t401) := (blk_cell BK410.out 0).trans rfl; have hcz92_1 : w91.cell? ⟨gb410, 1, none⟩ = some (.int .i64 t402) := (blk_cell BK410.out 1).trans rfl; have hcz92_2 : w91.cell? ⟨gb410, 2, none⟩ = some (.int .i64 t403) := (blk_cell BK410.out 2).trans rfl; have hfz92_0 := blk_frozen BK410.out 0; have hfz92_1 := blk_frozen BK410.out 1; have hfz92_2 := blk_frozen BK410.out 2) | (go_at_call 57; (try simp only [i64_w, i32_w]); (with_reducible refine (impl_CenterLine.calls k t401 t402 t403 _ _ t404 _ _ t407 t415 false _ ?side1 ?side2 ?side3 ?side4 A5.out).mono ?_); (case side1 => repeat (first | exact (Kd.R_reads' HO406.out).2.2 | (with_reducible refine Kd.C_alloc ?_ _) | (with_reducible refine Kd.C_drewN ?_ _) | (with_reducible refine Kd.C_drew ?_))); (case side2 => exact (Kd.R_reads' HO406.out).2.1); (case side3 => repeat (first | exact (Kd.Q_reads' HO409.out).2.2 | (with_reducible refine Kd.C_alloc ?_ _) | (with_reducible refine Kd.C_drewN ?_ _) | (with_reducible refine Kd.C_drew ?_))); (case side4 => exact (Kd.Q_reads' HO409.out).2.1); rintro e w93 ⟨v416, rfl, ho0, hb⟩; have n0_ := Aside0.mk (Kd.R_elder' (by (with_reducible repeat (first | apply Kd.R_alloc | apply Kd.R_drewN | apply Kd.R_drew)); exact HO406.out) (Kd.R_base ho0) hb); have n1_ := Aside0.mk (Kd.Q_elder' (by (with_reducible repeat (first | apply Kd.Q_alloc | apply Kd.Q_drewN | apply Kd.Q_drew)); exact HO409.out) (Kd.R_base ho0) hb); have n2_ := Aside0.mk (Kd.R_elder' (by (with_reducible repeat (first | apply Kd.R_alloc | apply Kd.R_drewN | apply Kd.R_drew)); exact HO413.out) (Kd.R_base ho0) hb); have n3_ := Aside0.mk (Kd.R_lower (Kd.R_new' (Kd.R_new' (Kd.R_new' ho0 (Kd.R_lt (by (with_reducible repeat (first | apply Kd.R_alloc | apply Kd.R_drewN | apply Kd.R_drew)); exact HO406.out))) (Kd.Q_lt (by (with_reducible repeat (first | apply Kd.Q_alloc | apply Kd.Q_drewN | apply Kd.Q_drew)); exact HO409.out))) (Kd.R_lt (by (with_reducible repeat (first | apply Kd.R_alloc | apply Kd.R_drewN | apply Kd.R_drew)); exact HO413.out))) (below_size (by repeat (first | (with_reducible first | exact HB.out | apply below_alloc | apply pw_below_drewN | apply below_drew1 | refine below_set ?_ GE410.out) | exact HB.out)))); have n4_ := Aside0.mk (blk_below (g := gb410) (o := .cells #[.int .i64 t401, .int .i64 t402, .int .i64 t403] 25 (0, 0)) (by (with_reducible repeat (first | refine blk_drewN ?_ _ | refine blk_drew ?_ | refine blk_alloc ?_ _)); exact BK410.out) hb); have n5_ := Aside0.mk (below_step (by first | (with_reducible exact pw_below_drewN HB.out _) | repeat (first | (with_reducible first | exact HB.out | apply below_alloc | apply pw_below_drewN | apply below_drew1 | refine below_set ?_ GE410.out) | exact HB.out)) hb); clear HO406; clear HO409; clear HO413; clear BK410; clear HB; have HO406 := n0_; have HO409 := n1_; have HO413 := n2_; have HO417 := n3_; have BK410 := n4_; have HB := n5_; clear n0_ n1_ n2_ n3_ n4_ n5_; (try clear hb); (try clear hb2); (try clear hk); (try clear hi); (try clear ho0); have hcz94_0 : w93.cell? ⟨gb410, 0, none⟩ = some (.int .i64 t401) := (blk_cell BK410.out 0).trans rfl; have hcz94_1 : w93.cell? ⟨gb410, 1, none⟩ = some (.int .i64 t402) := (blk_cell BK410.out 1).trans rfl; have hcz94_2 : w93.cell? ⟨gb410, 2, none⟩ = some (.int .i64 t403) := (blk_cell BK410.out 2).trans rfl; have hfz94_0 := blk_frozen BK410.out 0; have hfz94_1 := blk_frozen BK410.out 1; have hfz94_2 := blk_frozen BK410.out 2) | (go_at_call 58; (try simp only [i64_w, i32_w]); (with_reducible refine (spec_QuadLine.calls k t401 t402 t403 _ _ t404 _ _ t407 t419 false _ ?side1 ?side2 ?side3 ?side4 A6.out).mono ?_); (case side1 => repeat (first | exact (Kd.R_reads' HO406.out).2.2 | (with_reducible refine Kd.C_alloc ?_ _) | (with_reducible refine Kd.C_drewN ?_ _) | (with_reducible refine Kd.C_drew ?_))); (case side2 => exact (Kd.R_reads' HO406.out).2.1); (case side3 => repeat (first | exact (Kd.Q_reads' HO409.out).2.2 | (with_reducible refine Kd.C_alloc ?_ _) | (with_reducible refine Kd.C_drewN ?_ _) | (with_reducible refine Kd.C_drew ?_))); (case side4 => exact (Kd.Q_reads' HO409.out).2.1); rintro e w95 ⟨v420, rfl, ho0, hb⟩; have n0_ := Aside0.mk (Kd.R_elder' (by (with_reducible repeat (first | apply Kd.R_alloc | apply Kd.R_drewN | apply Kd.R_drew)); exact HO406.out) (Kd.R_base ho0) hb); have n1_ := Aside0.mk (Kd.Q_elder' (by (with_reducible repeat (first | apply Kd.Q_alloc | apply Kd.Q_drewN | apply Kd.Q_drew)); exact HO409.out) (Kd.R_base ho0) hb); have n2_ := Aside0.mk (Kd.R_elder' (by (with_reducible repeat (first | apply Kd.R_alloc | apply Kd.R_drewN | apply Kd.R_drew)); exact HO413.out) (Kd.R_base ho0) hb); have n3_ := Aside0.mk (Kd.R_elder' (by (with_reducible repeat (first | apply Kd.R_alloc | apply Kd.R_drewN | apply Kd.R_drew)); exact HO417.out) (Kd.R_base ho0) hb); have n4_ := Aside0.mk (Kd.R_lower (Kd.R_new' (Kd.R_new' (Kd.R_new' (Kd.R_new' ho0 (Kd.R_lt (by (with_reducible repeat (first | apply Kd.R_alloc | apply Kd.R_drewN | apply Kd.R_drew)); exact HO406.out))) (Kd.Q_lt (by (with_reducible repeat (first | apply Kd.Q_alloc | apply Kd.Q_drewN | apply Kd.Q_drew)); exact HO409.out))) (Kd.R_lt (by (with_reducible repeat (first | apply Kd.R_alloc | apply Kd.R_drewN | apply Kd.R_drew)); exact HO413.out))) (Kd.R_lt (by (with_reducible repeat (first | apply Kd.R_alloc | apply Kd.R_drewN | apply Kd.R_drew)); exact HO417.out))) (below_size (by repeat (first | (with_reducible first | exact HB.out | apply below_alloc | apply pw_below_drewN | apply below_drew1 | refine below_set ?_ GE410.out) | exact HB.out)))); have n5_ := Aside0.mk (blk_below (g := gb410) (o := .cells #[.int .i64 t401, .int .i64 t402, .int .i64 t403] 25 (0, 0)) (by (with_reducible repeat (first | refine blk_drewN ?_ _ | refine blk_drew ?_ | refine blk_alloc ?_ _)); exact BK410.out) hb); have n6_ := Aside0.mk (below_step (by first | (with_reducible exact pw_below_drewN HB.out _) | repeat (first | (with_reducible first | exact HB.out | apply below_alloc | apply pw_below_drewN | apply below_drew1 | refine below_set ?_ GE410.out) | exact HB.out)) hb); clear HO406; clear HO409; clear HO413; clear HO417; clear BK410; clear HB; have HO406 := n0_; have HO409 := n1_; have HO413 := n2_; have HO417 := n3_; have HO421 := n4_; have BK410 := n5_; have HB := n6_; clear n0_ n1_ n2_ n3_ n4_ n5_ n6_; (try clear hb); (try clear hb2); (try clear hk); (try clear hi); (try clear ho0); obtain ⟨Ao96, co96, eo96⟩ := Kd.R_slice HO421.out; subst eo96)))
          go_ret
          exact ⟨by first | rfl | (simp only [i64_w, i32_w]; rfl) | (simp only [i64_w, i32_w, wrap64_zero, Int.sub_zero, Int.add_zero, Int.mul_zero, Int.zero_mul]; rfl) | (simp [errW_none, errW_some] <;> rfl) | (simp [*, errW_none, errW_some] <;> rfl), by repeat (first | (with_reducible first | exact HB.out | apply below_alloc | apply pw_below_drewN | apply below_drew1 | refine below_set ?_ GE410.out) | exact HB.out)⟩

/-- THE ONE PURE STATEMENT of laws_FnQuads: yours. -/
def laws_FnQuads.Pure : Prop := ∀ (l0 : List Int), l0.length ≤ maxLen → l0.length * 1 ≤ 140737488351232 → (∀ x ∈ l0, (Lit.int .u8 x).wf = true) → ∃ k, laws_FnQuads.f k l0 = some true
theorem laws_FnQuads.walk (P : laws_FnQuads.Pure) (a0 : Option Addr) (len0 cap0 : Nat) (z0 : List Int) (w : World) (w0 : (a0 = none ∧ len0 = 0 ∧ cap0 = 0 ∧ z0 = []) ∨ ∃ x, a0 = some x ∧ len0 ≤ cap0 ∧ cap0 ≤ maxLen ∧ z0.length = cap0 ∧ (∀ i, i < z0.length → w.cell? (x.add i) = some (.int .u8 (z0.getD i 0))) ∧ ∀ n ∈ z0, (Lit.int .u8 n).wf = true) (y0 : len0 * 1 ≤ 140737488351232) :
    Calls Try.prog 22 #[.slice a0 len0 cap0] w fun e w' => e = .returned (.bool true) ∧ Below w.heap.size w w' := by
  obtain ⟨l0, rfl, hr0, hm0, hw0, hc0⟩ := ReadsInt.ofRowC w0
  obtain ⟨k, h⟩ := P l0 hm0 y0 hw0
  refine (laws_FnQuads.calls k _ _ l0 true w (Kd.C_of_reads (d := (0 : Int)) (h1 := fun _ => rfl) hr0) hc0 h).mono ?_
  rintro e w' ⟨rfl, hd⟩
  exact ⟨rfl, hd⟩

end Go.Proofs.Ytnkpblbofjchaaa.Q
