/- Bars and where matrices fall: what the program's and the reference's functions give. Conditions: the lists are no longer than 2^40. -/
import Derived.Test.YtilbngklgjjblaaP0
import Derived.Test.YtilbngklgjjblaaQ3
import Derived.Test.YtilbngklgjjblaaQ6
import Derived.Test.YtilbngklgjjblaaQ7
namespace Go.Proofs.Ytilbngklgjjblaa.Q
open Go.RowKit Go.Proofs.YtilbngklgjjblaaW.PrintWords Go.Proofs.YtilbngklgjjblaaW.PrintLast Go.Proofs.YtilbngklgjjblaaW.PrintMore
set_option linter.unusedVariables false
set_option linter.unusedSimpArgs false
def isSetB (s : Int) : Bool := decide (0 ≤ s) && decide (s ≤ 127)
theorem l1In_eq (a b c : Int) : spec_l1In.f a b c = some (decide (b ≤ a) && decide (a ≤ c)) := by
  unfold spec_l1In.f
  by_cases h : a ≥ b
  · rw [if_pos h]; simp [show b ≤ a from h]
  · rw [if_neg h]; simp [show ¬ b ≤ a from h]
theorem l1Set_eq (s : Int) : spec_l1Set.f s = some (isSetB s) := by
  unfold spec_l1Set.f
  rw [l1In_eq]; rfl
theorem isBar_eq (l : List Int) : impl_IsBar.f l = some (isBar l) := rfl
theorem spec_IsBar_ev (l : List Int) (hl : l.length ≤ 1099511627776) : Ev (fun k => spec_IsBar.f k l) (isBar l) := by
  have main : ∀ i, i ≤ l.length → Ev (fun k => spec_IsBar.l0 k l l (l.length : Int) (i : Int)) ((decide (1 ≤ l.length) && decide (l.length ≤ 40)) && (l.drop i).all isSetB) := by
    refine ev_down0 (fun k i => spec_IsBar.l0 k l l (l.length : Int) i) l.length (fun i => (decide (1 ≤ l.length) && decide (l.length ≤ 40)) && (l.drop i).all isSetB) ?_ ?_
    · refine ev_step1 (fun k => ?_)
      simp only [spec_IsBar.l0]
      rw [if_neg (by omega), l1In_eq]
      simp
      rw [show decide (1 ≤ (l.length : Int)) = decide (1 ≤ l.length) from decide_eq_decide.2 (by omega), show decide ((l.length : Int) ≤ 40) = decide (l.length ≤ 40) from decide_eq_decide.2 (by omega)]
    · intro i hi ih
      rw [List.drop_eq_getElem_cons hi, List.all_cons]
      cases e : isSetB l[i] with
      | true =>
        refine Ev.step (f := fun k => spec_IsBar.l0 k l l (l.length : Int) ((i + 1 : Nat) : Int)) (fun k => ?_) (by simpa using ih)
        simp only [spec_IsBar.l0]
        rw [if_pos (by omega), if_pos (by omega), if_pos (by omega), rd_nat l i hi, l1Set_eq, e, Option.bind_some, if_pos rfl, w1 i (by omega)]
      | false =>
        refine ev_step1 (fun k => ?_)
        simp only [spec_IsBar.l0]
        rw [if_pos (by omega), if_pos (by omega), if_pos (by omega), rd_nat l i hi, l1Set_eq, e, Option.bind_some, if_neg (by decide)]
        simp
  have h := main 0 (by omega)
  rw [List.drop_zero] at h
  exact h
def partB (s t : Int) : Bool := (Go.bits .andNot .i64 s t) == 0
theorem impl_part_eq (s t : Int) : impl_part.f s t = some (partB s t) := rfl
theorem spec_part_eq (s t : Int) : spec_l1Part.f s t = some (partB s t) := rfl
/-- The place, or the end, where a matrix falls. -/
def fallN (bar : List Int) (s : Int) : Nat := bar.findIdx (partB s)
def fallFrom (bar : List Int) (s : Int) (i : Nat) : Int := ((i + (bar.drop i).findIdx (partB s) : Nat) : Int)
theorem fallFrom_zero (bar : List Int) (s : Int) : fallFrom bar s 0 = (fallN bar s : Int) := by simp [fallFrom, fallN]
theorem fallFrom_hit (bar : List Int) (s : Int) (i : Nat) (h : i < bar.length) (e : partB s bar[i] = true) : fallFrom bar s i = (i : Int) := by
  unfold fallFrom
  rw [List.drop_eq_getElem_cons h, List.findIdx_cons, e]; rfl
theorem fallFrom_miss (bar : List Int) (s : Int) (i : Nat) (h : i < bar.length) (e : partB s bar[i] = false) : fallFrom bar s i = fallFrom bar s (i + 1) := by
  unfold fallFrom
  rw [List.drop_eq_getElem_cons h, List.findIdx_cons, e]
  simp; omega
theorem impl_fall_ev (bar : List Int) (s : Int) (hl : bar.length ≤ 1099511627776) : Ev (fun k => impl_fall.f k bar s) (fallN bar s : Int) := by
  have main : ∀ i, i ≤ bar.length → Ev (fun k => impl_fall.l0 k bar s bar (bar.length : Int) (i : Int)) (fallFrom bar s i) := by
    refine ev_down0 (fun k i => impl_fall.l0 k bar s bar (bar.length : Int) i) bar.length (fun i => fallFrom bar s i) ?_ ?_
    · refine ev_step1 (fun k => ?_)
      simp only [impl_fall.l0]
      rw [if_neg (by omega)]
      simp [fallFrom]
    · intro i hi ih
      cases e : partB s bar[i] with
      | true =>
        refine ev_step1 (fun k => ?_)
        simp only [impl_fall.l0]
        rw [if_pos (by omega), if_pos (by omega), if_pos (by omega), rd_nat bar i hi, impl_part_eq, e, Option.bind_some, if_pos rfl, fallFrom_hit bar s i hi e]
      | false =>
        rw [fallFrom_miss bar s i hi e]
        refine Ev.step (f := fun k => impl_fall.l0 k bar s bar (bar.length : Int) ((i + 1 : Nat) : Int)) (fun k => ?_) ih
        simp only [impl_fall.l0]
        rw [if_pos (by omega), if_pos (by omega), if_pos (by omega), rd_nat bar i hi, impl_part_eq, e, Option.bind_some, if_neg (by decide), w1 i (by omega)]
  have h := main 0 (by omega)
  rw [fallFrom_zero] at h
  exact h
theorem spec_fall_ev (bar : List Int) (s : Int) (hl : bar.length ≤ 1099511627776) : Ev (fun k => spec_l1Fall.f k bar s) (fallN bar s : Int) := by
  have main : ∀ i, i ≤ bar.length → Ev (fun k => spec_l1Fall.l0 k bar s bar (bar.length : Int) (i : Int)) (fallFrom bar s i) := by
    refine ev_down0 (fun k i => spec_l1Fall.l0 k bar s bar (bar.length : Int) i) bar.length (fun i => fallFrom bar s i) ?_ ?_
    · refine ev_step1 (fun k => ?_)
      simp only [spec_l1Fall.l0]
      rw [if_neg (by omega)]
      simp [fallFrom]
    · intro i hi ih
      cases e : partB s bar[i] with
      | true =>
        refine ev_step1 (fun k => ?_)
        simp only [spec_l1Fall.l0]
        rw [if_pos (by omega), if_pos (by omega), if_pos (by omega), rd_nat bar i hi, spec_part_eq, e, Option.bind_some, if_pos rfl, fallFrom_hit bar s i hi e]
      | false =>
        rw [fallFrom_miss bar s i hi e]
        refine Ev.step (f := fun k => spec_l1Fall.l0 k bar s bar (bar.length : Int) ((i + 1 : Nat) : Int)) (fun k => ?_) ih
        simp only [spec_l1Fall.l0]
        rw [if_pos (by omega), if_pos (by omega), if_pos (by omega), rd_nat bar i hi, spec_part_eq, e, Option.bind_some, if_neg (by decide), w1 i (by omega)]
  have h := main 0 (by omega)
  rw [fallFrom_zero] at h
  exact h
end Go.Proofs.Ytilbngklgjjblaa.Q
