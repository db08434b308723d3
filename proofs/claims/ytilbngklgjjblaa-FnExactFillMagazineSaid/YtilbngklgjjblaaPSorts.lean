/- Bars that sort all: what the program's and the reference's functions give. Conditions: the lists are no longer than 2^40. -/
import Derived.Test.YtilbngklgjjblaaP0
import Derived.Test.YtilbngklgjjblaaPBar
import Derived.Test.YtilbngklgjjblaaQ3
import Derived.Test.YtilbngklgjjblaaQ4
import Derived.Test.YtilbngklgjjblaaQ7
namespace Go.Proofs.Ytilbngklgjjblaa.Q
open Go.RowKit Go.Proofs.YtilbngklgjjblaaW.PrintWords Go.Proofs.YtilbngklgjjblaaW.PrintLast Go.Proofs.YtilbngklgjjblaaW.PrintMore
set_option linter.unusedVariables false
set_option linter.unusedSimpArgs false
/-- From place i on, each set falls at its own place. -/
def sortsFrom (bar : List Int) : Nat → List Int → Bool
  | _, [] => true
  | i, s :: rest => decide (fallN bar s = i) && sortsFrom bar (i + 1) rest
def sortsAll (bar : List Int) : Bool := isBar bar && sortsFrom bar 0 bar
theorem spec_SortsAll_ev (bar : List Int) (hl : bar.length ≤ 1099511627776) : Ev (fun k => spec_SortsAll.f k bar) (sortsAll bar) := by
  have main : ∀ i, i ≤ bar.length → Ev (fun k => spec_SortsAll.l0 k bar bar (bar.length : Int) (i : Int)) (isBar bar && sortsFrom bar i (bar.drop i)) := by
    refine ev_down0 (fun k i => spec_SortsAll.l0 k bar bar (bar.length : Int) i) bar.length (fun i => isBar bar && sortsFrom bar i (bar.drop i)) ?_ ?_
    · refine Ev.step (f := fun k => (spec_IsBar.f k bar).bind fun t => some t) (fun k => ?_) (Ev.bind (f := fun _ t => some t) (spec_IsBar_ev bar hl) ?_)
      · simp only [spec_SortsAll.l0]
        rw [if_neg (by omega)]
      · simp [sortsFrom]
        exact Ev.now _
    · intro i hi ih
      rw [List.drop_eq_getElem_cons hi, sortsFrom]
      by_cases e : fallN bar bar[i] = i
      · refine Ev.step (f := fun k => (spec_l1Fall.f k bar bar[i]).bind fun t => if t = (i : Int) then spec_SortsAll.l0 k bar bar (bar.length : Int) ((i + 1 : Nat) : Int) else some false) (fun k => ?_) (Ev.bind (f := fun k t => if t = (i : Int) then spec_SortsAll.l0 k bar bar (bar.length : Int) ((i + 1 : Nat) : Int) else some false) (spec_fall_ev bar bar[i] hl) ?_)
        · simp only [spec_SortsAll.l0]
          rw [if_pos (by omega), if_pos (by omega), if_pos (by omega), rd_nat bar i hi, w1 i (by omega)]
        · simp only [e, if_true, decide_true, Bool.true_and]
          exact ih
      · refine Ev.step (f := fun k => (spec_l1Fall.f k bar bar[i]).bind fun t => if t = (i : Int) then spec_SortsAll.l0 k bar bar (bar.length : Int) ((i + 1 : Nat) : Int) else some false) (fun k => ?_) (Ev.bind (f := fun k t => if t = (i : Int) then spec_SortsAll.l0 k bar bar (bar.length : Int) ((i + 1 : Nat) : Int) else some false) (spec_fall_ev bar bar[i] hl) ?_)
        · simp only [spec_SortsAll.l0]
          rw [if_pos (by omega), if_pos (by omega), if_pos (by omega), rd_nat bar i hi, w1 i (by omega)]
        · have e' : ¬ ((fallN bar bar[i] : Int) = (i : Int)) := by omega
          simp only [if_neg e', e, decide_false, Bool.false_and, Bool.and_false]
          exact Ev.now _
  have h := main 0 (by omega)
  rw [List.drop_zero] at h
  exact h
theorem impl_SortsAll_ev (bar : List Int) (hl : bar.length ≤ 1099511627776) : Ev (fun k => impl_SortsAll.f k bar) (sortsAll bar) := by
  have main : ∀ i, i ≤ bar.length → Ev (fun k => impl_SortsAll.l0 k bar bar (bar.length : Int) (i : Int)) (sortsFrom bar i (bar.drop i)) := by
    refine ev_down0 (fun k i => impl_SortsAll.l0 k bar bar (bar.length : Int) i) bar.length (fun i => sortsFrom bar i (bar.drop i)) ?_ ?_
    · refine ev_step1 (fun k => ?_)
      simp only [impl_SortsAll.l0]
      rw [if_neg (by omega)]
      simp [sortsFrom]
    · intro i hi ih
      rw [List.drop_eq_getElem_cons hi, sortsFrom]
      refine Ev.step (f := fun k => (impl_fall.f k bar bar[i]).bind fun t => if t = (i : Int) then impl_SortsAll.l0 k bar bar (bar.length : Int) ((i + 1 : Nat) : Int) else some false) (fun k => ?_) (Ev.bind (f := fun k t => if t = (i : Int) then impl_SortsAll.l0 k bar bar (bar.length : Int) ((i + 1 : Nat) : Int) else some false) (impl_fall_ev bar bar[i] hl) ?_)
      · simp only [impl_SortsAll.l0]
        rw [if_pos (by omega), if_pos (by omega), if_pos (by omega), rd_nat bar i hi, w1 i (by omega)]
      · by_cases e : fallN bar bar[i] = i
        · simp only [e, if_true, decide_true, Bool.true_and]
          exact ih
        · have e' : ¬ ((fallN bar bar[i] : Int) = (i : Int)) := by omega
          simp only [if_neg e', e, decide_false, Bool.false_and]
          exact Ev.now _
  have h := main 0 (by omega)
  rw [List.drop_zero] at h
  cases e : isBar bar with
  | true =>
    rw [show sortsAll bar = sortsFrom bar 0 bar from by simp [sortsAll, e]]
    exact ev_eq h (fun k => by simp only [impl_SortsAll.f, isBar_eq, e, Option.bind_some, if_true]; rfl)
  | false =>
    rw [show sortsAll bar = false from by simp [sortsAll, e]]
    exact ev_const (fun k => by simp [impl_SortsAll.f, isBar_eq, e])
end Go.Proofs.Ytilbngklgjjblaa.Q
