/- Widths of a line. Conditions: those that each lemma names. -/
import Derived.Test.YtnkpblbofjchaaaP0
import Derived.Test.YtnkpblbofjchaaaPLine
import Derived.Test.YtnkpblbofjchaaaQ1
import Derived.Test.YtnkpblbofjchaaaQ6
namespace Go.Proofs.Ytnkpblbofjchaaa.Q
open Go.RowKit Go.Proofs.YtnkpblbofjchaaaW.PrintWords Go.Proofs.YtnkpblbofjchaaaW.PrintLast Go.Proofs.YtnkpblbofjchaaaW.PrintMore
set_option linter.unusedVariables false
set_option linter.unusedSimpArgs false
theorem spec_l3Sum_ev (l : List Int) (hl : l.length ≤ 1099511627776) : Ev (fun k => spec_l3Sum.f k l) (lsum 0 0 l) := by
  have main : ∀ i (s : Int × Int), i ≤ l.length → True → Ev (fun k => spec_l3Sum.l0 k s.1 s.2 l (l.length : Int) (i : Int)) (lsum s.1 s.2 (l.drop i)) := by
    refine ev_down (fun k (s : Int × Int) i => spec_l3Sum.l0 k s.1 s.2 l (l.length : Int) i) l.length (fun _ _ => True) (fun i s => lsum s.1 s.2 (l.drop i)) ?_ ?_
    · intro s _
      refine ev_step1 (fun k => ?_)
      simp only [spec_l3Sum.l0]
      rw [if_neg (by omega), List.drop_length, lsum]
    · intro i s hi _ ih
      rw [List.drop_eq_getElem_cons hi, lsum]
      by_cases e : l[i] = 0
      · rw [if_pos e]
        refine Ev.step (f := fun k => spec_l3Sum.l0 k (wrap64 (s.1 + l[i])) (wrap64 (s.2 + 1)) l (l.length : Int) ((i + 1 : Nat) : Int)) (fun k => ?_) (ih (wrap64 (s.1 + l[i]), wrap64 (s.2 + 1)) trivial)
        simp only [spec_l3Sum.l0]
        rw [if_pos (by omega), if_pos (by omega), if_pos (by omega), rd_nat l i hi, if_pos e, w1 i (by omega)]
      · rw [if_neg e]
        refine Ev.step (f := fun k => spec_l3Sum.l0 k (wrap64 (s.1 + l[i])) s.2 l (l.length : Int) ((i + 1 : Nat) : Int)) (fun k => ?_) (ih (wrap64 (s.1 + l[i]), s.2) trivial)
        simp only [spec_l3Sum.l0]
        rw [if_pos (by omega), if_pos (by omega), if_pos (by omega), rd_nat l i hi, if_neg e, w1 i (by omega)]
  have h := main 0 (0, 0) (by omega) trivial
  rw [List.drop_zero] at h
  exact h
theorem impl_lb_ev (l : List Int) (hl : l.length ≤ 1099511627776) : Ev (fun k => impl_lettersAndBands.f k l) (lsum 0 0 l) := by
  have main : ∀ i (s : Int × Int), i ≤ l.length → True → Ev (fun k => impl_lettersAndBands.l0 k s.1 s.2 l (l.length : Int) (i : Int)) (lsum s.1 s.2 (l.drop i)) := by
    refine ev_down (fun k (s : Int × Int) i => impl_lettersAndBands.l0 k s.1 s.2 l (l.length : Int) i) l.length (fun _ _ => True) (fun i s => lsum s.1 s.2 (l.drop i)) ?_ ?_
    · intro s _
      refine ev_step1 (fun k => ?_)
      simp only [impl_lettersAndBands.l0]
      rw [if_neg (by omega), List.drop_length, lsum]
    · intro i s hi _ ih
      rw [List.drop_eq_getElem_cons hi, lsum]
      by_cases e : l[i] = 0
      · rw [if_pos e]
        refine Ev.step (f := fun k => impl_lettersAndBands.l0 k (wrap64 (s.1 + l[i])) (wrap64 (s.2 + 1)) l (l.length : Int) ((i + 1 : Nat) : Int)) (fun k => ?_) (ih (wrap64 (s.1 + l[i]), wrap64 (s.2 + 1)) trivial)
        simp only [impl_lettersAndBands.l0]
        rw [if_pos (by omega), if_pos (by omega), if_pos (by omega), rd_nat l i hi, if_pos e, w1 i (by omega)]
      · rw [if_neg e]
        refine Ev.step (f := fun k => impl_lettersAndBands.l0 k (wrap64 (s.1 + l[i])) s.2 l (l.length : Int) ((i + 1 : Nat) : Int)) (fun k => ?_) (ih (wrap64 (s.1 + l[i]), s.2) trivial)
        simp only [impl_lettersAndBands.l0]
        rw [if_pos (by omega), if_pos (by omega), if_pos (by omega), rd_nat l i hi, if_neg e, w1 i (by omega)]
  have h := main 0 (0, 0) (by omega) trivial
  rw [List.drop_zero] at h
  exact h
end Go.Proofs.Ytnkpblbofjchaaa.Q
