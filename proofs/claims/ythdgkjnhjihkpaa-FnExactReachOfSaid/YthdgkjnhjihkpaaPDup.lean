/- Lists that hold a number twice: what the program and the reference give. Conditions: those that each lemma names. -/
import Derived.Test.YthdgkjnhjihkpaaP0
import Derived.Test.YthdgkjnhjihkpaaQ2
namespace Go.Proofs.Ythdgkjnhjihkpaa.Q
open Go.RowKit Go.Proofs.YthdgkjnhjihkpaaW.PrintWords Go.Proofs.YthdgkjnhjihkpaaW.PrintLast Go.Proofs.YthdgkjnhjihkpaaW.PrintMore
set_option linter.unusedVariables false
set_option linter.unusedSimpArgs false
def idxI (a : Int) : Nat → List Int → Int
  | _, [] => -1
  | i, x :: r => if a = x then (i : Int) else idxI a (i + 1) r
theorem idxI_iff (a : Int) : ∀ (l : List Int) (i : Nat), idxI a i l ≥ 0 ↔ a ∈ l
  | [], i => by simp [idxI]
  | x :: r, i => by
    rw [idxI, List.mem_cons]
    by_cases h : a = x
    · rw [if_pos h]; constructor
      · intro _; exact Or.inl h
      · intro _; omega
    · rw [if_neg h, idxI_iff a r (i + 1)]; constructor
      · exact Or.inr
      · intro h'; exact h'.resolve_left h
theorem contains_ev (l : List Int) (a : Int) (hl : l.length ≤ 1099511627776) : Ev (fun k => slices_Contains_int_int.f k l a) (decide (a ∈ l)) := by
  have main : ∀ i, i ≤ l.length → Ev (fun k => slices_Index_int_int.l0 k l a (l.length : Int) (i : Int)) (idxI a i (l.drop i)) := by
    refine ev_down0 (fun k i => slices_Index_int_int.l0 k l a (l.length : Int) i) l.length (fun i => idxI a i (l.drop i)) ?_ ?_
    · refine ev_step1 (fun k => ?_)
      simp only [slices_Index_int_int.l0]
      rw [if_neg (by omega), List.drop_length, idxI]
    · intro i hi ih
      rw [List.drop_eq_getElem_cons hi, idxI]
      by_cases h : a = l[i]
      · rw [if_pos h]
        refine ev_step1 (fun k => ?_)
        simp only [slices_Index_int_int.l0]
        rw [if_pos (by omega), if_pos (by omega), if_pos (by omega), rd_nat l i hi, if_pos h]
      · rw [if_neg h]
        refine Ev.step (fun k => ?_) ih
        simp only [slices_Index_int_int.l0]
        rw [if_pos (by omega), if_pos (by omega), if_pos (by omega), rd_nat l i hi, if_neg h, w1 i (by omega)]
  have h := main 0 (by omega)
  rw [List.drop_zero] at h
  refine Ev.bind (f := fun _ t => some (decide (t ≥ 0))) h ?_
  have e : decide (idxI a 0 l ≥ 0) = decide (a ∈ l) := by rw [decide_eq_decide]; exact idxI_iff a l 0
  rw [e]
  exact Ev.now _
end Go.Proofs.Ythdgkjnhjihkpaa.Q
