/- Lists that hold a number twice: what the program and the reference give. Conditions: those that each lemma names. -/
import Derived.Test.YthdgkjnhjihkpaaP0
import Derived.Test.YthdgkjnhjihkpaaPBar
import Derived.Test.YthdgkjnhjihkpaaQ1
import Derived.Test.YthdgkjnhjihkpaaQ2
import Derived.Test.YthdgkjnhjihkpaaQ4
namespace Go.Proofs.Ythdgkjnhjihkpaa.Q
open Go.RowKit Go.Proofs.YthdgkjnhjihkpaaW.PrintWords Go.Proofs.YthdgkjnhjihkpaaW.PrintLast Go.Proofs.YthdgkjnhjihkpaaW.PrintMore
set_option linter.unusedVariables false
set_option linter.unusedSimpArgs false
def idxI (a : Int) : Nat → List Int → Int
  | _, [] => -1
  | i, x :: r => if a = x then (i : Int) else idxI a (i + 1) r
theorem idxI_iff (a : Int) : ∀ (l : List Int) (i : Nat), idxI a i l ≥ 0 ↔ a ∈ l
  | [], i => by simp [idxI]
  | x :: r, i => by
    rw [idxI, List.mem_cons]
    by_cases h : a = x
    · rw [if_pos h]; constructor
      · intro _; exact Or.inl h
      · intro _; omega
    · rw [if_neg h, idxI_iff a r (i + 1)]; constructor
      · exact Or.inr
      · intro h'; exact h'.resolve_left h
theorem contains_ev (l : List Int) (a : Int) (hl : l.length ≤ 1099511627776) : Ev (fun k => slices_Contains_int_int.f k l a) (decide (a ∈ l)) := by
  have main : ∀ i, i ≤ l.length → Ev (fun k => slices_Index_int_int.l0 k l a (l.length : Int) (i : Int)) (idxI a i (l.drop i)) := by
    refine ev_down0 (fun k i => slices_Index_int_int.l0 k l a (l.length : Int) i) l.length (fun i => idxI a i (l.drop i)) ?_ ?_
    · refine ev_step1 (fun k => ?_)
      simp only [slices_Index_int_int.l0]
      rw [if_neg (by omega), List.drop_length, idxI]
    · intro i hi ih
      rw [List.drop_eq_getElem_cons hi, idxI]
      by_cases h : a = l[i]
      · rw [if_pos h]
        refine ev_step1 (fun k => ?_)
        simp only [slices_Index_int_int.l0]
        rw [if_pos (by omega), if_pos (by omega), if_pos (by omega), rd_nat l i hi, if_pos h]
      · rw [if_neg h]
        refine Ev.step (fun k => ?_) ih
        simp only [slices_Index_int_int.l0]
        rw [if_pos (by omega), if_pos (by omega), if_pos (by omega), rd_nat l i hi, if_neg h, w1 i (by omega)]
  have h := main 0 (by omega)
  rw [List.drop_zero] at h
  refine Ev.bind (f := fun _ t => some (decide (t ≥ 0))) h ?_
  have e : decide (idxI a 0 l ≥ 0) = decide (a ∈ l) := by rw [decide_eq_decide]; exact idxI_iff a l 0
  rw [e]
  exact Ev.now _
/-- Does a number stand twice? -/
def dupFrom (l : List Int) : Nat → List Int → Bool
  | _, [] => false
  | i, s :: r => decide (s ∈ l.take i) || dupFrom l (i + 1) r
theorem impl_twice_ev (l : List Int) (hl : l.length ≤ 1099511627776) : Ev (fun k => impl_twice.f k l) (dupFrom l 0 l) := by
  have main : ∀ i, i ≤ l.length → Ev (fun k => impl_twice.l0 k l l (l.length : Int) (i : Int)) (dupFrom l i (l.drop i)) := by
    refine ev_down0 (fun k i => impl_twice.l0 k l l (l.length : Int) i) l.length (fun i => dupFrom l i (l.drop i)) ?_ ?_
    · refine ev_step1 (fun k => ?_)
      simp only [impl_twice.l0]
      rw [if_neg (by omega), List.drop_length, dupFrom]
    · intro i hi ih
      rw [List.drop_eq_getElem_cons hi, dupFrom]
      have hc := contains_ev (l.take i) l[i] (by rw [List.length_take]; omega)
      refine Ev.step (f := fun k => (slices_Contains_int_int.f k (l.take i) l[i]).bind fun t => if t = true then some true else impl_twice.l0 k l l (l.length : Int) ((i + 1 : Nat) : Int)) (fun k => ?_) (Ev.bind (f := fun k t => if t = true then some true else impl_twice.l0 k l l (l.length : Int) ((i + 1 : Nat) : Int)) hc ?_)
      · simp only [impl_twice.l0]
        rw [if_pos (by omega), if_pos (by omega), if_pos (by omega), if_pos (by omega), rd_nat l i hi, w1 i (by omega), Int.toNat_natCast]
      · by_cases h : l[i] ∈ l.take i
        · simp only [decide_eq_true h, if_true, Bool.true_or]; exact Ev.now _
        · simp only [decide_eq_false h, Bool.false_eq_true, if_false, Bool.false_or]; exact ih
  have h := main 0 (by omega)
  rw [List.drop_zero] at h
  exact h
theorem spec_l1Sets_ev (l : List Int) (hl : l.length ≤ 1099511627776) : Ev (fun k => spec_l1Sets.f k l) (!dupFrom l 0 l && isBar l) := by
  have main : ∀ i, i ≤ l.length → Ev (fun k => spec_l1Sets.l0 k l l (l.length : Int) (i : Int)) (!dupFrom l i (l.drop i) && isBar l) := by
    refine ev_down0 (fun k i => spec_l1Sets.l0 k l l (l.length : Int) i) l.length (fun i => !dupFrom l i (l.drop i) && isBar l) ?_ ?_
    · refine Ev.step (f := fun k => (spec_IsBar.f k l).bind fun t => some t) (fun k => ?_) (Ev.bind (f := fun _ t => some t) (spec_IsBar_ev l hl) ?_)
      · simp only [spec_l1Sets.l0]
        rw [if_neg (by omega)]
      · rw [List.drop_length, dupFrom]; exact Ev.now _
    · intro i hi ih
      rw [List.drop_eq_getElem_cons hi, dupFrom]
      have hin : ∀ j, j ≤ (l.take i).length → Ev (fun k => spec_l1Sets.l1 k l l[i] l (l.length : Int) (i : Int) (l.take i) ((l.take i).length : Int) (j : Int)) (!(decide (l[i] ∈ (l.take i).drop j) || dupFrom l (i + 1) (l.drop (i + 1))) && isBar l) := by
        refine ev_down0 (fun k j => spec_l1Sets.l1 k l l[i] l (l.length : Int) (i : Int) (l.take i) ((l.take i).length : Int) j) (l.take i).length (fun j => !(decide (l[i] ∈ (l.take i).drop j) || dupFrom l (i + 1) (l.drop (i + 1))) && isBar l) ?_ ?_
        · refine Ev.step (f := fun k => spec_l1Sets.l0 k l l (l.length : Int) ((i + 1 : Nat) : Int)) (fun k => ?_) ?_
          · simp only [spec_l1Sets.l1]
            rw [if_neg (by omega), w1 i (by omega)]
          · rw [List.drop_length, decide_eq_false (by simp), Bool.false_or]; exact ih
        · intro j hj ihj
          rw [List.drop_eq_getElem_cons hj]
          have hlt : (l.take i).length ≤ l.length := by rw [List.length_take]; omega
          by_cases h : l[i] = (l.take i)[j]
          · rw [decide_eq_true (by rw [List.mem_cons]; exact Or.inl h), Bool.true_or]
            refine ev_step1 (fun k => ?_)
            simp only [spec_l1Sets.l1]
            rw [if_pos (by omega), if_pos (by omega), if_pos (by omega), rd_nat _ j hj, if_pos h]
            rfl
          · have e : decide (l[i] ∈ (l.take i)[j] :: (l.take i).drop (j + 1)) = decide (l[i] ∈ (l.take i).drop (j + 1)) := by
              rw [decide_eq_decide, List.mem_cons]
              exact ⟨fun h' => h'.resolve_left h, Or.inr⟩
            rw [e]
            refine Ev.step (fun k => ?_) ihj
            simp only [spec_l1Sets.l1]
            rw [if_pos (by omega), if_pos (by omega), if_pos (by omega), rd_nat _ j hj, if_neg h, w1 j (by omega)]
      have h0 := hin 0 (by omega)
      rw [List.drop_zero] at h0
      refine Ev.step (fun k => ?_) h0
      simp only [spec_l1Sets.l0]
      rw [if_pos (by omega), if_pos (by omega), if_pos (by omega), if_pos (by omega), rd_nat l i hi, Int.toNat_natCast, show max (i : Int) 0 = (((l.take i).length : Nat) : Int) from by rw [List.length_take]; omega]
      rfl
  have h := main 0 (by omega)
  rw [List.drop_zero] at h
  exact h
end Go.Proofs.Ythdgkjnhjihkpaa.Q
