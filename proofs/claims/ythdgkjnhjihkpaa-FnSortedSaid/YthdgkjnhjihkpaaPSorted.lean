/- How often a number is in a list, and the list in ascending order, as the statement's helpers give them. Conditions: those that each lemma names. -/
import Derived.Test.YthdgkjnhjihkpaaP0
import Derived.Test.YthdgkjnhjihkpaaPOrd
import Derived.Test.YthdgkjnhjihkpaaQ8
import Derived.Test.YthdgkjnhjihkpaaQ9
namespace Go.Proofs.Ythdgkjnhjihkpaa.Q
open Go.RowKit Go.Proofs.YthdgkjnhjihkpaaW.PrintWords Go.Proofs.YthdgkjnhjihkpaaW.PrintLast Go.Proofs.YthdgkjnhjihkpaaW.PrintMore
set_option linter.unusedVariables false
set_option linter.unusedSimpArgs false
theorem lcount_ev (l : List Int) (x : Int) (hl : l.length ≤ 1000) : Ev (fun k => laws_count.f k l x) (l.count x : Int) := by
  have main : ∀ d i (a : Int), i + d = l.length → 0 ≤ a → a ≤ i → Ev (fun k => laws_count.l0 k x a l (l.length : Int) (i : Int)) (a + ((l.drop i).count x : Int)) := by
    intro d
    induction d with
    | zero =>
      intro i a hi h0 h1
      rw [List.drop_eq_nil_of_le (by omega)]
      refine ev_step1 (fun k => ?_)
      simp only [laws_count.l0]
      rw [if_neg (by omega)]
      simp
    | succ d ih =>
      intro i a hi h0 h1
      have hi' : i < l.length := by omega
      rw [List.drop_eq_getElem_cons hi', List.count_cons]
      have hw : wrap64 (a + 1) = a + 1 := wrap_id _ (by omega) (by omega)
      by_cases e : l[i] = x
      · rw [if_pos (by simpa using e)]
        have h := ih (i + 1) (a + 1) (by omega) (by omega) (by omega)
        rw [show a + (((l.drop (i + 1)).count x + 1 : Nat) : Int) = a + 1 + ((l.drop (i + 1)).count x : Int) by omega]
        refine Ev.step (fun k => ?_) h
        simp only [laws_count.l0]
        rw [if_pos (by omega), if_pos (by omega), if_pos (by omega), rd_nat l i hi', if_pos e, w1 i (by omega), hw]
      · rw [if_neg (by simpa using e), Nat.add_zero]
        refine Ev.step (fun k => ?_) (ih (i + 1) a (by omega) h0 (by omega))
        simp only [laws_count.l0]
        rw [if_pos (by omega), if_pos (by omega), if_pos (by omega), rd_nat l i hi', if_neg e, w1 i (by omega)]
  have h := main l.length 0 0 (by omega) (by omega) (by omega)
  rw [List.drop_zero, Int.zero_add] at h
  exact h
theorem insI_len (x : Int) (out : List Int) : (insI x out).length = out.length + 1 := by
  rw [(insI_perm x out).length_eq, List.length_cons]
theorem insI_built (x : Int) (out : List Int) : (([] : List Int) ++ out.take (out.findIdx fun y => decide (x ≤ y)) ++ [x]) ++ out.drop (out.findIdx fun y => decide (x ≤ y)) = insI x out := by
  unfold insI
  rw [List.nil_append, List.append_assoc, List.singleton_append]
theorem ordered_inner (l out : List Int) (x len : Int) (i : Nat) (hi : i ≤ 1000) (ho : out.length ≤ 1000) (R : List Int) (hR : Ev (fun k => laws_ordered.l0 k (insI x out) l len ((i + 1 : Nat) : Int)) R) :
    ∀ d j, j + d = (out.findIdx fun y => decide (x ≤ y)) → Ev (fun k => laws_ordered.l1 k out x (j : Int) l len (i : Int)) R := by
  have hle : (out.findIdx fun y => decide (x ≤ y)) ≤ out.length := List.findIdx_le_length
  have hbuilt := insI_built x out
  intro d
  induction d with
  | zero =>
    intro j hj
    have hj' : (out.findIdx fun y => decide (x ≤ y)) = j := by omega
    rw [hj'] at hbuilt hle
    have hl1 : (out.take j).length ≤ 1000 := by rw [List.length_take]; omega
    have hl2 : (out.drop j).length ≤ 1000 := by rw [List.length_drop]; omega
    refine Ev.step (fun k => ?_) hR
    simp only [laws_ordered.l1]
    by_cases hlt : j < out.length
    · have hge : x ≤ out[j] := by
        have h1 := List.findIdx_getElem (p := fun y => decide (x ≤ y)) (xs := out) (w := by omega)
        simp only [decide_eq_true_eq, hj'] at h1
        exact h1
      rw [if_pos (by omega), if_pos (by omega), rd_nat out j hlt, if_neg (by omega)]
      simp only [Option.bind_some, Int.toNat_natCast]
      rw [if_pos (by omega), if_pos (by simp only [List.length_nil]; omega), if_pos (by simp only [List.length_append, List.length_nil]; omega), if_pos (by simp only [List.length_append, List.length_nil, List.length_singleton]; omega), hbuilt, w1 i (by omega)]
    · rw [if_neg (by omega)]
      simp only [Option.bind_some, Int.toNat_natCast]
      rw [if_pos (by omega), if_pos (by omega), if_pos (by simp only [List.length_nil]; omega), if_pos (by simp only [List.length_append, List.length_nil]; omega), if_pos (by simp only [List.length_append, List.length_nil, List.length_singleton]; omega), hbuilt, w1 i (by omega)]
  | succ d ih =>
    intro j hj
    have hlt : j < out.length := by omega
    have hnot : out[j] < x := by
      have := List.not_of_lt_findIdx (p := fun y => decide (x ≤ y)) (xs := out) (i := j) (by omega)
      simp only [decide_eq_false_iff_not] at this
      omega
    refine Ev.step (fun k => ?_) (ih (j + 1) (by omega))
    simp only [laws_ordered.l1]
    rw [if_pos (by omega), if_pos (by omega), rd_nat out j hlt, if_pos hnot, w1 j (by omega)]
theorem ordered_ev (l : List Int) (hl : l.length ≤ 500) : Ev (fun k => laws_ordered.f k l) (insAll l []) := by
  have main : ∀ d i (out : List Int), i + d = l.length → out.length ≤ i → Ev (fun k => laws_ordered.l0 k out l (l.length : Int) (i : Int)) (insAll (l.drop i) out) := by
    intro d
    induction d with
    | zero =>
      intro i out hi ho
      rw [List.drop_eq_nil_of_le (by omega), insAll]
      exact ev_step1 (fun k => by simp only [laws_ordered.l0]; rw [if_neg (by omega)])
    | succ d ih =>
      intro i out hi ho
      have hi' : i < l.length := by omega
      rw [List.drop_eq_getElem_cons hi', insAll]
      have h := ordered_inner l out l[i] (l.length : Int) i (by omega) (by omega) _ (ih (i + 1) (insI l[i] out) (by omega) (by rw [insI_len]; omega)) (out.findIdx fun y => decide (l[i] ≤ y)) 0 (by omega)
      refine Ev.step (fun k => ?_) h
      simp only [laws_ordered.l0]
      rw [if_pos (by omega), if_pos (by omega), if_pos (by omega), rd_nat l i hi']
      rfl
  have h := main l.length 0 [] (by omega) (by simp)
  rw [List.drop_zero] at h
  exact h
end Go.Proofs.Ythdgkjnhjihkpaa.Q
