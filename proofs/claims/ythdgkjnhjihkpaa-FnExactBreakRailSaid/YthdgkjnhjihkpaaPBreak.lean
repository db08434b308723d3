/- A rail that is broken: what the program's and the reference's functions give. Conditions: none beyond those each lemma names. -/
import Derived.Test.YthdgkjnhjihkpaaP0
import Derived.Test.YthdgkjnhjihkpaaPBar
import Derived.Test.YthdgkjnhjihkpaaQ1
import Derived.Test.YthdgkjnhjihkpaaQ13
import Derived.Test.YthdgkjnhjihkpaaQ14
namespace Go.Proofs.Ythdgkjnhjihkpaa.Q
open Go.RowKit Go.Proofs.YthdgkjnhjihkpaaW.PrintWords Go.Proofs.YthdgkjnhjihkpaaW.PrintLast Go.Proofs.YthdgkjnhjihkpaaW.PrintMore
set_option linter.unusedVariables false
set_option linter.unusedSimpArgs false
theorem orAdd_all : ∀ s : Nat, s < 128 → ∀ t : Nat, t < 7 → Go.bits .and .i64 (shr .i64 (s : Int) (t : Int)) 1 ≠ 1 → wrap64 ((s : Int) + shl .i64 1 (t : Int)) = Go.bits .or .i64 (s : Int) (shl .i64 1 (t : Int)) := by decide +kernel
theorem orAdd (s t : Int) (hs : isSetB s = true) (h0 : 0 ≤ t) (h6 : t ≤ 6) (h : ¬ Go.bits .and .i64 (shr .i64 s t) 1 = 1) : wrap64 (s + shl .i64 1 t) = Go.bits .or .i64 s (shl .i64 1 t) := by
  obtain ⟨g0, g1⟩ := (isSetB_iff s).1 hs
  have e := orAdd_all s.toNat (by omega) t.toNat (by omega)
  rw [Int.toNat_of_nonneg g0, Int.toNat_of_nonneg h0] at e
  exact e h
/-- BreakRail. -/
def breakRail (l : List Int) (p t : Int) : List Int × Bool :=
  if isBar l = true then if p < 0 then ([], false) else if p ≥ (l.length : Int) then ([], false) else if t < 0 then ([], false) else if t > 6 then ([], false)
    else if Go.bits .and .i64 (shr .i64 (rd l p) t) 1 = 1 then ([], false) else (l.set p.toNat (Go.bits .or .i64 (rd l p) (shl .i64 1 t)), true)
  else ([], false)
theorem breakRail_length (l : List Int) (p t : Int) : (breakRail l p t).1.length ≤ l.length := by
  unfold breakRail
  repeat' split
  all_goals simp
theorem impl_BreakRail_eq (l : List Int) (p t : Int) : impl_BreakRail.f l p t = some (breakRail l p t) := by
  unfold impl_BreakRail.f breakRail
  rw [isBar_eq, Option.bind_some]
  by_cases hb : isBar l = true
  · have h40 := ((isBar_iff l).1 hb).2.1
    rw [if_pos hb, if_pos hb]
    by_cases h1 : p < 0
    · rw [if_pos h1, if_pos h1]
    rw [if_neg h1, if_neg h1]
    by_cases h2 : p ≥ (l.length : Int)
    · rw [if_pos h2, if_pos h2]
    rw [if_neg h2, if_neg h2]
    by_cases h3 : t < 0
    · rw [if_pos h3, if_pos h3]
    rw [if_neg h3, if_neg h3]
    by_cases h4 : t > 6
    · rw [if_pos h4, if_pos h4]
    rw [if_neg h4, if_neg h4, if_pos (by omega), if_pos (by omega), if_pos (by omega)]
    by_cases h5 : Go.bits .and .i64 (shr .i64 (rd l p) t) 1 = 1
    · rw [if_pos h5, if_pos h5]
    rw [if_neg h5, if_neg h5]
    unfold slices_Clone_int_int.f
    rw [if_pos (by omega), Option.bind_some, if_pos (by omega)]
  · rw [if_neg hb, if_neg hb]
theorem spec_BreakRail_ev (l : List Int) (p t : Int) (hl : l.length ≤ 1099511627776) : Ev (fun k => spec_BreakRail.f k l p t) (breakRail l p t) := by
  have HB := spec_IsBar_ev l hl
  refine Ev.bind (f := fun k t400 => if t400 = true then ((spec_l1In.f p 0 (wrap64 ((l.length : Int) - 1))).bind fun t401 => (if t401 = true then ((spec_l1In.f t 0 6).bind fun t402 => (spec_BreakRail.j0 k l p t (!t402))) else (spec_BreakRail.j0 k l p t true))) else (spec_BreakRail.j0 k l p t true)) HB ?_
  unfold breakRail
  by_cases hb : isBar l = true
  · obtain ⟨h1', h40, hall⟩ := (isBar_iff l).1 hb
    have hw : wrap64 ((l.length : Int) - 1) = (l.length : Int) - 1 := wrap_id _ (by omega) (by omega)
    simp only [if_pos hb, l1In_eq, Option.bind_some, hw]
    by_cases hp : 0 ≤ p ∧ p < l.length
    · rw [if_neg (by omega), if_neg (by omega), show (decide (0 ≤ p) && decide (p ≤ (l.length : Int) - 1)) = true from by simp; omega]
      simp only [if_true]
      by_cases ht : 0 ≤ t ∧ t ≤ 6
      · rw [if_neg (by omega), if_neg (by omega), show (decide (0 ≤ t) && decide (t ≤ 6)) = true from by simp; omega]
        refine ev_step1 (fun k => ?_)
        simp only [spec_BreakRail.j0, Bool.not_true]
        rw [if_neg (by decide), if_pos (by omega), if_pos (by omega), if_pos (by omega)]
        by_cases h5 : Go.bits .and .i64 (shr .i64 (rd l p) t) 1 = 1
        · rw [if_pos h5, if_pos h5]
        · rw [if_neg h5, if_neg h5]
          simp only [Option.bind_some, List.length_nil, Nat.zero_add, List.nil_append]
          rw [if_pos (by omega), if_pos (by omega)]
          obtain ⟨n, rfl⟩ := Int.eq_ofNat_of_zero_le hp.1
          have hn : n < l.length := by omega
          have hs := hall l[n] (List.getElem_mem hn)
          rw [rd_nat l n hn] at h5 ⊢
          rw [orAdd _ _ ((isSetB_iff _).2 hs) ht.1 ht.2 h5]
      · have e : (decide (0 ≤ t) && decide (t ≤ 6)) = false := by simp; omega
        rw [e]
        have e2 : ∀ x : List Int × Bool, (if t < 0 then ([], false) else if t > 6 then ([], false) else x) = (([] : List Int), false) := by
          intro x
          by_cases h3 : t < 0
          · rw [if_pos h3]
          · rw [if_neg h3, if_pos (by omega)]
        rw [e2]
        refine ev_step1 (fun k => ?_)
        simp only [spec_BreakRail.j0, Bool.not_false, if_true]
    · have e : (decide (0 ≤ p) && decide (p ≤ (l.length : Int) - 1)) = false := by simp; omega
      rw [e]
      have e2 : ∀ x : List Int × Bool, (if p < 0 then ([], false) else if p ≥ (l.length : Int) then ([], false) else x) = (([] : List Int), false) := by
        intro x
        by_cases h3 : p < 0
        · rw [if_pos h3]
        · rw [if_neg h3, if_pos (by omega)]
      rw [e2]
      refine ev_step1 (fun k => ?_)
      simp only [Bool.false_eq_true, if_false, spec_BreakRail.j0, if_true]
  · rw [if_neg hb]
    simp only [if_neg hb]
    refine ev_step1 (fun k => ?_)
    simp only [spec_BreakRail.j0, if_true]
end Go.Proofs.Ythdgkjnhjihkpaa.Q
