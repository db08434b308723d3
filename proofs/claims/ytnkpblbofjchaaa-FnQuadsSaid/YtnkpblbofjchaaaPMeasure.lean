/- Measures, lines and texts: what the program's and the reference's tests give. Conditions: the lists are no longer than 2^40. -/
import Derived.Test.YtnkpblbofjchaaaP0
import Derived.Test.YtnkpblbofjchaaaQ1
import Derived.Test.YtnkpblbofjchaaaQ5
namespace Go.Proofs.Ytnkpblbofjchaaa.Q
open Go.RowKit Go.Proofs.YtnkpblbofjchaaaW.PrintWords Go.Proofs.YtnkpblbofjchaaaW.PrintLast Go.Proofs.YtnkpblbofjchaaaW.PrintMore
set_option linter.unusedVariables false
set_option linter.unusedSimpArgs false
theorem l1InB_eq (a b c : Int) : spec_l1In.f a b c = some (decide (b ≤ a) && decide (a ≤ c)) := by
  unfold spec_l1In.f
  by_cases h : a ≥ b
  · rw [if_pos h]; simp [show b ≤ a from h]
  · rw [if_neg h]; simp [show ¬ b ≤ a from h]
def measureOk (a b c : Int) : Bool := decide (1 ≤ a) && decide (a ≤ 2000) && (decide (1 ≤ b) && decide (b ≤ 100)) && (decide (b ≤ c) && decide (c ≤ 100))
theorem measureOk_iff (a b c : Int) : measureOk a b c = true ↔ 1 ≤ a ∧ a ≤ 2000 ∧ 1 ≤ b ∧ b ≤ 100 ∧ b ≤ c ∧ c ≤ 100 := by
  simp [measureOk, and_assoc]
theorem spec_MeasureOk_eq (a b c : Int) : spec_MeasureOk.f a b c = some (measureOk a b c) := by
  unfold spec_MeasureOk.f measureOk
  simp only [l1InB_eq, Option.bind_some]
  cases (decide (1 ≤ a) && decide (a ≤ 2000)) <;> cases (decide (1 ≤ b) && decide (b ≤ 100)) <;> simp
theorem impl_MeasureOk_eq (a b c : Int) : impl_MeasureOk.f a b c = some (measureOk a b c) := by
  unfold impl_MeasureOk.f measureOk
  by_cases h1 : 1 ≤ a
  · rw [if_pos h1]
    by_cases h2 : a ≤ 2000
    · rw [if_pos h2]
      by_cases h3 : 1 ≤ b
      · rw [if_pos h3]
        by_cases h4 : b ≤ 100
        · rw [if_pos h4]
          by_cases h5 : b ≤ c
          · rw [if_pos h5]; simp [h1, h2, h3, h4, h5]
          · rw [if_neg h5]; simp [h5]
        · rw [if_neg h4]; simp [h4]
      · rw [if_neg h3]; simp [h3]
    · rw [if_neg h2]; simp [h2]
  · rw [if_neg h1]; simp [h1]
def lineOk (l : List Int) : Bool := decide (l.length ≤ 120) && between l 0 60
theorem between_iff (l : List Int) (a b : Int) : between l a b = true ↔ ∀ w ∈ l, a ≤ w ∧ w ≤ b := by simp [between]
theorem lineOk_iff (l : List Int) : lineOk l = true ↔ l.length ≤ 120 ∧ ∀ w ∈ l, 0 ≤ w ∧ w ≤ 60 := by simp [lineOk, between]
theorem impl_LineOk_eq (l : List Int) : impl_LineOk.f l = some (lineOk l) := by
  unfold impl_LineOk.f lineOk
  by_cases h : l.length ≤ 120
  · rw [if_pos (by omega), decide_eq_true h]; rfl
  · rw [if_neg (by omega), decide_eq_false h]; rfl
theorem spec_LineOk_ev (l : List Int) (hl : l.length ≤ 1099511627776) : Ev (fun k => spec_LineOk.f k l) (lineOk l) := by
  have main : ∀ i, i ≤ l.length → Ev (fun k => spec_LineOk.l0 k l l (l.length : Int) (i : Int)) (decide (l.length ≤ 120) && between (l.drop i) 0 60) := by
    refine ev_down0 (fun k i => spec_LineOk.l0 k l l (l.length : Int) i) l.length (fun i => decide (l.length ≤ 120) && between (l.drop i) 0 60) ?_ ?_
    · refine ev_step1 (fun k => ?_)
      simp only [spec_LineOk.l0]
      rw [if_neg (by omega), List.drop_length]
      rw [show decide ((l.length : Int) ≤ 120) = decide (l.length ≤ 120) from decide_eq_decide.2 (by omega)]
      simp [between]
    · intro i hi ih
      rw [List.drop_eq_getElem_cons hi, show ∀ (x : Int) r, between (x :: r) 0 60 = ((decide (0 ≤ x) && decide (x ≤ 60)) && between r 0 60) from fun _ _ => rfl]
      cases e : (decide (0 ≤ l[i]) && decide (l[i] ≤ 60)) with
      | true =>
        refine Ev.step (f := fun k => spec_LineOk.l0 k l l (l.length : Int) ((i + 1 : Nat) : Int)) (fun k => ?_) (by simpa using ih)
        simp only [spec_LineOk.l0]
        rw [if_pos (by omega), if_pos (by omega), if_pos (by omega), rd_nat l i hi, l1InB_eq, e, Option.bind_some, if_pos rfl, w1 i (by omega)]
      | false =>
        refine ev_step1 (fun k => ?_)
        simp only [spec_LineOk.l0]
        rw [if_pos (by omega), if_pos (by omega), if_pos (by omega), rd_nat l i hi, l1InB_eq, e, Option.bind_some, if_neg (by decide)]
        simp
  have h := main 0 (by omega)
  rw [List.drop_zero] at h
  exact h
end Go.Proofs.Ytnkpblbofjchaaa.Q
