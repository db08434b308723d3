/- Equality of lists of numbers, as a statement's helper gives it. Conditions: the list is no longer than 2^40. -/
import Derived.Test.YtnkpblbofjchaaaP0
import Derived.Test.YtnkpblbofjchaaaPInts
import Derived.Test.YtnkpblbofjchaaaQ10
namespace Go.Proofs.Ytnkpblbofjchaaa.Q
open Go.RowKit Go.Proofs.YtnkpblbofjchaaaW.PrintWords Go.Proofs.YtnkpblbofjchaaaW.PrintLast Go.Proofs.YtnkpblbofjchaaaW.PrintMore
set_option linter.unusedVariables false
set_option linter.unusedSimpArgs false
theorem ints_ev (a b : List Int) (hl : a.length ≤ 1099511627776) : Ev (fun k => laws_ints.f k a b) (decide (a = b)) := by
  by_cases hn : a.length = b.length
  · have main : ∀ i, i ≤ a.length → Ev (fun k => laws_ints.l0 k a b (a.length : Int) (i : Int)) (decide (a.drop i = b.drop i)) := by
      refine ev_down0 (fun k i => laws_ints.l0 k a b (a.length : Int) i) a.length (fun i => decide (a.drop i = b.drop i)) ?_ ?_
      · refine ev_step1 (fun k => ?_)
        simp only [laws_ints.l0]
        rw [if_neg (by omega)]
        simp [hn]
      · intro i hi ih
        have hb : i < b.length := by omega
        by_cases e : a[i] = b[i]
        · refine Ev.step (f := fun k => laws_ints.l0 k a b (a.length : Int) ((i + 1 : Nat) : Int)) (fun k => ?_) ?_
          · simp only [laws_ints.l0]
            rw [if_pos (by omega), if_pos (by omega), if_pos (by omega), if_pos (by omega), rd_nat a i hi, rd_nat b i hb, if_pos e, w1 i (by omega)]
          · rw [show decide (a.drop i = b.drop i) = decide (a.drop (i + 1) = b.drop (i + 1)) from decide_eq_decide.2 ((drop_eq_iff a b i hi hb).trans ⟨fun h => h.2, fun h => ⟨e, h⟩⟩)]
            exact ih
        · refine ev_step1 (fun k => ?_)
          simp only [laws_ints.l0]
          rw [if_pos (by omega), if_pos (by omega), if_pos (by omega), if_pos (by omega), rd_nat a i hi, rd_nat b i hb, if_neg e, decide_eq_false (fun h => e ((drop_eq_iff a b i hi hb).1 h).1)]
    refine ev_eq (main 0 (by omega)) (fun k => ?_)
    unfold laws_ints.f
    rw [if_pos (by omega)]
    simp
  · refine ev_const (fun k => ?_)
    unfold laws_ints.f
    rw [if_neg (by omega)]
    have : a ≠ b := fun e => hn (by rw [e])
    simp [this]
end Go.Proofs.Ytnkpblbofjchaaa.Q
