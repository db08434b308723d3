/- Breakings: what the program's and the reference's tests give. Conditions: those that each lemma names. -/
import Derived.Test.YtnkpblbofjchaaaP0
import Derived.Test.YtnkpblbofjchaaaPKind
import Derived.Test.YtnkpblbofjchaaaPMeasure
import Derived.Test.YtnkpblbofjchaaaQ25
import Derived.Test.YtnkpblbofjchaaaQ28
import Derived.Test.YtnkpblbofjchaaaQ33
import Derived.Test.YtnkpblbofjchaaaQ34
namespace Go.Proofs.Ytnkpblbofjchaaa.Q
open Go.RowKit Go.Proofs.YtnkpblbofjchaaaW.PrintWords Go.Proofs.YtnkpblbofjchaaaW.PrintLast Go.Proofs.YtnkpblbofjchaaaW.PrintMore
set_option linter.unusedVariables false
set_option linter.unusedSimpArgs false
/-- As the reference tests the lines from a word on. -/
def brkS (a b c : Int) (l : List Int) : Int → List Int → Bool
  | p, [] => p == (l.length : Int)
  | p, n :: r => if 1 ≤ n ∧ n ≤ (l.length : Int) - p then
      (if kindV a b c (cutW l p (p + n)) = 0 then false else if kindV a b c (cutW l p (p + n)) = 1 then (if p + n < (l.length : Int) then false else brkS a b c l (p + n) r) else brkS a b c l (p + n) r) else false
/-- As the program does. -/
def brkI (a b c : Int) (l : List Int) : Int → List Int → Bool
  | p, [] => p == (l.length : Int)
  | p, n :: r => if 1 ≤ n ∧ n ≤ (l.length : Int) - p then
      (if r = [] then (if kindV a b c (cutW l p (p + n)) = 0 then false else brkI a b c l (p + n) r) else if kindV a b c (cutW l p (p + n)) = 2 then brkI a b c l (p + n) r else false) else false
theorem brk_same (a b c : Int) (l : List Int) : ∀ (r : List Int) (p : Int), brkS a b c l p r = brkI a b c l p r
  | [], p => rfl
  | n :: r, p => by
    have ih := brk_same a b c l r (p + n)
    have hk := kindV_cases a b c (cutW l p (p + n))
    rw [brkS, brkI, ih]
    generalize kindV a b c (cutW l p (p + n)) = K at *
    by_cases hn : 1 ≤ n ∧ n ≤ (l.length : Int) - p
    · rw [if_pos hn, if_pos hn]
      by_cases h0 : K = 0
      · rw [if_pos h0, if_pos h0, if_neg (show ¬ K = 2 by omega), ite_self]
      · rw [if_neg h0, if_neg h0]
        by_cases h2 : K = 2
        · rw [if_pos h2, if_neg (show ¬ K = 1 by omega), ite_self]
        · rw [if_neg h2, if_pos (show K = 1 by omega)]
          by_cases hp : p + n < (l.length : Int)
          · rw [if_pos hp]
            cases r with
            | nil =>
              rw [if_pos rfl, brkI]
              have : ¬ (p + n = (l.length : Int)) := by omega
              simp [this]
            | cons m r => rw [if_neg (by simp)]
          · rw [if_neg hp]
            cases r with
            | nil => rw [if_pos rfl]
            | cons m r => rw [if_neg (by simp), brkI, if_neg (by omega)]
    · rw [if_neg hn, if_neg hn]
theorem spec_brk_loop (a b c : Int) (l ls : List Int) (hm : measureOk a b c = true) (ht : textOk l = true) (hl : ls.length ≤ 1099511627776) (hw : ∀ x ∈ ls, (Lit.int .i64 x).wf = true) :
    ∀ i (p : Int), i ≤ ls.length → (0 ≤ p ∧ p ≤ l.length) → Ev (fun k => spec_IsBreaking.l0 k l p ls (ls.length : Int) (i : Int) a b c) (brkS a b c l p (ls.drop i)) := by
  obtain ⟨t1, t2, _⟩ := (textOk_iff l).1 ht
  refine ev_down (fun k p i => spec_IsBreaking.l0 k l p ls (ls.length : Int) i a b c) ls.length (fun _ p => 0 ≤ p ∧ p ≤ l.length) (fun i p => brkS a b c l p (ls.drop i)) ?_ ?_
  · intro p _
    refine ev_step1 (fun k => ?_)
    simp only [spec_IsBreaking.l0]
    rw [if_neg (by omega), List.drop_length, brkS]
  · intro i p hi hp ih
    rw [List.drop_eq_getElem_cons hi, brkS]
    have e1 : wrap64 ((l.length : Int) - p) = (l.length : Int) - p := wrap_id _ (by omega) (by omega)
    by_cases hn : 1 ≤ ls[i] ∧ ls[i] ≤ (l.length : Int) - p
    · rw [if_pos hn]
      have e2 : wrap64 (p + ls[i]) = p + ls[i] := wrap_id _ (by omega) (by omega)
      obtain ⟨g1, g2, g3⟩ := text_words ht p (p + ls[i]) (by omega) (by omega) (by omega)
      have hk := spec_l4Kind_ev a b c (cutW l p (p + ls[i])) hm g1 g2 g3
      refine Ev.step (f := fun k => (spec_l4Kind.f k a b c (cutW l p (p + ls[i]))).bind fun t => if t = 0 then some false else if t = 1 then (if p + ls[i] < (l.length : Int) then some false else spec_IsBreaking.l0 k l (p + ls[i]) ls (ls.length : Int) ((i + 1 : Nat) : Int) a b c) else spec_IsBreaking.l0 k l (p + ls[i]) ls (ls.length : Int) ((i + 1 : Nat) : Int) a b c) (fun k => ?_)
        (Ev.bind (f := fun k t => if t = 0 then some false else if t = 1 then (if p + ls[i] < (l.length : Int) then some false else spec_IsBreaking.l0 k l (p + ls[i]) ls (ls.length : Int) ((i + 1 : Nat) : Int) a b c) else spec_IsBreaking.l0 k l (p + ls[i]) ls (ls.length : Int) ((i + 1 : Nat) : Int) a b c) hk ?_)
      · simp only [spec_IsBreaking.l0]
        rw [if_pos (by omega), if_pos (by omega), if_pos (by omega), rd_nat ls i hi, e1, l1InB_eq, show (decide (1 ≤ ls[i]) && decide (ls[i] ≤ (l.length : Int) - p)) = true from by simp; omega, Option.bind_some, if_pos rfl, e2, if_pos (by omega), if_pos (by omega), if_pos (by omega), w1 i (by omega)]
        rfl
      · have hi' := ih (p + ls[i]) (by omega)
        try simp only
        by_cases h0 : kindV a b c (cutW l p (p + ls[i])) = 0
        · simp only [if_pos h0]; exact Ev.now _
        · simp only [if_neg h0]
          by_cases h1 : kindV a b c (cutW l p (p + ls[i])) = 1
          · simp only [if_pos h1]
            by_cases h2 : p + ls[i] < (l.length : Int)
            · simp only [if_pos h2]; exact Ev.now _
            · simp only [if_neg h2]; exact hi'
          · simp only [if_neg h1]; exact hi'
    · rw [if_neg hn]
      refine ev_step1 (fun k => ?_)
      simp only [spec_IsBreaking.l0]
      rw [if_pos (by omega), if_pos (by omega), if_pos (by omega), rd_nat ls i hi, e1, l1InB_eq, show (decide (1 ≤ ls[i]) && decide (ls[i] ≤ (l.length : Int) - p)) = false from by simp; omega, Option.bind_some, if_neg (by decide)]
theorem impl_brk_loop (a b c : Int) (l ls : List Int) (hm : measureOk a b c = true) (ht : textOk l = true) (hl : ls.length ≤ 1099511627776) :
    ∀ i (p : Int), i ≤ ls.length → (0 ≤ p ∧ p ≤ l.length) → Ev (fun k => impl_IsBreaking.l0 k l ls p ls (ls.length : Int) (i : Int) a b c) (brkI a b c l p (ls.drop i)) := by
  obtain ⟨t1, t2, _⟩ := (textOk_iff l).1 ht
  refine ev_down (fun k p i => impl_IsBreaking.l0 k l ls p ls (ls.length : Int) i a b c) ls.length (fun _ p => 0 ≤ p ∧ p ≤ l.length) (fun i p => brkI a b c l p (ls.drop i)) ?_ ?_
  · intro p _
    refine ev_step1 (fun k => ?_)
    simp only [impl_IsBreaking.l0]
    rw [if_neg (by omega), List.drop_length, brkI]
  · intro i p hi hp ih
    rw [List.drop_eq_getElem_cons hi, brkI]
    have e1 : wrap64 ((l.length : Int) - p) = (l.length : Int) - p := wrap_id _ (by omega) (by omega)
    have e3 : wrap64 ((ls.length : Int) - 1) = (ls.length : Int) - 1 := wrap_id _ (by omega) (by omega)
    by_cases hn : 1 ≤ ls[i] ∧ ls[i] ≤ (l.length : Int) - p
    · rw [if_pos hn]
      have e2 : wrap64 (p + ls[i]) = p + ls[i] := wrap_id _ (by omega) (by omega)
      obtain ⟨g1, g2, g3⟩ := text_words ht p (p + ls[i]) (by omega) (by omega) (by omega)
      have hk := impl_kindOf_ev a b c (cutW l p (p + ls[i])) hm g1 g2 g3
      refine Ev.step (f := fun k => impl_IsBreaking.j1 k l ls p (i : Int) ls[i] ls (ls.length : Int) (i : Int) false a b c) (fun k => ?_) ?_
      · simp only [impl_IsBreaking.l0]
        rw [if_pos (by omega), if_pos (by omega), if_pos (by omega), rd_nat ls i hi, e1, if_neg (by omega), decide_eq_false (by omega)]
      · refine Ev.step (f := fun k => (impl_kindOf.f k a b c (cutW l p (p + ls[i]))).bind fun t => if (i : Int) = (ls.length : Int) - 1 then (if t = 0 then some false else impl_IsBreaking.l0 k l ls (p + ls[i]) ls (ls.length : Int) ((i + 1 : Nat) : Int) a b c) else (if t = 2 then impl_IsBreaking.l0 k l ls (p + ls[i]) ls (ls.length : Int) ((i + 1 : Nat) : Int) a b c else some false)) (fun k => ?_)
          (Ev.bind (f := fun k t => if (i : Int) = (ls.length : Int) - 1 then (if t = 0 then some false else impl_IsBreaking.l0 k l ls (p + ls[i]) ls (ls.length : Int) ((i + 1 : Nat) : Int) a b c) else (if t = 2 then impl_IsBreaking.l0 k l ls (p + ls[i]) ls (ls.length : Int) ((i + 1 : Nat) : Int) a b c else some false)) hk ?_)
        · simp only [impl_IsBreaking.j1]
          rw [if_neg (by decide), e2, if_pos (by omega), if_pos (by omega), if_pos (by omega), e3, w1 i (by omega)]
          by_cases hlast : (i : Int) = (ls.length : Int) - 1
          · simp only [if_pos hlast, if_neg (show ¬ ((i : Int) < (ls.length : Int) - 1) by omega)]
            rfl
          · simp only [if_neg hlast, if_pos (show ((i : Int) < (ls.length : Int) - 1) by omega)]
            rfl
        · have hi' := ih (p + ls[i]) (by omega)
          try simp only
          by_cases hlast : (i : Int) = (ls.length : Int) - 1
          · have hnil : ls.drop (i + 1) = [] := List.drop_eq_nil_of_le (by omega)
            simp only [if_pos hlast, if_pos hnil]
            by_cases h0 : kindV a b c (cutW l p (p + ls[i])) = 0
            · simp only [if_pos h0]; exact Ev.now _
            · simp only [if_neg h0]; exact hi'
          · have hnil : ¬ (ls.drop (i + 1) = []) := fun h => by
              have := congrArg List.length h
              simp at this
              omega
            simp only [if_neg hlast, if_neg hnil]
            by_cases h0 : kindV a b c (cutW l p (p + ls[i])) = 2
            · simp only [if_pos h0]; exact hi'
            · simp only [if_neg h0]; exact Ev.now _
    · rw [if_neg hn]
      refine Ev.step (f := fun k => impl_IsBreaking.j1 k l ls p (i : Int) ls[i] ls (ls.length : Int) (i : Int) true a b c) (fun k => ?_) (ev_step1 (fun k => by simp only [impl_IsBreaking.j1, if_true]))
      simp only [impl_IsBreaking.l0]
      rw [if_pos (by omega), if_pos (by omega), if_pos (by omega), rd_nat ls i hi, e1]
      by_cases h1 : ls[i] < 1
      · rw [if_pos h1]
      · rw [if_neg h1, decide_eq_true (by omega)]
/-- IsBreaking. -/
def isBreaking (a b c : Int) (l ls : List Int) : Bool := if (measureOk a b c && textOk l) = true then brkI a b c l 0 ls else false
theorem impl_IsBreaking_ev (a b c : Int) (l ls : List Int) (hl : ls.length ≤ 1099511627776) : Ev (fun k => impl_IsBreaking.f k a b c l ls) (isBreaking a b c l ls) := by
  unfold isBreaking
  by_cases hb : (measureOk a b c && textOk l) = true
  · obtain ⟨hm, ht⟩ : measureOk a b c = true ∧ textOk l = true := by simpa using hb
    rw [if_pos hb]
    have h := impl_brk_loop a b c l ls hm ht hl 0 0 (by omega) (by omega)
    rw [List.drop_zero] at h
    exact ev_eq h (fun k => by simp only [impl_IsBreaking.f, impl_both_eq, Option.bind_some, if_pos hb]; rfl)
  · rw [if_neg hb]; exact ev_const (fun k => by simp only [impl_IsBreaking.f, impl_both_eq, Option.bind_some, if_neg hb])
theorem spec_IsBreaking_ev (a b c : Int) (l ls : List Int) (hl0 : l.length ≤ 1099511627776) (hl : ls.length ≤ 1099511627776) (hw : ∀ x ∈ ls, (Lit.int .i64 x).wf = true) : Ev (fun k => spec_IsBreaking.f k a b c l ls) (isBreaking a b c l ls) := by
  have hok := spec_l4Ok_ev a b c l hl0
  unfold isBreaking
  refine Ev.bind (f := fun k t => if t = true then (spec_IsBreaking.l0 k l 0 ls (ls.length : Int) 0 a b c) else some false) hok ?_
  by_cases hb : (measureOk a b c && textOk l) = true
  · obtain ⟨hm, ht⟩ : measureOk a b c = true ∧ textOk l = true := by simpa using hb
    simp only [if_pos hb]
    have h := spec_brk_loop a b c l ls hm ht hl hw 0 0 (by omega) (by omega)
    rw [List.drop_zero, brk_same] at h
    exact h
  · simp only [if_neg hb]; exact Ev.now _
end Go.Proofs.Ytnkpblbofjchaaa.Q
