/- Kinds of lines of words. Conditions: those that each lemma names. -/
import Derived.Test.YtnkpblbofjchaaaP0
import Derived.Test.YtnkpblbofjchaaaPLine
import Derived.Test.YtnkpblbofjchaaaPMeasure
import Derived.Test.YtnkpblbofjchaaaPSpread
import Derived.Test.YtnkpblbofjchaaaQ21
import Derived.Test.YtnkpblbofjchaaaQ24
import Derived.Test.YtnkpblbofjchaaaQ25
import Derived.Test.YtnkpblbofjchaaaQ27
import Derived.Test.YtnkpblbofjchaaaQ28
namespace Go.Proofs.Ytnkpblbofjchaaa.Q
open Go.RowKit Go.Proofs.YtnkpblbofjchaaaW.PrintWords Go.Proofs.YtnkpblbofjchaaaW.PrintLast Go.Proofs.YtnkpblbofjchaaaW.PrintMore
set_option linter.unusedVariables false
set_option linter.unusedSimpArgs false
def fullOf (s : Int × Int × Bool) (n : Int) : Bool := if s.2.2 = true then (if s.2.1 = 0 then true else decide (s.2.1 < n)) else false
theorem impl_full_eq (a b c s n : Int) (hm : measureOk a b c = true) (h0 : 0 ≤ n) (h1 : n ≤ 1000) (h2 : -1000000 ≤ s) (h3 : s ≤ 1000000) : impl_full.f a b c s n = some (fullOf (spreadV a b c s n) n) := by
  unfold impl_full.f fullOf
  rw [impl_spread_eq a b c s n hm h0 h1 h2 h3, Option.bind_some]
  repeat' split
  all_goals rfl
theorem impl_sum_ev (l : List Int) (hl : l.length ≤ 1000) (h : ∀ w ∈ l, 0 ≤ w ∧ w ≤ 2000) : Ev (fun k => impl_sum.f k l) (lettersN l) := by
  have main : ∀ i (s : Int), i ≤ l.length → (0 ≤ s ∧ s ≤ 2000 * i) → Ev (fun k => impl_sum.l0 k s l (l.length : Int) (i : Int)) (s + lettersN (l.drop i)) := by
    refine ev_down (fun k (s : Int) i => impl_sum.l0 k s l (l.length : Int) i) l.length (fun i s => 0 ≤ s ∧ s ≤ 2000 * i) (fun i s => s + lettersN (l.drop i)) ?_ ?_
    · intro s _
      refine ev_step1 (fun k => ?_)
      simp only [impl_sum.l0]
      rw [if_neg (by omega), List.drop_length]
      simp [lettersN]
    · intro i s hi hs ih
      have hw := h l[i] (List.getElem_mem hi)
      rw [List.drop_eq_getElem_cons hi, lettersN, ← Int.add_assoc]
      refine Ev.step (f := fun k => impl_sum.l0 k (s + l[i]) l (l.length : Int) ((i + 1 : Nat) : Int)) (fun k => ?_) (ih (s + l[i]) (by omega))
      simp only [impl_sum.l0]
      rw [if_pos (by omega), if_pos (by omega), if_pos (by omega), rd_nat l i hi, w1 i (by omega), wrap_id (s + l[i]) (by omega) (by omega)]
  have h := main 0 0 (by omega) (by omega)
  rw [List.drop_zero, Int.zero_add] at h
  exact h
theorem lettersN_words (l : List Int) (h : ∀ w ∈ l, 0 ≤ w ∧ w ≤ 2000) : 0 ≤ lettersN l ∧ lettersN l ≤ 2000 * l.length := by
  induction l with
  | nil => simp [lettersN]
  | cons w r ih =>
    have h1 := h w List.mem_cons_self
    have h2 := ih (fun x hx => h x (List.mem_cons_of_mem _ hx))
    simp only [lettersN, List.length_cons]
    omega
/-- The kind of a line of words. -/
def kindV (a b c : Int) (ws : List Int) : Int := if (spreadV a b c (lettersN ws) ((ws.length : Int) - 1)).2.2 = true then (if fullOf (spreadV a b c (lettersN ws) ((ws.length : Int) - 1)) ((ws.length : Int) - 1) = true then 2 else 1) else 0
theorem impl_kindOf_ev (a b c : Int) (ws : List Int) (hm : measureOk a b c = true) (h0 : 1 ≤ ws.length) (h1 : ws.length ≤ 40) (h : ∀ w ∈ ws, 0 ≤ w ∧ w ≤ 2000) : Ev (fun k => impl_kindOf.f k a b c ws) (kindV a b c ws) := by
  obtain ⟨K, hs⟩ := impl_sum_ev ws (by omega) h
  have hr := lettersN_words ws h
  refine ⟨K, fun k hk => ?_⟩
  have e : wrap64 ((ws.length : Int) - 1) = (ws.length : Int) - 1 := wrap_id _ (by omega) (by omega)
  simp only [impl_kindOf.f, hs k hk, Option.bind_some, e, impl_spread_eq a b c (lettersN ws) ((ws.length : Int) - 1) hm (by omega) (by omega) (by omega) (by omega), impl_full_eq a b c (lettersN ws) ((ws.length : Int) - 1) hm (by omega) (by omega) (by omega) (by omega), kindV]
  repeat' split
  all_goals rfl
theorem spec_l4Rest_ev (a b c : Int) (ws : List Int) (hm : measureOk a b c = true) (h0 : 1 ≤ ws.length) (h1 : ws.length ≤ 40) (h : ∀ w ∈ ws, 0 ≤ w ∧ w ≤ 2000) :
    Ev (fun k => spec_l4Rest.f k a b c ws) (a - lettersN ws - ((ws.length : Int) - 1) * b, (ws.length : Int) - 1) := by
  obtain ⟨m1, m2, m3, m4, m5, m6⟩ := (measureOk_iff a b c).1 hm
  have hr := lettersN_words ws h
  have hb := mul_bound ((ws.length : Int) - 1) b 120 100 (by omega) (by omega) (by omega) m4
  have e : wrap64 ((ws.length : Int) - 1) = (ws.length : Int) - 1 := wrap_id _ (by omega) (by omega)
  have main : ∀ i (s : Int), i ≤ ws.length → (0 ≤ s ∧ s ≤ 2000 * i ∧ s + lettersN (ws.drop i) = lettersN ws) → Ev (fun k => spec_l4Rest.l0 k ws s ws (ws.length : Int) (i : Int) a b c) (a - lettersN ws - ((ws.length : Int) - 1) * b, (ws.length : Int) - 1) := by
    refine ev_down (fun k (s : Int) i => spec_l4Rest.l0 k ws s ws (ws.length : Int) i a b c) ws.length (fun i s => 0 ≤ s ∧ s ≤ 2000 * i ∧ s + lettersN (ws.drop i) = lettersN ws) (fun _ _ => (a - lettersN ws - ((ws.length : Int) - 1) * b, (ws.length : Int) - 1)) ?_ ?_
    · intro s hs
      rw [List.drop_length, lettersN, Int.add_zero] at hs
      refine ev_step1 (fun k => ?_)
      simp only [spec_l4Rest.l0]
      rw [if_neg (by omega), e, hs.2.2, wrap_id (((ws.length : Int) - 1) * b) (by omega) (by omega), wrap_id (a - lettersN ws) (by omega) (by omega), wrap_id (a - lettersN ws - ((ws.length : Int) - 1) * b) (by omega) (by omega)]
    · intro i s hi hs ih
      have hw := h ws[i] (List.getElem_mem hi)
      rw [List.drop_eq_getElem_cons hi, lettersN] at hs
      refine Ev.step (f := fun k => spec_l4Rest.l0 k ws (s + ws[i]) ws (ws.length : Int) ((i + 1 : Nat) : Int) a b c) (fun k => ?_) (ih (s + ws[i]) ⟨by omega, by omega, by omega⟩)
      simp only [spec_l4Rest.l0]
      rw [if_pos (by omega), if_pos (by omega), if_pos (by omega), rd_nat ws i hi, w1 i (by omega), wrap_id (s + ws[i]) (by omega) (by omega)]
  exact main 0 0 (by omega) ⟨by omega, by omega, by rw [List.drop_zero]; omega⟩
theorem mn_comm (a b : Int) : mn a b = mn b a := by unfold mn; split <;> split <;> omega
theorem spec_l4Kind_ev (a b c : Int) (ws : List Int) (hm : measureOk a b c = true) (h0 : 1 ≤ ws.length) (h1 : ws.length ≤ 40) (h : ∀ w ∈ ws, 0 ≤ w ∧ w ≤ 2000) : Ev (fun k => spec_l4Kind.f k a b c ws) (kindV a b c ws) := by
  obtain ⟨m1, m2, m3, m4, m5, m6⟩ := (measureOk_iff a b c).1 hm
  have hr := lettersN_words ws h
  have hb := mul_bound ((ws.length : Int) - 1) b 120 100 (by omega) (by omega) (by omega) m4
  obtain ⟨K, hs⟩ := spec_l4Rest_ev a b c ws hm h0 h1 h
  refine ⟨K, fun k hk => ?_⟩
  generalize hn : (ws.length : Int) - 1 = n at *
  generalize hF : a - lettersN ws - n * b = F at *
  have hn0 : 0 ≤ n := by omega
  simp only [spec_l4Kind.f, spec_l4Rise.f, hs k hk, Option.bind_some, kindV, fullOf, spreadV, hn, hF]
  by_cases hf : F < 0
  · rw [if_pos hf, if_pos hf]; rfl
  · rw [if_neg hf, if_neg hf]
    have hrv := riseV_facts (c - b) F n (by omega) (by omega) hn0
    have e4 : wrap64 (c - b) = c - b := wrap_id _ (by omega) (by omega)
    have key : (if n = 0 then some 0 else some (mn (wrap64 (Int.tdiv F n)) (wrap64 (c - b)))) = some (riseV (c - b) F n) := by
      unfold riseV
      by_cases hz : n = 0
      · rw [if_pos hz, if_neg (by omega)]
      · have e5 : Int.tdiv F n = F / n := Int.tdiv_eq_ediv_of_nonneg (by omega)
        have e6 : F / n ≤ F := Int.ediv_le_self _ (by omega)
        have e7 : 0 ≤ F / n := Int.ediv_nonneg (by omega) (by omega)
        rw [if_neg hz, if_pos (by omega), e5, e4, wrap_id (F / n) (by omega) (by omega), mn_comm]
    rw [key, Option.bind_some, wrap_id (n * riseV (c - b) F n) (by omega) (by omega), wrap_id (F - n * riseV (c - b) F n) (by omega) (by omega)]
    simp only [if_true]
    by_cases g1 : F - n * riseV (c - b) F n = 0
    · rw [if_pos g1, if_pos g1]; rfl
    · rw [if_neg g1, if_neg g1]
      by_cases g2 : F - n * riseV (c - b) F n < n
      · rw [if_pos g2, decide_eq_true g2]; rfl
      · rw [if_neg g2, decide_eq_false g2]; rfl
theorem impl_both_eq (a b c : Int) (l : List Int) : impl_both.f a b c l = some (measureOk a b c && textOk l) := by
  unfold impl_both.f
  rw [impl_MeasureOk_eq, Option.bind_some, impl_TextOk_eq]
  cases measureOk a b c <;> rfl
theorem spec_l4Ok_ev (a b c : Int) (l : List Int) (hl : l.length ≤ 1099511627776) : Ev (fun k => spec_l4Ok.f k a b c l) (measureOk a b c && textOk l) := by
  obtain ⟨K, h⟩ := spec_TextOk_ev l hl
  refine ⟨K, fun k hk => ?_⟩
  simp only [spec_l4Ok.f, spec_MeasureOk_eq, Option.bind_some, h k hk]
  cases measureOk a b c <;> rfl
/-- The words from an index on up to another one. -/
def cutW (l : List Int) (i j : Int) : List Int := (l.take j.toNat).drop i.toNat
theorem cutW_length (l : List Int) (i j : Int) (h0 : 0 ≤ i) (h1 : i ≤ j) (h2 : j ≤ l.length) : ((cutW l i j).length : Int) = j - i := by
  simp only [cutW, List.length_drop, List.length_take]
  omega
theorem cutW_mem (l : List Int) (i j : Int) {w : Int} (h : w ∈ cutW l i j) : w ∈ l := List.mem_of_mem_take (List.mem_of_mem_drop h)
theorem text_words {l : List Int} (h : textOk l = true) (i j : Int) (h0 : 0 ≤ i) (h1 : i < j) (h2 : j ≤ l.length) : 1 ≤ (cutW l i j).length ∧ (cutW l i j).length ≤ 40 ∧ ∀ w ∈ cutW l i j, 0 ≤ w ∧ w ≤ 2000 := by
  obtain ⟨g1, g2, g3⟩ := (textOk_iff l).1 h
  have hl := cutW_length l i j h0 (by omega) h2
  refine ⟨by omega, by omega, fun w hw => ?_⟩
  have := g3 w (cutW_mem l i j hw)
  omega
theorem kindV_cases (a b c : Int) (ws : List Int) : kindV a b c ws = 0 ∨ kindV a b c ws = 1 ∨ kindV a b c ws = 2 := by
  unfold kindV
  repeat' split
  all_goals omega
end Go.Proofs.Ytnkpblbofjchaaa.Q
