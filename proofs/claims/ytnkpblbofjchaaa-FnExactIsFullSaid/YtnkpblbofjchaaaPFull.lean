/- Whether a line is full, and the kind of a line of words: what the program's and the reference's functions give. Conditions: those that each lemma names. -/
import Derived.Test.YtnkpblbofjchaaaP0
import Derived.Test.YtnkpblbofjchaaaPLine
import Derived.Test.YtnkpblbofjchaaaPMeasure
import Derived.Test.YtnkpblbofjchaaaPSpread
import Derived.Test.YtnkpblbofjchaaaQ5
import Derived.Test.YtnkpblbofjchaaaQ6
import Derived.Test.YtnkpblbofjchaaaQ7
import Derived.Test.YtnkpblbofjchaaaQ8
namespace Go.Proofs.Ytnkpblbofjchaaa.Q
open Go.RowKit Go.Proofs.YtnkpblbofjchaaaW.PrintWords Go.Proofs.YtnkpblbofjchaaaW.PrintLast Go.Proofs.YtnkpblbofjchaaaW.PrintMore
set_option linter.unusedVariables false
set_option linter.unusedSimpArgs false
def fullOf (s : Int × Int × Bool) (n : Int) : Bool := if s.2.2 = true then (if s.2.1 = 0 then true else decide (s.2.1 < n)) else false
def isFullV (a b c : Int) (l : List Int) : Bool := fullOf (spreadLine a b c l) (bandsN l)
theorem impl_full_eq (a b c s n : Int) (hm : measureOk a b c = true) (h0 : 0 ≤ n) (h1 : n ≤ 1000) (h2 : -1000000 ≤ s) (h3 : s ≤ 1000000) : impl_full.f a b c s n = some (fullOf (spreadV a b c s n) n) := by
  unfold impl_full.f fullOf
  rw [impl_spread_eq a b c s n hm h0 h1 h2 h3, Option.bind_some]
  repeat' split
  all_goals rfl
theorem spreadLine_ok (a b c : Int) (l : List Int) (h : (spreadLine a b c l).2.2 = true) : measureOk a b c = true ∧ lineOk l = true ∧ 0 ≤ a - lettersN l - bandsN l * b := by
  unfold spreadLine at h
  by_cases hm : measureOk a b c = true
  · rw [if_pos hm] at h
    by_cases hk : lineOk l = true
    · rw [if_pos hk] at h
      refine ⟨hm, hk, ?_⟩
      unfold spreadV at h
      by_cases hf : a - lettersN l - bandsN l * b < 0
      · rw [if_pos hf] at h; simp at h
      · omega
    · rw [if_neg hk] at h; simp at h
  · rw [if_neg hm] at h; simp at h
theorem spec_IsFull_ev (a b c : Int) (l : List Int) (hl : l.length ≤ 1099511627776) : Ev (fun k => spec_IsFull.f k a b c l) (isFullV a b c l) := by
  obtain ⟨K1, h1⟩ := spec_SpreadLine_ev a b c l hl
  obtain ⟨K2, h2⟩ := spec_l3Sum_ev l hl
  refine ⟨K1 + K2, fun k hk => ?_⟩
  simp only [spec_IsFull.f, h1 k (by omega), h2 k (by omega), Option.bind_some, isFullV, fullOf]
  by_cases ho : (spreadLine a b c l).2.2 = true
  · obtain ⟨_, hk2, _⟩ := spreadLine_ok a b c l ho
    rw [if_pos ho, if_pos ho, (lsum_line l hk2).1]
    split <;> rfl
  · rw [if_neg ho, if_neg ho]
theorem impl_IsFull_ev (a b c : Int) (l : List Int) (hl : l.length ≤ 1099511627776) : Ev (fun k => impl_IsFull.f k a b c l) (isFullV a b c l) := by
  obtain ⟨K2, h2⟩ := impl_lb_ev l hl
  refine ⟨K2, fun k hk => ?_⟩
  simp only [impl_IsFull.f, h2 k (by omega), Option.bind_some, impl_MeasureOk_eq, impl_LineOk_eq, isFullV, spreadLine]
  by_cases hm : measureOk a b c = true
  · by_cases hk2 : lineOk l = true
    · obtain ⟨s1, s2, s3, s4⟩ := lsum_line l hk2
      rw [if_pos hm, if_pos hk2, if_pos hm, if_pos hk2, s1]
      rw [impl_full_eq a b c _ _ hm (by omega) (by omega) (by omega) (by omega)]
      rfl
    · rw [if_pos hm, if_neg hk2, if_pos hm, if_neg hk2]; rfl
  · rw [if_neg hm, if_neg hm]; rfl
theorem impl_sum_ev (l : List Int) (hl : l.length ≤ 1000) (h : ∀ w ∈ l, 0 ≤ w ∧ w ≤ 2000) : Ev (fun k => impl_sum.f k l) (lettersN l) := by
  have main : ∀ i (s : Int), i ≤ l.length → (0 ≤ s ∧ s ≤ 2000 * i) → Ev (fun k => impl_sum.l0 k s l (l.length : Int) (i : Int)) (s + lettersN (l.drop i)) := by
    refine ev_down (fun k (s : Int) i => impl_sum.l0 k s l (l.length : Int) i) l.length (fun i s => 0 ≤ s ∧ s ≤ 2000 * i) (fun i s => s + lettersN (l.drop i)) ?_ ?_
    · intro s _
      refine ev_step1 (fun k => ?_)
      simp only [impl_sum.l0]
      rw [if_neg (by omega), List.drop_length]
      simp [lettersN]
    · intro i s hi hs ih
      have hw := h l[i] (List.getElem_mem hi)
      rw [List.drop_eq_getElem_cons hi, lettersN, ← Int.add_assoc]
      refine Ev.step (f := fun k => impl_sum.l0 k (s + l[i]) l (l.length : Int) ((i + 1 : Nat) : Int)) (fun k => ?_) (ih (s + l[i]) (by omega))
      simp only [impl_sum.l0]
      rw [if_pos (by omega), if_pos (by omega), if_pos (by omega), rd_nat l i hi, w1 i (by omega), wrap_id (s + l[i]) (by omega) (by omega)]
  have h := main 0 0 (by omega) (by omega)
  rw [List.drop_zero, Int.zero_add] at h
  exact h
theorem lettersN_words (l : List Int) (h : ∀ w ∈ l, 0 ≤ w ∧ w ≤ 2000) : 0 ≤ lettersN l ∧ lettersN l ≤ 2000 * l.length := by
  induction l with
  | nil => simp [lettersN]
  | cons w r ih =>
    have h1 := h w List.mem_cons_self
    have h2 := ih (fun x hx => h x (List.mem_cons_of_mem _ hx))
    simp only [lettersN, List.length_cons]
    omega
/-- The kind of a line of words. -/
def kindV (a b c : Int) (ws : List Int) : Int := if (spreadV a b c (lettersN ws) ((ws.length : Int) - 1)).2.2 = true then (if fullOf (spreadV a b c (lettersN ws) ((ws.length : Int) - 1)) ((ws.length : Int) - 1) = true then 2 else 1) else 0
theorem impl_kindOf_ev (a b c : Int) (ws : List Int) (hm : measureOk a b c = true) (h0 : 1 ≤ ws.length) (h1 : ws.length ≤ 40) (h : ∀ w ∈ ws, 0 ≤ w ∧ w ≤ 2000) : Ev (fun k => impl_kindOf.f k a b c ws) (kindV a b c ws) := by
  obtain ⟨K, hs⟩ := impl_sum_ev ws (by omega) h
  have hr := lettersN_words ws h
  refine ⟨K, fun k hk => ?_⟩
  have e : wrap64 ((ws.length : Int) - 1) = (ws.length : Int) - 1 := wrap_id _ (by omega) (by omega)
  simp only [impl_kindOf.f, hs k hk, Option.bind_some, e, impl_spread_eq a b c (lettersN ws) ((ws.length : Int) - 1) hm (by omega) (by omega) (by omega) (by omega), impl_full_eq a b c (lettersN ws) ((ws.length : Int) - 1) hm (by omega) (by omega) (by omega) (by omega), kindV]
  repeat' split
  all_goals rfl
theorem spec_l4Rest_ev (a b c : Int) (ws : List Int) (hm : measureOk a b c = true) (h0 : 1 ≤ ws.length) (h1 : ws.length ≤ 40) (h : ∀ w ∈ ws, 0 ≤ w ∧ w ≤ 2000) :
    Ev (fun k => spec_l4Rest.f k a b c ws) (a - lettersN ws - ((ws.length : Int) - 1) * b, (ws.length : Int) - 1) := by
  obtain ⟨m1, m2, m3, m4, m5, m6⟩ := (measureOk_iff a b c).1 hm
  have hr := lettersN_words ws h
  have hb := mul_bound ((ws.length : Int) - 1) b 120 100 (by omega) (by omega) (by omega) m4
  have e : wrap64 ((ws.length : Int) - 1) = (ws.length : Int) - 1 := wrap_id _ (by omega) (by omega)
  have main : ∀ i (s : Int), i ≤ ws.length → (0 ≤ s ∧ s ≤ 2000 * i ∧ s + lettersN (ws.drop i) = lettersN ws) → Ev (fun k => spec_l4Rest.l0 k ws s ws (ws.length : Int) (i : Int) a b c) (a - lettersN ws - ((ws.length : Int) - 1) * b, (ws.length : Int) - 1) := by
    refine ev_down (fun k (s : Int) i => spec_l4Rest.l0 k ws s ws (ws.length : Int) i a b c) ws.length (fun i s => 0 ≤ s ∧ s ≤ 2000 * i ∧ s + lettersN (ws.drop i) = lettersN ws) (fun _ _ => (a - lettersN ws - ((ws.length : Int) - 1) * b, (ws.length : Int) - 1)) ?_ ?_
    · intro s hs
      rw [List.drop_length, lettersN, Int.add_zero] at hs
      refine ev_step1 (fun k => ?_)
      simp only [spec_l4Rest.l0]
      rw [if_neg (by omega), e, hs.2.2, wrap_id (((ws.length : Int) - 1) * b) (by omega) (by omega), wrap_id (a - lettersN ws) (by omega) (by omega), wrap_id (a - lettersN ws - ((ws.length : Int) - 1) * b) (by omega) (by omega)]
    · intro i s hi hs ih
      have hw := h ws[i] (List.getElem_mem hi)
      rw [List.drop_eq_getElem_cons hi, lettersN] at hs
      refine Ev.step (f := fun k => spec_l4Rest.l0 k ws (s + ws[i]) ws (ws.length : Int) ((i + 1 : Nat) : Int) a b c) (fun k => ?_) (ih (s + ws[i]) ⟨by omega, by omega, by omega⟩)
      simp only [spec_l4Rest.l0]
      rw [if_pos (by omega), if_pos (by omega), if_pos (by omega), rd_nat ws i hi, w1 i (by omega), wrap_id (s + ws[i]) (by omega) (by omega)]
  exact main 0 0 (by omega) ⟨by omega, by omega, by rw [List.drop_zero]; omega⟩
theorem mn_comm (a b : Int) : mn a b = mn b a := by unfold mn; split <;> split <;> omega
theorem spec_l4Kind_ev (a b c : Int) (ws : List Int) (hm : measureOk a b c = true) (h0 : 1 ≤ ws.length) (h1 : ws.length ≤ 40) (h : ∀ w ∈ ws, 0 ≤ w ∧ w ≤ 2000) : Ev (fun k => spec_l4Kind.f k a b c ws) (kindV a b c ws) := by
  obtain ⟨m1, m2, m3, m4, m5, m6⟩ := (measureOk_iff a b c).1 hm
  have hr := lettersN_words ws h
  have hb := mul_bound ((ws.length : Int) - 1) b 120 100 (by omega) (by omega) (by omega) m4
  obtain ⟨K, hs⟩ := spec_l4Rest_ev a b c ws hm h0 h1 h
  refine ⟨K, fun k hk => ?_⟩
  generalize hn : (ws.length : Int) - 1 = n at *
  generalize hF : a - lettersN ws - n * b = F at *
  have hn0 : 0 ≤ n := by omega
  simp only [spec_l4Kind.f, spec_l4Rise.f, hs k hk, Option.bind_some, kindV, fullOf, spreadV, hn, hF]
  by_cases hf : F < 0
  · rw [if_pos hf, if_pos hf]; rfl
  · rw [if_neg hf, if_neg hf]
    have hrv := riseV_facts (c - b) F n (by omega) (by omega) hn0
    have e4 : wrap64 (c - b) = c - b := wrap_id _ (by omega) (by omega)
    have key : (if n = 0 then some 0 else some (mn (wrap64 (Int.tdiv F n)) (wrap64 (c - b)))) = some (riseV (c - b) F n) := by
      unfold riseV
      by_cases hz : n = 0
      · rw [if_pos hz, if_neg (by omega)]
      · have e5 : Int.tdiv F n = F / n := Int.tdiv_eq_ediv_of_nonneg (by omega)
        have e6 : F / n ≤ F := Int.ediv_le_self _ (by omega)
        have e7 : 0 ≤ F / n := Int.ediv_nonneg (by omega) (by omega)
        rw [if_neg hz, if_pos (by omega), e5, e4, wrap_id (F / n) (by omega) (by omega), mn_comm]
    rw [key, Option.bind_some, wrap_id (n * riseV (c - b) F n) (by omega) (by omega), wrap_id (F - n * riseV (c - b) F n) (by omega) (by omega)]
    simp only [if_true]
    by_cases g1 : F - n * riseV (c - b) F n = 0
    · rw [if_pos g1, if_pos g1]; rfl
    · rw [if_neg g1, if_neg g1]
      by_cases g2 : F - n * riseV (c - b) F n < n
      · rw [if_pos g2, decide_eq_true g2]; rfl
      · rw [if_neg g2, decide_eq_false g2]; rfl
theorem impl_both_eq (a b c : Int) (l : List Int) : impl_both.f a b c l = some (measureOk a b c && textOk l) := by
  unfold impl_both.f
  rw [impl_MeasureOk_eq, Option.bind_some, impl_TextOk_eq]
  cases measureOk a b c <;> rfl
theorem spec_l4Ok_ev (a b c : Int) (l : List Int) (hl : l.length ≤ 1099511627776) : Ev (fun k => spec_l4Ok.f k a b c l) (measureOk a b c && textOk l) := by
  obtain ⟨K, h⟩ := spec_TextOk_ev l hl
  refine ⟨K, fun k hk => ?_⟩
  simp only [spec_l4Ok.f, spec_MeasureOk_eq, Option.bind_some, h k hk]
  cases measureOk a b c <;> rfl
/-- The words from an index on up to another one. -/
def cutW (l : List Int) (i j : Int) : List Int := (l.take j.toNat).drop i.toNat
theorem cutW_length (l : List Int) (i j : Int) (h0 : 0 ≤ i) (h1 : i ≤ j) (h2 : j ≤ l.length) : ((cutW l i j).length : Int) = j - i := by
  simp only [cutW, List.length_drop, List.length_take]
  omega
theorem cutW_mem (l : List Int) (i j : Int) {w : Int} (h : w ∈ cutW l i j) : w ∈ l := List.mem_of_mem_take (List.mem_of_mem_drop h)
theorem text_words {l : List Int} (h : textOk l = true) (i j : Int) (h0 : 0 ≤ i) (h1 : i < j) (h2 : j ≤ l.length) : 1 ≤ (cutW l i j).length ∧ (cutW l i j).length ≤ 40 ∧ ∀ w ∈ cutW l i j, 0 ≤ w ∧ w ≤ 2000 := by
  obtain ⟨g1, g2, g3⟩ := (textOk_iff l).1 h
  have hl := cutW_length l i j h0 (by omega) h2
  refine ⟨by omega, by omega, fun w hw => ?_⟩
  have := g3 w (cutW_mem l i j hw)
  omega
/-- LineKind. -/
def lineKind (a b c : Int) (l : List Int) (i j : Int) : Int :=
  if (measureOk a b c && textOk l) = true then (if i < 0 then -1 else if j > (l.length : Int) then -1 else if i ≥ j then -1 else kindV a b c (cutW l i j)) else -1
theorem impl_LineKind_ev (a b c : Int) (l : List Int) (i j : Int) : Ev (fun k => impl_LineKind.f k a b c l i j) (lineKind a b c l i j) := by
  unfold lineKind
  by_cases hb : (measureOk a b c && textOk l) = true
  · obtain ⟨hm, ht⟩ : measureOk a b c = true ∧ textOk l = true := by simpa using hb
    rw [if_pos hb]
    by_cases h1 : i < 0
    · rw [if_pos h1]; exact ev_const (fun k => by simp only [impl_LineKind.f, impl_both_eq, Option.bind_some, if_pos hb, if_pos h1])
    by_cases h2 : j > (l.length : Int)
    · rw [if_neg h1, if_pos h2]; exact ev_const (fun k => by simp only [impl_LineKind.f, impl_both_eq, Option.bind_some, if_pos hb, if_neg h1, if_pos h2])
    by_cases h3 : i ≥ j
    · rw [if_neg h1, if_neg h2, if_pos h3]; exact ev_const (fun k => by simp only [impl_LineKind.f, impl_both_eq, Option.bind_some, if_pos hb, if_neg h1, if_neg h2, if_pos h3])
    rw [if_neg h1, if_neg h2, if_neg h3]
    obtain ⟨g1, g2, g3⟩ := text_words ht i j (by omega) (by omega) (by omega)
    obtain ⟨K, hk⟩ := impl_kindOf_ev a b c (cutW l i j) hm g1 g2 g3
    refine ⟨K, fun k hk' => ?_⟩
    simp only [impl_LineKind.f, impl_both_eq, Option.bind_some, if_pos hb, if_neg h1, if_neg h2, if_neg h3]
    rw [if_pos (by omega), if_pos (by omega), if_pos (by omega)]
    have := hk k hk'
    simp only [cutW] at this
    rw [this]; rfl
  · rw [if_neg hb]; exact ev_const (fun k => by simp only [impl_LineKind.f, impl_both_eq, Option.bind_some, if_neg hb])
theorem spec_LineKind_ev (a b c : Int) (l : List Int) (i j : Int) (hl : l.length ≤ 1099511627776) : Ev (fun k => spec_LineKind.f k a b c l i j) (lineKind a b c l i j) := by
  obtain ⟨K0, hok⟩ := spec_l4Ok_ev a b c l hl
  unfold lineKind
  by_cases hb : (measureOk a b c && textOk l) = true
  · obtain ⟨hm, ht⟩ : measureOk a b c = true ∧ textOk l = true := by simpa using hb
    rw [if_pos hb]
    by_cases h1 : i < 0
    · rw [if_pos h1]; exact ⟨K0, fun k hk => by simp only [spec_LineKind.f, hok k hk, Option.bind_some, if_pos hb, if_pos h1]⟩
    by_cases h2 : j > (l.length : Int)
    · rw [if_neg h1, if_pos h2]; exact ⟨K0, fun k hk => by simp only [spec_LineKind.f, hok k hk, Option.bind_some, if_pos hb, if_neg h1, if_pos h2]⟩
    by_cases h3 : i ≥ j
    · rw [if_neg h1, if_neg h2, if_pos h3]; exact ⟨K0, fun k hk => by simp only [spec_LineKind.f, hok k hk, Option.bind_some, if_pos hb, if_neg h1, if_neg h2, if_pos h3]⟩
    rw [if_neg h1, if_neg h2, if_neg h3]
    obtain ⟨g1, g2, g3⟩ := text_words ht i j (by omega) (by omega) (by omega)
    obtain ⟨K, hk⟩ := spec_l4Kind_ev a b c (cutW l i j) hm g1 g2 g3
    refine ⟨K0 + K, fun k hk' => ?_⟩
    simp only [spec_LineKind.f, hok k (by omega), Option.bind_some, if_pos hb, if_neg h1, if_neg h2, if_neg h3]
    rw [if_pos (by omega), if_pos (by omega), if_pos (by omega)]
    have := hk k (by omega)
    simp only [cutW] at this
    rw [this]; rfl
  · rw [if_neg hb]; exact ⟨K0, fun k hk => by simp only [spec_LineKind.f, hok k hk, Option.bind_some, if_neg hb]⟩
end Go.Proofs.Ytnkpblbofjchaaa.Q
