/- A line from behind, and the bands of a line that is spread: plain facts over lists. Conditions: those that each lemma names. -/
import Derived.Test.YtnkpblbofjchaaaP0
import Derived.Test.YtnkpblbofjchaaaPFull
import Derived.Test.YtnkpblbofjchaaaPKind
import Derived.Test.YtnkpblbofjchaaaPLine
import Derived.Test.YtnkpblbofjchaaaPMeasure
import Derived.Test.YtnkpblbofjchaaaPSpread
import Derived.Test.YtnkpblbofjchaaaPSpreadL
import Derived.Test.YtnkpblbofjchaaaPWide
import Derived.Test.YtnkpblbofjchaaaQ2
namespace Go.Proofs.Ytnkpblbofjchaaa.Q
open Go.RowKit Go.Proofs.YtnkpblbofjchaaaW.PrintWords Go.Proofs.YtnkpblbofjchaaaW.PrintLast Go.Proofs.YtnkpblbofjchaaaW.PrintMore
set_option linter.unusedVariables false
set_option linter.unusedSimpArgs false
theorem lettersN_append : ∀ l m : List Int, lettersN (l ++ m) = lettersN l + lettersN m
  | [], m => by simp [lettersN]
  | w :: r, m => by rw [List.cons_append, lettersN, lettersN, lettersN_append r m]; omega
theorem bandsL_eq (b r : Int) (h1 : 0 ≤ b + r) (h2 : b + r ≤ 1000) : ∀ (l : List Int) (m : Nat), m ≤ 1000000 → bandsL b r (m : Int) l = List.replicate (min m (bandsN l)) (b + r + 1) ++ List.replicate (bandsN l - min m (bandsN l)) (b + r)
  | [], m, _ => by simp [bandsL, bandsN]
  | w :: ws, m, hm => by
    have e1 : wrap64 (b + r) = b + r := wrap_id _ (by omega) (by omega)
    have e2 : wrap64 (b + r + 1) = b + r + 1 := wrap_id _ (by omega) (by omega)
    rw [bandsL, bandsN, e1, e2]
    by_cases hw : w = 0
    · rw [if_pos hw, if_pos hw]
      cases m with
      | zero =>
        rw [if_neg (by omega), bandsL_eq b r h1 h2 ws 0 (by omega)]
        simp only [Nat.zero_min, List.replicate_zero, List.nil_append, Nat.sub_zero, Nat.add_comm 1, List.replicate_succ]
      | succ m =>
        rw [if_pos (by omega), wrap_id (((m + 1 : Nat) : Int) - 1) (by omega) (by omega), show ((m + 1 : Nat) : Int) - 1 = (m : Int) by omega, bandsL_eq b r h1 h2 ws m (by omega)]
        rw [show min (m + 1) (1 + bandsN ws) = min m (bandsN ws) + 1 by omega, show 1 + bandsN ws - (min m (bandsN ws) + 1) = bandsN ws - min m (bandsN ws) by omega, List.replicate_succ, List.cons_append]
    · rw [if_neg hw, if_neg hw, Nat.zero_add, bandsL_eq b r h1 h2 ws m hm]
theorem lettersN_replicate (x : Int) : ∀ n : Nat, lettersN (List.replicate n x) = n * x
  | 0 => by simp [lettersN]
  | n + 1 => by
    rw [List.replicate_succ, lettersN, lettersN_replicate x n, show ((n + 1 : Nat) : Int) = (n : Int) + 1 by omega, Int.add_mul, Int.one_mul]; omega
theorem total_evG (l : List Int) (hl : l.length ≤ 1000) (hw : ∀ w ∈ l, 0 ≤ w ∧ w ≤ 1000) : Ev (fun k => laws_total.f k l) (lettersN l) := by
  have main : ∀ d i (x : Int), l.length - i = d → i ≤ l.length → 0 ≤ x → x ≤ 1000 * i → Ev (fun k => laws_total.l0 k x l (l.length : Int) (i : Int)) (x + lettersN (l.drop i)) := by
    intro d
    induction d with
    | zero =>
      intro i x hd hi h0 hx
      refine ev_step1 (fun k => ?_)
      simp only [laws_total.l0]
      rw [if_neg (by omega), List.drop_eq_nil_of_le (by omega)]
      simp [lettersN]
    | succ d ih =>
      intro i x hd hi h0 hx
      have hi' : i < l.length := by omega
      have hwi := hw l[i] (List.getElem_mem hi')
      rw [List.drop_eq_getElem_cons hi', lettersN]
      have h := ih (i + 1) (x + l[i]) (by omega) (by omega) (by omega) (by omega)
      rw [← Int.add_assoc]
      refine Ev.step (fun k => ?_) h
      simp only [laws_total.l0]
      rw [if_pos (by omega), if_pos (by omega), if_pos (by omega), rd_nat l i hi', w1 i (by omega), wrap_id (x + l[i]) (by omega) (by omega)]
  have h := main l.length 0 0 rfl (by omega) (by omega) (by omega)
  rw [List.drop_zero, Int.zero_add] at h
  exact h
/-- The bands of a line that fits: some are wider by one. -/
def extraOf (a b c : Int) (l : List Int) : Nat := (moreOf a b c l).toNat
theorem spread_facts (a b c : Int) (l : List Int) (hm : measureOk a b c = true) (hf : fitsV a b l = true) :
    bandWidths a b c l = List.replicate (extraOf a b c l) (b + riseOf a b c l + 1) ++ List.replicate (bandsN l - extraOf a b c l) (b + riseOf a b c l) ∧ extraOf a b c l ≤ bandsN l ∧ 0 ≤ riseOf a b c l ∧ riseOf a b c l ≤ c - b ∧ 0 ≤ restOf a b c l ∧
    isFullV a b c l = (if restOf a b c l = 0 then true else decide (restOf a b c l < bandsN l)) ∧ ((extraOf a b c l : Nat) : Int) = moreOf a b c l ∧
    (isFullV a b c l = true ∨ riseOf a b c l = c - b ∨ bandsN l = 0) ∧ lettersN l + bandsN l * (b + riseOf a b c l) + restOf a b c l = a := by
  obtain ⟨m1, m2, m3, m4, m5, m6⟩ := (measureOk_iff a b c).1 hm
  obtain ⟨hk, hle⟩ : lineOk l = true ∧ lettersN l + bandsN l * b ≤ a := by simpa [fitsV] using hf
  have hri := riseV_facts (c - b) (a - lettersN l - bandsN l * b) (bandsN l) (by omega) (by omega) (by omega)
  have hri2 : 0 ≤ riseOf a b c l ∧ riseOf a b c l ≤ c - b := ⟨hri.1, hri.2.1⟩
  have hrr := restOf_range a b c l hm hf
  have hmr := moreOf_range a b c l hm hf
  have hfull : isFullV a b c l = (if restOf a b c l = 0 then true else decide (restOf a b c l < bandsN l)) := by
    unfold isFullV fullOf
    rw [spreadLine_fits a b c l hm hf]
    rfl
  have hext : ((extraOf a b c l : Nat) : Int) = moreOf a b c l := by unfold extraOf; omega
  have hle2 : extraOf a b c l ≤ bandsN l := by
    have : moreOf a b c l ≤ bandsN l := by
      unfold moreOf
      rw [hfull]
      by_cases h0 : restOf a b c l = 0
      · rw [if_pos h0]; simp [h0]
      · rw [if_neg h0]
        by_cases h1 : restOf a b c l < bandsN l
        · rw [decide_eq_true h1]; simp; omega
        · rw [decide_eq_false h1]; simp
    omega
  refine ⟨?_, hle2, hri2.1, hri2.2, hrr.1, hfull, hext, ?_, ?_⟩
  · rw [bandWidths, if_pos hm, if_pos hf, ← hext, bandsL_eq b _ (by omega) (by omega) l _ (by omega), Nat.min_eq_left hle2]
  · by_cases hn : bandsN l = 0
    · exact Or.inr (Or.inr hn)
    by_cases hd : riseOf a b c l = c - b
    · exact Or.inr (Or.inl hd)
    refine Or.inl ?_
    rw [hfull]
    have h1 : riseOf a b c l = (a - lettersN l - bandsN l * b) / bandsN l := by
      have h2 : riseOf a b c l = riseV (c - b) (a - lettersN l - bandsN l * b) (bandsN l) := rfl
      rw [riseV, if_pos (by omega)] at h2
      unfold mn at h2
      split at h2 <;> omega
    have h3 : restOf a b c l = (a - lettersN l - bandsN l * b) % bandsN l := by
      have h4 : restOf a b c l = (a - lettersN l - bandsN l * b) - bandsN l * riseOf a b c l := rfl
      rw [h4, h1, Int.emod_def]
    have h5 := Int.emod_lt_of_pos (a - lettersN l - bandsN l * b) (show (0 : Int) < (bandsN l : Int) by omega)
    rw [← h3] at h5
    split
    · rfl
    · exact decide_eq_true h5
  · unfold restOf
    rw [Int.mul_add]
    omega
end Go.Proofs.Ytnkpblbofjchaaa.Q
