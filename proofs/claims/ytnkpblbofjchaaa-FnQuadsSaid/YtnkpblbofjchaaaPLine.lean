/- Sums over a line's letters. Conditions: those that each lemma names. -/
import Derived.Test.YtnkpblbofjchaaaP0
import Derived.Test.YtnkpblbofjchaaaPMeasure
namespace Go.Proofs.Ytnkpblbofjchaaa.Q
open Go.RowKit Go.Proofs.YtnkpblbofjchaaaW.PrintWords Go.Proofs.YtnkpblbofjchaaaW.PrintLast Go.Proofs.YtnkpblbofjchaaaW.PrintMore
set_option linter.unusedVariables false
set_option linter.unusedSimpArgs false
/-- Widths and bands together, as they are added one after another. -/
def lsum : Int → Int → List Int → Int × Int
  | a, b, [] => (a, b)
  | a, b, w :: r => if w = 0 then lsum (wrap64 (a + w)) (wrap64 (b + 1)) r else lsum (wrap64 (a + w)) b r
/-- The letters' widths together; the number of bands. -/
def lettersN : List Int → Int
  | [] => 0
  | w :: r => w + lettersN r
def bandsN : List Int → Nat
  | [] => 0
  | w :: r => (if w = 0 then 1 else 0) + bandsN r
theorem bandsN_le (l : List Int) : bandsN l ≤ l.length := by
  induction l with
  | nil => exact Nat.le_refl _
  | cons w r ih => simp only [bandsN, List.length_cons]; split <;> omega
theorem lettersN_range (l : List Int) (h : ∀ w ∈ l, 0 ≤ w ∧ w ≤ 60) : 0 ≤ lettersN l ∧ lettersN l ≤ 60 * l.length := by
  induction l with
  | nil => simp [lettersN]
  | cons w r ih =>
    have h1 := h w List.mem_cons_self
    have h2 := ih (fun x hx => h x (List.mem_cons_of_mem _ hx))
    simp only [lettersN, List.length_cons]
    omega
theorem lsum_eq (l : List Int) : ∀ a b : Int, 0 ≤ a → 0 ≤ b → (∀ w ∈ l, 0 ≤ w ∧ w ≤ 60) → a + 60 * l.length ≤ 1000000 → b + l.length ≤ 1000000 → lsum a b l = (a + lettersN l, b + bandsN l) := by
  induction l with
  | nil => intro a b _ _ _ _ _; simp [lsum, lettersN, bandsN]
  | cons w r ih =>
    intro a b ha hb h h1 h2
    have hw := h w List.mem_cons_self
    simp only [List.length_cons] at h1 h2
    have e1 : wrap64 (a + w) = a + w := wrap_id _ (by omega) (by omega)
    have e2 : wrap64 (b + 1) = b + 1 := wrap_id _ (by omega) (by omega)
    rw [lsum, e1, e2, lettersN, bandsN]
    by_cases e : w = 0
    · rw [if_pos e, if_pos e, ih _ _ (by omega) (by omega) (fun x hx => h x (List.mem_cons_of_mem _ hx)) (by omega) (by omega)]
      simp only [Prod.mk.injEq]
      omega
    · rw [if_neg e, if_neg e, ih _ _ (by omega) (by omega) (fun x hx => h x (List.mem_cons_of_mem _ hx)) (by omega) (by omega)]
      simp only [Prod.mk.injEq]
      omega
theorem lsum_line (l : List Int) (h : lineOk l = true) : lsum 0 0 l = (lettersN l, (bandsN l : Int)) ∧ 0 ≤ lettersN l ∧ lettersN l ≤ 7200 ∧ bandsN l ≤ 120 := by
  obtain ⟨h1, h2⟩ := (lineOk_iff l).1 h
  have h3 := lettersN_range l h2
  have h4 := bandsN_le l
  refine ⟨?_, by omega, by omega, by omega⟩
  rw [lsum_eq l 0 0 (by omega) (by omega) h2 (by omega) (by omega)]
  simp
end Go.Proofs.Ytnkpblbofjchaaa.Q
