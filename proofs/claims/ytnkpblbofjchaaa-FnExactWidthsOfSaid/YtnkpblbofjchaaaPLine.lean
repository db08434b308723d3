/- Letters and bands of a line, how a line is spread: what the program's and the reference's functions give. Conditions: those that each lemma names. -/
import Derived.Test.YtnkpblbofjchaaaP0
import Derived.Test.YtnkpblbofjchaaaPMeasure
import Derived.Test.YtnkpblbofjchaaaQ2
import Derived.Test.YtnkpblbofjchaaaQ3
namespace Go.Proofs.Ytnkpblbofjchaaa.Q
open Go.RowKit Go.Proofs.YtnkpblbofjchaaaW.PrintWords Go.Proofs.YtnkpblbofjchaaaW.PrintLast Go.Proofs.YtnkpblbofjchaaaW.PrintMore
set_option linter.unusedVariables false
set_option linter.unusedSimpArgs false
/-- Widths and bands together, as they are added one after another. -/
def lsum : Int → Int → List Int → Int × Int
  | a, b, [] => (a, b)
  | a, b, w :: r => if w = 0 then lsum (wrap64 (a + w)) (wrap64 (b + 1)) r else lsum (wrap64 (a + w)) b r
theorem spec_l3Sum_ev (l : List Int) (hl : l.length ≤ 1099511627776) : Ev (fun k => spec_l3Sum.f k l) (lsum 0 0 l) := by
  have main : ∀ i (s : Int × Int), i ≤ l.length → True → Ev (fun k => spec_l3Sum.l0 k s.1 s.2 l (l.length : Int) (i : Int)) (lsum s.1 s.2 (l.drop i)) := by
    refine ev_down (fun k (s : Int × Int) i => spec_l3Sum.l0 k s.1 s.2 l (l.length : Int) i) l.length (fun _ _ => True) (fun i s => lsum s.1 s.2 (l.drop i)) ?_ ?_
    · intro s _
      refine ev_step1 (fun k => ?_)
      simp only [spec_l3Sum.l0]
      rw [if_neg (by omega), List.drop_length, lsum]
    · intro i s hi _ ih
      rw [List.drop_eq_getElem_cons hi, lsum]
      by_cases e : l[i] = 0
      · rw [if_pos e]
        refine Ev.step (f := fun k => spec_l3Sum.l0 k (wrap64 (s.1 + l[i])) (wrap64 (s.2 + 1)) l (l.length : Int) ((i + 1 : Nat) : Int)) (fun k => ?_) (ih (wrap64 (s.1 + l[i]), wrap64 (s.2 + 1)) trivial)
        simp only [spec_l3Sum.l0]
        rw [if_pos (by omega), if_pos (by omega), if_pos (by omega), rd_nat l i hi, if_pos e, w1 i (by omega)]
      · rw [if_neg e]
        refine Ev.step (f := fun k => spec_l3Sum.l0 k (wrap64 (s.1 + l[i])) s.2 l (l.length : Int) ((i + 1 : Nat) : Int)) (fun k => ?_) (ih (wrap64 (s.1 + l[i]), s.2) trivial)
        simp only [spec_l3Sum.l0]
        rw [if_pos (by omega), if_pos (by omega), if_pos (by omega), rd_nat l i hi, if_neg e, w1 i (by omega)]
  have h := main 0 (0, 0) (by omega) trivial
  rw [List.drop_zero] at h
  exact h
theorem impl_lb_ev (l : List Int) (hl : l.length ≤ 1099511627776) : Ev (fun k => impl_lettersAndBands.f k l) (lsum 0 0 l) := by
  have main : ∀ i (s : Int × Int), i ≤ l.length → True → Ev (fun k => impl_lettersAndBands.l0 k s.1 s.2 l (l.length : Int) (i : Int)) (lsum s.1 s.2 (l.drop i)) := by
    refine ev_down (fun k (s : Int × Int) i => impl_lettersAndBands.l0 k s.1 s.2 l (l.length : Int) i) l.length (fun _ _ => True) (fun i s => lsum s.1 s.2 (l.drop i)) ?_ ?_
    · intro s _
      refine ev_step1 (fun k => ?_)
      simp only [impl_lettersAndBands.l0]
      rw [if_neg (by omega), List.drop_length, lsum]
    · intro i s hi _ ih
      rw [List.drop_eq_getElem_cons hi, lsum]
      by_cases e : l[i] = 0
      · rw [if_pos e]
        refine Ev.step (f := fun k => impl_lettersAndBands.l0 k (wrap64 (s.1 + l[i])) (wrap64 (s.2 + 1)) l (l.length : Int) ((i + 1 : Nat) : Int)) (fun k => ?_) (ih (wrap64 (s.1 + l[i]), wrap64 (s.2 + 1)) trivial)
        simp only [impl_lettersAndBands.l0]
        rw [if_pos (by omega), if_pos (by omega), if_pos (by omega), rd_nat l i hi, if_pos e, w1 i (by omega)]
      · rw [if_neg e]
        refine Ev.step (f := fun k => impl_lettersAndBands.l0 k (wrap64 (s.1 + l[i])) s.2 l (l.length : Int) ((i + 1 : Nat) : Int)) (fun k => ?_) (ih (wrap64 (s.1 + l[i]), s.2) trivial)
        simp only [impl_lettersAndBands.l0]
        rw [if_pos (by omega), if_pos (by omega), if_pos (by omega), rd_nat l i hi, if_neg e, w1 i (by omega)]
  have h := main 0 (0, 0) (by omega) trivial
  rw [List.drop_zero] at h
  exact h
/-- The letters' widths together; the number of bands. -/
def lettersN : List Int → Int
  | [] => 0
  | w :: r => w + lettersN r
def bandsN : List Int → Nat
  | [] => 0
  | w :: r => (if w = 0 then 1 else 0) + bandsN r
theorem bandsN_le (l : List Int) : bandsN l ≤ l.length := by
  induction l with
  | nil => exact Nat.le_refl _
  | cons w r ih => simp only [bandsN, List.length_cons]; split <;> omega
theorem lettersN_range (l : List Int) (h : ∀ w ∈ l, 0 ≤ w ∧ w ≤ 60) : 0 ≤ lettersN l ∧ lettersN l ≤ 60 * l.length := by
  induction l with
  | nil => simp [lettersN]
  | cons w r ih =>
    have h1 := h w List.mem_cons_self
    have h2 := ih (fun x hx => h x (List.mem_cons_of_mem _ hx))
    simp only [lettersN, List.length_cons]
    omega
theorem lsum_eq (l : List Int) : ∀ a b : Int, 0 ≤ a → 0 ≤ b → (∀ w ∈ l, 0 ≤ w ∧ w ≤ 60) → a + 60 * l.length ≤ 1000000 → b + l.length ≤ 1000000 → lsum a b l = (a + lettersN l, b + bandsN l) := by
  induction l with
  | nil => intro a b _ _ _ _ _; simp [lsum, lettersN, bandsN]
  | cons w r ih =>
    intro a b ha hb h h1 h2
    have hw := h w List.mem_cons_self
    simp only [List.length_cons] at h1 h2
    have e1 : wrap64 (a + w) = a + w := wrap_id _ (by omega) (by omega)
    have e2 : wrap64 (b + 1) = b + 1 := wrap_id _ (by omega) (by omega)
    rw [lsum, e1, e2, lettersN, bandsN]
    by_cases e : w = 0
    · rw [if_pos e, if_pos e, ih _ _ (by omega) (by omega) (fun x hx => h x (List.mem_cons_of_mem _ hx)) (by omega) (by omega)]
      simp only [Prod.mk.injEq]
      omega
    · rw [if_neg e, if_neg e, ih _ _ (by omega) (by omega) (fun x hx => h x (List.mem_cons_of_mem _ hx)) (by omega) (by omega)]
      simp only [Prod.mk.injEq]
      omega
theorem lsum_line (l : List Int) (h : lineOk l = true) : lsum 0 0 l = (lettersN l, (bandsN l : Int)) ∧ 0 ≤ lettersN l ∧ lettersN l ≤ 7200 ∧ bandsN l ≤ 120 := by
  obtain ⟨h1, h2⟩ := (lineOk_iff l).1 h
  have h3 := lettersN_range l h2
  have h4 := bandsN_le l
  refine ⟨?_, by omega, by omega, by omega⟩
  rw [lsum_eq l 0 0 (by omega) (by omega) h2 (by omega) (by omega)]
  simp
/-- WidthsOf. -/
def widthsOf (a b c : Int) (l : List Int) : Int × Int × Bool :=
  if measureOk a b c = true then if lineOk l = true then (wrap64 ((lsum 0 0 l).1 + wrap64 ((lsum 0 0 l).2 * b)), wrap64 ((lsum 0 0 l).1 + wrap64 ((lsum 0 0 l).2 * c)), true) else (0, 0, false) else (0, 0, false)
theorem spec_WidthsOf_ev (a b c : Int) (l : List Int) (hl : l.length ≤ 1099511627776) : Ev (fun k => spec_WidthsOf.f k a b c l) (widthsOf a b c l) := by
  obtain ⟨K1, h1⟩ := spec_LineOk_ev l hl
  obtain ⟨K2, h2⟩ := spec_l3Sum_ev l hl
  refine ⟨K1 + K2, fun k hk => ?_⟩
  simp only [spec_WidthsOf.f, spec_MeasureOk_eq, Option.bind_some, h1 k (by omega), h2 k (by omega), widthsOf]
  cases measureOk a b c <;> cases lineOk l <;> simp
theorem impl_WidthsOf_ev (a b c : Int) (l : List Int) (hl : l.length ≤ 1099511627776) : Ev (fun k => impl_WidthsOf.f k a b c l) (widthsOf a b c l) := by
  obtain ⟨K2, h2⟩ := impl_lb_ev l hl
  refine ⟨K2, fun k hk => ?_⟩
  simp only [impl_WidthsOf.f, impl_MeasureOk_eq, impl_LineOk_eq, Option.bind_some, h2 k (by omega), widthsOf]
  cases measureOk a b c <;> cases lineOk l <;> simp
end Go.Proofs.Ytnkpblbofjchaaa.Q
