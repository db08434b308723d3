/- Widths of bands and places of letters: what the program and the reference give. Conditions: those that each lemma names. -/
import Derived.Test.YtnkpblbofjchaaaP0
import Derived.Test.YtnkpblbofjchaaaPFull
import Derived.Test.YtnkpblbofjchaaaPLine
import Derived.Test.YtnkpblbofjchaaaPMeasure
import Derived.Test.YtnkpblbofjchaaaPSpread
import Derived.Test.YtnkpblbofjchaaaPSpreadL
import Derived.Test.YtnkpblbofjchaaaQ2
import Derived.Test.YtnkpblbofjchaaaQ3
namespace Go.Proofs.Ytnkpblbofjchaaa.Q
open Go.RowKit Go.Proofs.YtnkpblbofjchaaaW.PrintWords Go.Proofs.YtnkpblbofjchaaaW.PrintLast Go.Proofs.YtnkpblbofjchaaaW.PrintMore
set_option linter.unusedVariables false
set_option linter.unusedSimpArgs false
def wideL (b r : Int) : Int → List Int → List Int
  | _, [] => []
  | m, w :: ws => if w = 0 then (if m > 0 then wrap64 (wrap64 (b + r) + 1) :: wideL b r (wrap64 (m - 1)) ws else wrap64 (b + r) :: wideL b r m ws) else w :: wideL b r m ws
def bandsL (b r : Int) : Int → List Int → List Int
  | _, [] => []
  | m, w :: ws => if w = 0 then (if m > 0 then wrap64 (wrap64 (b + r) + 1) :: bandsL b r (wrap64 (m - 1)) ws else wrap64 (b + r) :: bandsL b r m ws) else bandsL b r m ws
theorem append_cons1 {α : Type} (a : List α) (x : α) (t : List α) : a ++ x :: t = (a ++ [x]) ++ t := by simp
/-- What a fitting line leaves: the rise, and how many bands get one more. -/
def riseOf (a b c : Int) (l : List Int) : Int := riseV (c - b) (a - lettersN l - bandsN l * b) (bandsN l)
def restOf (a b c : Int) (l : List Int) : Int := (a - lettersN l - bandsN l * b) - bandsN l * riseOf a b c l
def moreOf (a b c : Int) (l : List Int) : Int := if isFullV a b c l = true then restOf a b c l else 0
theorem spreadLine_fits (a b c : Int) (l : List Int) (hm : measureOk a b c = true) (hf : fitsV a b l = true) : spreadLine a b c l = (riseOf a b c l, restOf a b c l, true) := by
  obtain ⟨hk, hle⟩ : lineOk l = true ∧ lettersN l + bandsN l * b ≤ a := by simpa [fitsV] using hf
  rw [spreadLine, if_pos hm, if_pos hk, spreadV, if_neg (by omega)]
  rfl
theorem spreadLine_not (a b c : Int) (l : List Int) (hm : measureOk a b c = true) (hf : ¬ fitsV a b l = true) : (spreadLine a b c l).2.2 = false := by
  rw [spreadLine, if_pos hm]
  by_cases hk : lineOk l = true
  · rw [if_pos hk, spreadV, if_pos]
    have : ¬ (lettersN l + bandsN l * b ≤ a) := fun h => hf (by simp [fitsV, hk, h])
    omega
  · rw [if_neg hk]
theorem restOf_range (a b c : Int) (l : List Int) (hm : measureOk a b c = true) (hf : fitsV a b l = true) : 0 ≤ restOf a b c l ∧ restOf a b c l ≤ 2000 := by
  obtain ⟨m1, m2, m3, m4, m5, m6⟩ := (measureOk_iff a b c).1 hm
  obtain ⟨hk, hle⟩ : lineOk l = true ∧ lettersN l + bandsN l * b ≤ a := by simpa [fitsV] using hf
  obtain ⟨s1, s2, s3, s4⟩ := lsum_line l hk
  have hb := mul_bound (bandsN l) b 120 100 (by omega) (by omega) (by omega) m4
  have h := riseV_facts (c - b) (a - lettersN l - bandsN l * b) (bandsN l) (by omega) (by omega) (by omega)
  unfold restOf riseOf
  omega
theorem moreOf_range (a b c : Int) (l : List Int) (hm : measureOk a b c = true) (hf : fitsV a b l = true) : 0 ≤ moreOf a b c l ∧ moreOf a b c l ≤ 2000 := by
  have := restOf_range a b c l hm hf
  unfold moreOf; split <;> omega
/-- BandWidths. -/
def bandWidths (a b c : Int) (l : List Int) : List Int := if measureOk a b c = true then (if fitsV a b l = true then bandsL b (riseOf a b c l) (moreOf a b c l) l else []) else []
theorem bands_impl_loop (a b c r x : Int) (l : List Int) (hl : l.length ≤ 1099511627776) (hx : 0 ≤ x ∧ x ≤ 1000000) (hw : ∀ w ∈ l, 0 ≤ w ∧ w ≤ 60) :
    ∀ i (acc : List Int), i ≤ l.length → (acc.length ≤ i) → Ev (fun k => impl_BandWidths.l0 k r x acc l (l.length : Int) (i : Int) a b c) (acc ++ bandsL b r (if (acc.length : Int) < x then x - acc.length else 0) (l.drop i)) := by
  refine ev_down (fun k (acc : List Int) i => impl_BandWidths.l0 k r x acc l (l.length : Int) i a b c) l.length (fun i acc => acc.length ≤ i) (fun i acc => acc ++ bandsL b r (if (acc.length : Int) < x then x - acc.length else 0) (l.drop i)) ?_ ?_
  · intro acc hs
    refine ev_step1 (fun k => ?_)
    simp only [impl_BandWidths.l0]
    rw [if_neg (by omega), List.drop_length, bandsL, List.append_nil]
  · rintro i acc hi hs ih
    have hwi := hw l[i] (List.getElem_mem hi)
    rw [List.drop_eq_getElem_cons hi]
    simp only [bandsL]
    by_cases h0 : l[i] = 0
    · rw [if_pos h0]
      by_cases hm : (acc.length : Int) < x
      · have h := ih (acc ++ [wrap64 (wrap64 (b + r) + 1)]) (by simp; omega)
        have e : (if ((acc ++ [wrap64 (wrap64 (b + r) + 1)]).length : Int) < x then x - ((acc ++ [wrap64 (wrap64 (b + r) + 1)]).length : Int) else 0) = wrap64 (x - acc.length - 1) := by
          rw [wrap_id (x - acc.length - 1) (by omega) (by omega), List.length_append, List.length_singleton]
          split <;> omega
        rw [e] at h
        rw [if_pos hm, if_pos (show x - (acc.length : Int) > 0 by omega), append_cons1]
        refine Ev.step (fun k => ?_) h
        simp only [impl_BandWidths.l0]
        rw [if_pos (by omega), if_pos (by omega), if_pos (by omega), rd_nat l i hi, if_neg (by omega), if_pos hm, if_pos (by omega), w1 i (by omega)]
      · have h := ih (acc ++ [wrap64 (b + r)]) (by simp; omega)
        have e : (if ((acc ++ [wrap64 (b + r)]).length : Int) < x then x - ((acc ++ [wrap64 (b + r)]).length : Int) else 0) = 0 := by
          rw [if_neg]
          rw [List.length_append, List.length_singleton]; omega
        rw [e] at h
        rw [if_neg hm, if_neg (by decide), append_cons1]
        refine Ev.step (fun k => ?_) h
        simp only [impl_BandWidths.l0]
        rw [if_pos (by omega), if_pos (by omega), if_pos (by omega), rd_nat l i hi, if_neg (by omega), if_neg hm, if_pos (by omega), w1 i (by omega)]
    · rw [if_neg h0]
      have h := ih acc (by omega)
      refine Ev.step (fun k => ?_) h
      simp only [impl_BandWidths.l0]
      rw [if_pos (by omega), if_pos (by omega), if_pos (by omega), rd_nat l i hi, if_pos (by omega), w1 i (by omega)]
theorem impl_BandWidths_ev (a b c : Int) (l : List Int) (hl : l.length ≤ 1099511627776) : Ev (fun k => impl_BandWidths.f k a b c l) (bandWidths a b c l) := by
  have hsp := impl_SpreadLine_ev a b c l hl
  unfold bandWidths
  refine Ev.bind (f := fun k bt => if bt.2.2 = true then ((impl_IsFull.f k a b c l).bind fun t => if t = true then impl_BandWidths.j0 k l bt.1 bt.2.1 a b c else impl_BandWidths.j0 k l bt.1 0 a b c) else some []) hsp ?_
  by_cases hm : measureOk a b c = true
  · rw [if_pos hm]
    by_cases hf : fitsV a b l = true
    · rw [if_pos hf, spreadLine_fits a b c l hm hf]
      simp only [if_true]
      obtain ⟨hk, hle⟩ : lineOk l = true ∧ lettersN l + bandsN l * b ≤ a := by simpa [fitsV] using hf
      have hfu := impl_IsFull_ev a b c l hl
      have hr := restOf_range a b c l hm hf
      have hj : ∀ m, 0 ≤ m → m ≤ 2000 → Ev (fun k => impl_BandWidths.j0 k l (riseOf a b c l) m a b c) (bandsL b (riseOf a b c l) m l) := fun m hm1 hm2 => by
        have h := bands_impl_loop a b c (riseOf a b c l) m l hl ⟨hm1, by omega⟩ ((lineOk_iff l).1 hk).2 0 [] (by omega) (Nat.le_refl _)
        have e : (if ((([] : List Int).length : Nat) : Int) < m then m - ((([] : List Int).length : Nat) : Int) else 0) = m := by
          simp only [List.length_nil]; split <;> omega
        rw [List.drop_zero, List.nil_append, e] at h
        refine Ev.step (fun k => ?_) h
        simp only [impl_BandWidths.j0]
        rfl
      refine Ev.bind (f := fun k t => if t = true then impl_BandWidths.j0 k l (riseOf a b c l) (restOf a b c l) a b c else impl_BandWidths.j0 k l (riseOf a b c l) 0 a b c) hfu ?_
      unfold moreOf
      by_cases h : isFullV a b c l = true
      · simp only [if_pos h]; exact hj _ hr.1 hr.2
      · simp only [if_neg h]; exact hj _ (by omega) (by omega)
    · rw [if_neg hf]
      have h := spreadLine_not a b c l hm hf
      exact ev_const (fun k => by rw [h]; rfl)
  · rw [if_neg hm]
    have h : (spreadLine a b c l).2.2 = false := by rw [spreadLine, if_neg hm]
    exact ev_const (fun k => by rw [h]; rfl)
end Go.Proofs.Ytnkpblbofjchaaa.Q
