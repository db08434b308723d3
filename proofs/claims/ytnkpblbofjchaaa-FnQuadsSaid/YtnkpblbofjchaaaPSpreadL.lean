/- Spread of a line. Conditions: those that each lemma names. -/
import Derived.Test.YtnkpblbofjchaaaP0
import Derived.Test.YtnkpblbofjchaaaPLine
import Derived.Test.YtnkpblbofjchaaaPMeasure
import Derived.Test.YtnkpblbofjchaaaPSpread
import Derived.Test.YtnkpblbofjchaaaPWidths
import Derived.Test.YtnkpblbofjchaaaQ1
import Derived.Test.YtnkpblbofjchaaaQ6
namespace Go.Proofs.Ytnkpblbofjchaaa.Q
open Go.RowKit Go.Proofs.YtnkpblbofjchaaaW.PrintWords Go.Proofs.YtnkpblbofjchaaaW.PrintLast Go.Proofs.YtnkpblbofjchaaaW.PrintMore
set_option linter.unusedVariables false
set_option linter.unusedSimpArgs false
/-- SpreadLine. -/
def spreadLine (a b c : Int) (l : List Int) : Int × Int × Bool :=
  if measureOk a b c = true then if lineOk l = true then spreadV a b c (lettersN l) (bandsN l) else (0, 0, false) else (0, 0, false)
theorem spec_l3Fits_ev (a b c : Int) (l : List Int) (hl : l.length ≤ 1099511627776) : Ev (fun k => spec_l3Fits.f k a b c l) (if lineOk l = true then decide (wrap64 ((lsum 0 0 l).1 + wrap64 ((lsum 0 0 l).2 * b)) ≤ a) else false) := by
  obtain ⟨K1, h1⟩ := spec_LineOk_ev l hl
  obtain ⟨K2, h2⟩ := spec_l3Sum_ev l hl
  refine ⟨K1 + K2, fun k hk => ?_⟩
  simp only [spec_l3Fits.f, Option.bind_some, h1 k (by omega), h2 k (by omega)]
  cases lineOk l <;> simp
/-- Whether a line fits. -/
def fitsV (a b : Int) (l : List Int) : Bool := lineOk l && decide (lettersN l + bandsN l * b ≤ a)
theorem fits_ev (a b c : Int) (l : List Int) (hl : l.length ≤ 1099511627776) (hm : measureOk a b c = true) : Ev (fun k => spec_l3Fits.f k a b c l) (fitsV a b l) := by
  obtain ⟨m1, m2, m3, m4, m5, m6⟩ := (measureOk_iff a b c).1 hm
  have h := spec_l3Fits_ev a b c l hl
  have e : (if lineOk l = true then decide (wrap64 ((lsum 0 0 l).1 + wrap64 ((lsum 0 0 l).2 * b)) ≤ a) else false) = fitsV a b l := by
    unfold fitsV
    by_cases hk : lineOk l = true
    · obtain ⟨s1, s2, s3, s4⟩ := lsum_line l hk
      have hb := mul_bound (bandsN l) b 120 100 (by omega) (by omega) (by omega) m4
      rw [if_pos hk, hk, s1]
      simp only [Bool.true_and]
      rw [wrap_id ((bandsN l : Int) * b) (by omega) (by omega), wrap_id (lettersN l + (bandsN l : Int) * b) (by omega) (by omega)]
    · rw [if_neg hk, show lineOk l = false from by simpa using hk]; rfl
  rw [e] at h
  exact h
theorem impl_SpreadLine_ev (a b c : Int) (l : List Int) (hl : l.length ≤ 1099511627776) : Ev (fun k => impl_SpreadLine.f k a b c l) (spreadLine a b c l) := by
  by_cases hm : measureOk a b c = true
  · by_cases hk : lineOk l = true
    · obtain ⟨s1, s2, s3, s4⟩ := lsum_line l hk
      have hs := impl_lb_ev l hl
      rw [s1] at hs
      obtain ⟨K, h⟩ := hs
      refine ⟨K + 1, fun k hk' => ?_⟩
      obtain ⟨k, rfl⟩ : ∃ m, k = m + 1 := ⟨k - 1, by omega⟩
      simp only [impl_SpreadLine.f, impl_MeasureOk_eq, impl_LineOk_eq, hm, hk, Option.bind_some, if_true, Bool.not_true, impl_SpreadLine.j0, Bool.false_eq_true, if_false, h k (by omega), spreadLine]
      rw [impl_spread_eq a b c _ _ hm (by omega) (by omega) (by omega) (by omega)]
      rfl
    · refine ⟨1, fun k hk' => ?_⟩
      obtain ⟨k, rfl⟩ : ∃ m, k = m + 1 := ⟨k - 1, by omega⟩
      have hk2 : lineOk l = false := by simpa using hk
      simp [impl_SpreadLine.f, impl_MeasureOk_eq, impl_LineOk_eq, hm, hk2, impl_SpreadLine.j0, spreadLine]
  · refine ⟨1, fun k hk' => ?_⟩
    obtain ⟨k, rfl⟩ : ∃ m, k = m + 1 := ⟨k - 1, by omega⟩
    simp [impl_SpreadLine.f, impl_MeasureOk_eq, hm, impl_SpreadLine.j0, spreadLine]
end Go.Proofs.Ytnkpblbofjchaaa.Q
