/- Spread of a line. Conditions: those that each lemma names. -/
import Derived.Test.YtnkpblbofjchaaaPLine
import Derived.Test.YtnkpblbofjchaaaPMeasure
import Derived.Test.YtnkpblbofjchaaaPSpread
import Derived.Test.YtnkpblbofjchaaaPWidths
import Derived.Test.YtnkpblbofjchaaaQ2
namespace Go.Proofs.Ytnkpblbofjchaaa.Q
open Go.RowKit Go.Proofs.YtnkpblbofjchaaaW.PrintWords Go.Proofs.YtnkpblbofjchaaaW.PrintLast Go.Proofs.YtnkpblbofjchaaaW.PrintMore
set_option linter.unusedVariables false
set_option linter.unusedSimpArgs false
/-- SpreadLine. -/
def spreadLine (a b c : Int) (l : List Int) : Int × Int × Bool :=
  if measureOk a b c = true then if lineOk l = true then spreadV a b c (lettersN l) (bandsN l) else (0, 0, false) else (0, 0, false)
/-- Whether a line fits. -/
def fitsV (a b : Int) (l : List Int) : Bool := lineOk l && decide (lettersN l + bandsN l * b ≤ a)
theorem impl_SpreadLine_ev (a b c : Int) (l : List Int) (hl : l.length ≤ 1099511627776) : Ev (fun k => impl_SpreadLine.f k a b c l) (spreadLine a b c l) := by
  by_cases hm : measureOk a b c = true
  · by_cases hk : lineOk l = true
    · obtain ⟨s1, s2, s3, s4⟩ := lsum_line l hk
      have hs := impl_lb_ev l hl
      rw [s1] at hs
      obtain ⟨K, h⟩ := hs
      refine ⟨K + 1, fun k hk' => ?_⟩
      obtain ⟨k, rfl⟩ : ∃ m, k = m + 1 := ⟨k - 1, by omega⟩
      simp only [impl_SpreadLine.f, impl_MeasureOk_eq, impl_LineOk_eq, hm, hk, Option.bind_some, if_true, Bool.not_true, impl_SpreadLine.j0, Bool.false_eq_true, if_false, h k (by omega), spreadLine]
      rw [impl_spread_eq a b c _ _ hm (by omega) (by omega) (by omega) (by omega)]
      rfl
    · refine ⟨1, fun k hk' => ?_⟩
      obtain ⟨k, rfl⟩ : ∃ m, k = m + 1 := ⟨k - 1, by omega⟩
      have hk2 : lineOk l = false := by simpa using hk
      simp [impl_SpreadLine.f, impl_MeasureOk_eq, impl_LineOk_eq, hm, hk2, impl_SpreadLine.j0, spreadLine]
  · refine ⟨1, fun k hk' => ?_⟩
    obtain ⟨k, rfl⟩ : ∃ m, k = m + 1 := ⟨k - 1, by omega⟩
    simp [impl_SpreadLine.f, impl_MeasureOk_eq, hm, impl_SpreadLine.j0, spreadLine]
end Go.Proofs.Ytnkpblbofjchaaa.Q
