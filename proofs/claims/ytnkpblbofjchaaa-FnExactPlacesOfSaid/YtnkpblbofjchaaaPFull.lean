/- Full lines. Conditions: those that each lemma names. -/
import Derived.Test.YtnkpblbofjchaaaPKind
import Derived.Test.YtnkpblbofjchaaaPLine
import Derived.Test.YtnkpblbofjchaaaPMeasure
import Derived.Test.YtnkpblbofjchaaaPSpread
import Derived.Test.YtnkpblbofjchaaaPSpreadL
import Derived.Test.YtnkpblbofjchaaaPWidths
import Derived.Test.YtnkpblbofjchaaaQ2
import Derived.Test.YtnkpblbofjchaaaQ4
namespace Go.Proofs.Ytnkpblbofjchaaa.Q
open Go.RowKit Go.Proofs.YtnkpblbofjchaaaW.PrintWords Go.Proofs.YtnkpblbofjchaaaW.PrintLast Go.Proofs.YtnkpblbofjchaaaW.PrintMore
set_option linter.unusedVariables false
set_option linter.unusedSimpArgs false
def isFullV (a b c : Int) (l : List Int) : Bool := fullOf (spreadLine a b c l) (bandsN l)
theorem spreadLine_ok (a b c : Int) (l : List Int) (h : (spreadLine a b c l).2.2 = true) : measureOk a b c = true ∧ lineOk l = true ∧ 0 ≤ a - lettersN l - bandsN l * b := by
  unfold spreadLine at h
  by_cases hm : measureOk a b c = true
  · rw [if_pos hm] at h
    by_cases hk : lineOk l = true
    · rw [if_pos hk] at h
      refine ⟨hm, hk, ?_⟩
      unfold spreadV at h
      by_cases hf : a - lettersN l - bandsN l * b < 0
      · rw [if_pos hf] at h; simp at h
      · omega
    · rw [if_neg hk] at h; simp at h
  · rw [if_neg hm] at h; simp at h
theorem spec_IsFull_ev (a b c : Int) (l : List Int) (hl : l.length ≤ 1099511627776) : Ev (fun k => spec_IsFull.f k a b c l) (isFullV a b c l) := by
  obtain ⟨K1, h1⟩ := spec_SpreadLine_ev a b c l hl
  obtain ⟨K2, h2⟩ := spec_l3Sum_ev l hl
  refine ⟨K1 + K2, fun k hk => ?_⟩
  simp only [spec_IsFull.f, h1 k (by omega), h2 k (by omega), Option.bind_some, isFullV, fullOf]
  by_cases ho : (spreadLine a b c l).2.2 = true
  · obtain ⟨_, hk2, _⟩ := spreadLine_ok a b c l ho
    rw [if_pos ho, if_pos ho, (lsum_line l hk2).1]
    split <;> rfl
  · rw [if_neg ho, if_neg ho]
theorem impl_IsFull_ev (a b c : Int) (l : List Int) (hl : l.length ≤ 1099511627776) : Ev (fun k => impl_IsFull.f k a b c l) (isFullV a b c l) := by
  obtain ⟨K2, h2⟩ := impl_lb_ev l hl
  refine ⟨K2, fun k hk => ?_⟩
  simp only [impl_IsFull.f, h2 k (by omega), Option.bind_some, impl_MeasureOk_eq, impl_LineOk_eq, isFullV, spreadLine]
  by_cases hm : measureOk a b c = true
  · by_cases hk2 : lineOk l = true
    · obtain ⟨s1, s2, s3, s4⟩ := lsum_line l hk2
      rw [if_pos hm, if_pos hk2, if_pos hm, if_pos hk2, s1]
      rw [impl_full_eq a b c _ _ hm (by omega) (by omega) (by omega) (by omega)]
      rfl
    · rw [if_pos hm, if_neg hk2, if_pos hm, if_neg hk2]; rfl
  · rw [if_neg hm, if_neg hm]; rfl
end Go.Proofs.Ytnkpblbofjchaaa.Q
