/- Full lines. Conditions: those that each lemma names. -/
import Derived.Test.YtnkpblbofjchaaaPKind
import Derived.Test.YtnkpblbofjchaaaPLine
import Derived.Test.YtnkpblbofjchaaaPMeasure
import Derived.Test.YtnkpblbofjchaaaPSpreadL
import Derived.Test.YtnkpblbofjchaaaPWidths
import Derived.Test.YtnkpblbofjchaaaQ2
namespace Go.Proofs.Ytnkpblbofjchaaa.Q
open Go.RowKit Go.Proofs.YtnkpblbofjchaaaW.PrintWords Go.Proofs.YtnkpblbofjchaaaW.PrintLast Go.Proofs.YtnkpblbofjchaaaW.PrintMore
set_option linter.unusedVariables false
set_option linter.unusedSimpArgs false
def isFullV (a b c : Int) (l : List Int) : Bool := fullOf (spreadLine a b c l) (bandsN l)
theorem impl_IsFull_ev (a b c : Int) (l : List Int) (hl : l.length ≤ 1099511627776) : Ev (fun k => impl_IsFull.f k a b c l) (isFullV a b c l) := by
  obtain ⟨K2, h2⟩ := impl_lb_ev l hl
  refine ⟨K2, fun k hk => ?_⟩
  simp only [impl_IsFull.f, h2 k (by omega), Option.bind_some, impl_MeasureOk_eq, impl_LineOk_eq, isFullV, spreadLine]
  by_cases hm : measureOk a b c = true
  · by_cases hk2 : lineOk l = true
    · obtain ⟨s1, s2, s3, s4⟩ := lsum_line l hk2
      rw [if_pos hm, if_pos hk2, if_pos hm, if_pos hk2, s1]
      rw [impl_full_eq a b c _ _ hm (by omega) (by omega) (by omega) (by omega)]
      rfl
    · rw [if_pos hm, if_neg hk2, if_pos hm, if_neg hk2]; rfl
  · rw [if_neg hm, if_neg hm]; rfl
end Go.Proofs.Ytnkpblbofjchaaa.Q
