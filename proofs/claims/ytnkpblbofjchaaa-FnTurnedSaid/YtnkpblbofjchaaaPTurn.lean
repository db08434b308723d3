/- A line from behind, and the bands of a line that is spread: plain facts over lists. Conditions: those that each lemma names. -/
import Derived.Test.YtnkpblbofjchaaaPLine
import Derived.Test.YtnkpblbofjchaaaPMeasure
import Derived.Test.YtnkpblbofjchaaaPSpreadL
import Derived.Test.YtnkpblbofjchaaaPWidths
import Derived.Test.YtnkpblbofjchaaaQ1
namespace Go.Proofs.Ytnkpblbofjchaaa.Q
open Go.RowKit Go.Proofs.YtnkpblbofjchaaaW.PrintWords Go.Proofs.YtnkpblbofjchaaaW.PrintLast Go.Proofs.YtnkpblbofjchaaaW.PrintMore
set_option linter.unusedVariables false
set_option linter.unusedSimpArgs false
theorem lettersN_append : ∀ l m : List Int, lettersN (l ++ m) = lettersN l + lettersN m
  | [], m => by simp [lettersN]
  | w :: r, m => by rw [List.cons_append, lettersN, lettersN, lettersN_append r m]; omega
theorem bandsN_append : ∀ l m : List Int, bandsN (l ++ m) = bandsN l + bandsN m
  | [], m => by simp [bandsN]
  | w :: r, m => by rw [List.cons_append, bandsN, bandsN, bandsN_append r m]; omega
theorem lettersN_reverse : ∀ l : List Int, lettersN l.reverse = lettersN l
  | [] => rfl
  | w :: r => by rw [List.reverse_cons, lettersN_append, lettersN_reverse r]; simp only [lettersN]; omega
theorem bandsN_reverse : ∀ l : List Int, bandsN l.reverse = bandsN l
  | [] => rfl
  | w :: r => by rw [List.reverse_cons, bandsN_append, bandsN_reverse r]; simp only [bandsN]; omega
theorem lineOk_reverse (l : List Int) : lineOk l.reverse = lineOk l := by simp [lineOk, between]
theorem spreadLine_reverse (a b c : Int) (l : List Int) : spreadLine a b c l.reverse = spreadLine a b c l := by
  unfold spreadLine
  rw [lineOk_reverse, lettersN_reverse, bandsN_reverse]
theorem widthsOf_reverse (a b c : Int) (l : List Int) : widthsOf a b c l.reverse = widthsOf a b c l := by
  unfold widthsOf
  rw [lineOk_reverse]
  by_cases hk : lineOk l = true
  · have h1 := (lsum_line l hk).1
    have h2 := (lsum_line l.reverse (by rw [lineOk_reverse]; exact hk)).1
    rw [lettersN_reverse, bandsN_reverse] at h2
    rw [h1, h2]
  · simp only [if_neg hk]
end Go.Proofs.Ytnkpblbofjchaaa.Q
