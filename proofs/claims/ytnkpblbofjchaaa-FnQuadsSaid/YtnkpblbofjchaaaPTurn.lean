/- A line from behind, and the bands of a line that is spread: plain facts over lists. Conditions: those that each lemma names. -/
import Derived.Test.YtnkpblbofjchaaaPLine
namespace Go.Proofs.Ytnkpblbofjchaaa.Q
open Go.RowKit Go.Proofs.YtnkpblbofjchaaaW.PrintWords Go.Proofs.YtnkpblbofjchaaaW.PrintLast Go.Proofs.YtnkpblbofjchaaaW.PrintMore
set_option linter.unusedVariables false
set_option linter.unusedSimpArgs false
theorem lettersN_append : ∀ l m : List Int, lettersN (l ++ m) = lettersN l + lettersN m
  | [], m => by simp [lettersN]
  | w :: r, m => by rw [List.cons_append, lettersN, lettersN, lettersN_append r m]; omega
theorem bandsN_append : ∀ l m : List Int, bandsN (l ++ m) = bandsN l + bandsN m
  | [], m => by simp [bandsN]
  | w :: r, m => by rw [List.cons_append, bandsN, bandsN, bandsN_append r m]; omega
end Go.Proofs.Ytnkpblbofjchaaa.Q
