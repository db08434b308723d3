/- Kinds of lines of words. Conditions: those that each lemma names. -/
import Derived.Test.YtnkpblbofjchaaaPMeasure
import Derived.Test.YtnkpblbofjchaaaPSpread
import Derived.Test.YtnkpblbofjchaaaQ2
namespace Go.Proofs.Ytnkpblbofjchaaa.Q
open Go.RowKit Go.Proofs.YtnkpblbofjchaaaW.PrintWords Go.Proofs.YtnkpblbofjchaaaW.PrintLast Go.Proofs.YtnkpblbofjchaaaW.PrintMore
set_option linter.unusedVariables false
set_option linter.unusedSimpArgs false
def fullOf (s : Int × Int × Bool) (n : Int) : Bool := if s.2.2 = true then (if s.2.1 = 0 then true else decide (s.2.1 < n)) else false
theorem impl_full_eq (a b c s n : Int) (hm : measureOk a b c = true) (h0 : 0 ≤ n) (h1 : n ≤ 1000) (h2 : -1000000 ≤ s) (h3 : s ≤ 1000000) : impl_full.f a b c s n = some (fullOf (spreadV a b c s n) n) := by
  unfold impl_full.f fullOf
  rw [impl_spread_eq a b c s n hm h0 h1 h2 h3, Option.bind_some]
  repeat' split
  all_goals rfl
end Go.Proofs.Ytnkpblbofjchaaa.Q
