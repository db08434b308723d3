/- Places of letters: what the program and the reference give. Conditions: those that each lemma names. -/
import Derived.Test.YtnkpblbofjchaaaPMeasure
import Derived.Test.YtnkpblbofjchaaaPSpreadL
import Derived.Test.YtnkpblbofjchaaaPWide
import Derived.Test.YtnkpblbofjchaaaQ1
namespace Go.Proofs.Ytnkpblbofjchaaa.Q
open Go.RowKit Go.Proofs.YtnkpblbofjchaaaW.PrintWords Go.Proofs.YtnkpblbofjchaaaW.PrintLast Go.Proofs.YtnkpblbofjchaaaW.PrintMore
set_option linter.unusedVariables false
set_option linter.unusedSimpArgs false
theorem impl_fits_ev (a b c : Int) (l : List Int) (hl : l.length ≤ 1099511627776) (hm : measureOk a b c = true) : Ev (fun k => impl_fits.f k a b c l) (fitsV a b l) := by
  refine Ev.bind (f := fun k bt => some bt.2.2) (impl_SpreadLine_ev a b c l hl) ?_
  by_cases hf : fitsV a b l = true
  · rw [spreadLine_fits a b c l hm hf, hf]; exact Ev.now _
  · rw [spreadLine_not a b c l hm hf, show fitsV a b l = false from by simpa using hf]; exact Ev.now _
end Go.Proofs.Ytnkpblbofjchaaa.Q
