/- The program's MeasureOk and the reference's answer the same for every measure. No conditions beyond those of the statement's reading. -/
import Derived.Test.YtnkpblbofjchaaaPMeasure
import Derived.Test.YtnkpblbofjchaaaQ1
namespace Go.Proofs.Ytnkpblbofjchaaa.Pure
open Go.RowKit Go.Proofs.Ytnkpblbofjchaaa.Q Go.Proofs.YtnkpblbofjchaaaW.PrintWords Go.Proofs.YtnkpblbofjchaaaW.PrintLast Go.Proofs.YtnkpblbofjchaaaW.PrintMore
set_option linter.unusedVariables false
set_option linter.unusedSimpArgs false
theorem FnExactMeasureOk : laws_FnExactMeasureOk.Pure := by
  intro a b c wa wb wc
  simp only [laws_FnExactMeasureOk.f, toMeasure_eq, Option.bind_some, spec_MeasureOk_eq, impl_MeasureOk_eq]
  simp
end Go.Proofs.Ytnkpblbofjchaaa.Pure
