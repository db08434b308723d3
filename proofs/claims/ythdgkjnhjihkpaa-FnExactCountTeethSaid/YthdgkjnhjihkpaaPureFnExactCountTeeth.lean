/- The program's CountTeeth and the reference's answer the same for every number. No conditions beyond those of the statement's reading. -/
import Derived.Test.YthdgkjnhjihkpaaPTeeth
import Derived.Test.YthdgkjnhjihkpaaQ2
namespace Go.Proofs.Ythdgkjnhjihkpaa.Pure
open Go.RowKit Go.Proofs.Ythdgkjnhjihkpaa.Q Go.Proofs.YthdgkjnhjihkpaaW.PrintWords Go.Proofs.YthdgkjnhjihkpaaW.PrintLast Go.Proofs.YthdgkjnhjihkpaaW.PrintMore
set_option linter.unusedVariables false
set_option linter.unusedSimpArgs false
theorem FnExactCountTeeth : laws_FnExactCountTeeth.Pure := by
  intro s ws
  obtain ⟨K1, h1⟩ := spec_CountTeeth_ev s
  refine ⟨K1, ?_⟩
  simp only [laws_FnExactCountTeeth.f, h1 K1 (by omega), impl_CountTeeth_eq, Option.bind_some, if_true]
end Go.Proofs.Ythdgkjnhjihkpaa.Pure
