/- The least loss: what the program's and the reference's functions give. Conditions: none beyond those each lemma names. -/
import Derived.Test.YthdgkjnhjihkpaaPTeeth
namespace Go.Proofs.Ythdgkjnhjihkpaa.Q
open Go.RowKit Go.Proofs.YthdgkjnhjihkpaaW.PrintWords Go.Proofs.YthdgkjnhjihkpaaW.PrintLast Go.Proofs.YthdgkjnhjihkpaaW.PrintMore
set_option linter.unusedVariables false
set_option linter.unusedSimpArgs false
theorem popc_le (n : Nat) : popc n ≤ 7 := by unfold popc; omega
end Go.Proofs.Ythdgkjnhjihkpaa.Q
