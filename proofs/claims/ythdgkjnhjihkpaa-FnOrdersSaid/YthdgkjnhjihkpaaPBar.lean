/- Bars and where matrices fall: what the program's and the reference's functions give. Conditions: the lists are no longer than 2^40. -/
import Derived.Test.YthdgkjnhjihkpaaQ1
namespace Go.Proofs.Ythdgkjnhjihkpaa.Q
open Go.RowKit Go.Proofs.YthdgkjnhjihkpaaW.PrintWords Go.Proofs.YthdgkjnhjihkpaaW.PrintLast Go.Proofs.YthdgkjnhjihkpaaW.PrintMore
set_option linter.unusedVariables false
set_option linter.unusedSimpArgs false
theorem isBar_eq (l : List Int) : impl_IsBar.f l = some (isBar l) := rfl
theorem isBar_iff (l : List Int) : isBar l = true ↔ 1 ≤ l.length ∧ l.length ≤ 40 ∧ ∀ s ∈ l, 0 ≤ s ∧ s ≤ 127 := by
  simp [isBar, and_assoc]
def partB (s t : Int) : Bool := (Go.bits .andNot .i64 s t) == 0
theorem impl_part_eq (s t : Int) : impl_part.f s t = some (partB s t) := rfl
end Go.Proofs.Ythdgkjnhjihkpaa.Q
