/- Where the parts of a set fall: what the program's and the reference's ReachOf give. Conditions: those that each lemma names. -/
import Derived.Test.YthdgkjnhjihkpaaPBar
namespace Go.Proofs.Ythdgkjnhjihkpaa.Q
open Go.RowKit Go.Proofs.YthdgkjnhjihkpaaW.PrintWords Go.Proofs.YthdgkjnhjihkpaaW.PrintLast Go.Proofs.YthdgkjnhjihkpaaW.PrintMore
set_option linter.unusedVariables false
set_option linter.unusedSimpArgs false
theorem part_nat : ∀ s : Nat, s < 128 → ∀ t : Nat, t < 128 → (partB (s : Int) (t : Int) = true ↔ s &&& t = s) := by decide +kernel
theorem fallN_hit (l : List Int) (s : Int) (h : fallN l s < l.length) : partB s l[fallN l s] = true := List.findIdx_getElem (w := h)
theorem fallN_upto (l : List Int) (s : Int) (j : Nat) (hj : j < l.length) (h : partB s l[j] = true) : fallN l s ≤ j := by
  apply Nat.le_of_not_lt
  intro hlt
  exact absurd h (by simpa using List.not_of_lt_findIdx (p := partB s) (xs := l) hlt)
end Go.Proofs.Ythdgkjnhjihkpaa.Q
