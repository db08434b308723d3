/- Orders of a chart: what the program's table and the reference's give. Conditions: those that each lemma names. -/
import Derived.Test.YthdgkjnhjihkpaaPBar
namespace Go.Proofs.Ythdgkjnhjihkpaa.Q
open Go.RowKit Go.Proofs.YthdgkjnhjihkpaaW.PrintWords Go.Proofs.YthdgkjnhjihkpaaW.PrintLast Go.Proofs.YthdgkjnhjihkpaaW.PrintMore
set_option linter.unusedVariables false
set_option linter.unusedSimpArgs false
/-- Is tooth j free of the teeth b? From tooth i on. -/
def ff (l : List Int) (b : Nat → Bool) (j : Nat) : Nat → Nat → Bool
  | _, 0 => true
  | i, c + 1 => if i = j then ff l b j (i + 1) c else if b i = true then (if partB (l.getD i 0) (l.getD j 0) = true then false else ff l b j (i + 1) c) else ff l b j (i + 1) c
theorem getD_nat (l : List Int) (i : Nat) (h : i < l.length) : l.getD i 0 = l[i] := by simp [List.getD_eq_getElem?_getD, h]
theorem rd_getD (l : List Int) (i : Nat) : rd l (i : Int) = l.getD i 0 := by simp [rd]
end Go.Proofs.Ythdgkjnhjihkpaa.Q
