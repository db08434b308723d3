/- The number of teeth of a set: what the program's and the reference's functions give. Conditions: the number is from 0 to 127. -/
import Derived.Test.YthdgkjnhjihkpaaQ6
namespace Go.Proofs.Ythdgkjnhjihkpaa.Q
open Go.RowKit Go.Proofs.YthdgkjnhjihkpaaW.PrintWords Go.Proofs.YthdgkjnhjihkpaaW.PrintLast Go.Proofs.YthdgkjnhjihkpaaW.PrintMore
set_option linter.unusedVariables false
set_option linter.unusedSimpArgs false
def popc (n : Nat) : Nat := n % 2 + n / 2 % 2 + n / 4 % 2 + n / 8 % 2 + n / 16 % 2 + n / 32 % 2 + n / 64 % 2
theorem onesCount_all : ∀ n : Nat, n < 128 → bits_OnesCount.f (IntKind.u64.wrap (n : Int)) = some (popc n : Int) := by decide +kernel
theorem onesCount_eq (s : Int) (h0 : 0 ≤ s) (h1 : s ≤ 127) : bits_OnesCount.f (IntKind.u64.wrap s) = some (popc s.toNat : Int) := by
  have h := onesCount_all s.toNat (by omega)
  rw [Int.toNat_of_nonneg h0] at h
  exact h
end Go.Proofs.Ythdgkjnhjihkpaa.Q
