/- The number of teeth of a set: what the program's and the reference's functions give. Conditions: the number is from 0 to 127. -/
import Derived.Test.YthdgkjnhjihkpaaP0
import Derived.Test.YthdgkjnhjihkpaaPBar
import Derived.Test.YthdgkjnhjihkpaaQ1
namespace Go.Proofs.Ythdgkjnhjihkpaa.Q
open Go.RowKit Go.Proofs.YthdgkjnhjihkpaaW.PrintWords Go.Proofs.YthdgkjnhjihkpaaW.PrintLast Go.Proofs.YthdgkjnhjihkpaaW.PrintMore
set_option linter.unusedVariables false
set_option linter.unusedSimpArgs false
def popc (n : Nat) : Nat := n % 2 + n / 2 % 2 + n / 4 % 2 + n / 8 % 2 + n / 16 % 2 + n / 32 % 2 + n / 64 % 2
theorem l1Count_all : ∀ n : Nat, n < 128 → spec_l1Count.f 9 (n : Int) = some (popc n : Int) := by decide +kernel
theorem l1Count_ev (s : Int) (h0 : 0 ≤ s) (h1 : s ≤ 127) : Ev (fun k => spec_l1Count.f k s) (popc s.toNat : Int) := by
  have h := l1Count_all s.toNat (by omega)
  rw [Int.toNat_of_nonneg h0] at h
  exact Ev.of (fun k => spec_l1Count.mono s k) h
/-- The number of teeth; -1 for what is no set. -/
def countT (s : Int) : Int := if isSetB s = true then (popc s.toNat : Int) else -1
theorem spec_CountTeeth_ev (s : Int) : Ev (fun k => spec_CountTeeth.f k s) (countT s) := by
  unfold countT
  by_cases e : isSetB s = true
  · rw [if_pos e]
    obtain ⟨h0, h1⟩ := (isSetB_iff s).1 e
    exact ev_eq (l1Count_ev s h0 h1) (fun k => by simp only [spec_CountTeeth.f, l1Set_eq, e, Option.bind_some, if_true]; cases spec_l1Count.f k s <;> rfl)
  · rw [if_neg e]
    exact ev_const (fun k => by simp [spec_CountTeeth.f, l1Set_eq, e])
end Go.Proofs.Ythdgkjnhjihkpaa.Q
