/- FallOf: its value, and that fewer teeth fall no later. Conditions: those that each lemma names. -/
import Derived.Test.YthdgkjnhjihkpaaPBar
import Derived.Test.YthdgkjnhjihkpaaPTeeth
import Derived.Test.YthdgkjnhjihkpaaQ6
import Derived.Test.YthdgkjnhjihkpaaQ7
namespace Go.Proofs.Ythdgkjnhjihkpaa.Q
open Go.RowKit Go.Proofs.YthdgkjnhjihkpaaW.PrintWords Go.Proofs.YthdgkjnhjihkpaaW.PrintLast Go.Proofs.YthdgkjnhjihkpaaW.PrintMore
set_option linter.unusedVariables false
set_option linter.unusedSimpArgs false
def fallOf (bar : List Int) (s : Int) : Int := if isBar bar = true then (if isSetB s = true then (fallN bar s : Int) else -1) else -1
theorem impl_FallOf_ev (bar : List Int) (s : Int) (hl : bar.length ≤ 1099511627776) : Ev (fun k => impl_FallOf.f k bar s) (fallOf bar s) := by
  obtain ⟨K, h⟩ := impl_fall_ev bar s hl
  refine ⟨K, fun k hk => ?_⟩
  simp only [impl_FallOf.f, isBar_eq, isSet_eq, Option.bind_some, h k hk, fallOf]
  cases isBar bar <;> cases isSetB s <;> simp
theorem part_zero_all : ∀ x : Nat, x < 128 → partB 0 (x : Int) = true := by decide +kernel
theorem teeth_all : ∀ n : Nat, n < 128 → laws_teeth.f 9 (n : Int) = some (popc n : Int) := by decide +kernel
theorem teeth_ev (s : Int) (h0 : 0 ≤ s) (h1 : s ≤ 127) : Ev (fun k => laws_teeth.f k s) (popc s.toNat : Int) := by
  have h := teeth_all s.toNat (by omega)
  rw [Int.toNat_of_nonneg h0] at h
  exact Ev.of (fun k => laws_teeth.mono s k) h
end Go.Proofs.Ythdgkjnhjihkpaa.Q
