/- FallOf: its value, and that fewer teeth fall no later. Conditions: those that each lemma names. -/
import Derived.Test.YthdgkjnhjihkpaaPBar
import Derived.Test.YthdgkjnhjihkpaaQ1
import Derived.Test.YthdgkjnhjihkpaaQ2
namespace Go.Proofs.Ythdgkjnhjihkpaa.Q
open Go.RowKit Go.Proofs.YthdgkjnhjihkpaaW.PrintWords Go.Proofs.YthdgkjnhjihkpaaW.PrintLast Go.Proofs.YthdgkjnhjihkpaaW.PrintMore
set_option linter.unusedVariables false
set_option linter.unusedSimpArgs false
def fallOf (bar : List Int) (s : Int) : Int := if isBar bar = true then (if isSetB s = true then (fallN bar s : Int) else -1) else -1
theorem impl_FallOf_ev (bar : List Int) (s : Int) (hl : bar.length ≤ 1099511627776) : Ev (fun k => impl_FallOf.f k bar s) (fallOf bar s) := by
  obtain ⟨K, h⟩ := impl_fall_ev bar s hl
  refine ⟨K, fun k hk => ?_⟩
  simp only [impl_FallOf.f, isBar_eq, isSet_eq, Option.bind_some, h k hk, fallOf]
  cases isBar bar <;> cases isSetB s <;> simp
end Go.Proofs.Ythdgkjnhjihkpaa.Q
