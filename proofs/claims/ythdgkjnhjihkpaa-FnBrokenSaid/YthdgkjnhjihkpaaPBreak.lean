/- A rail that is broken: what the program's and the reference's functions give. Conditions: none beyond those each lemma names. -/
import Derived.Test.YthdgkjnhjihkpaaPBar
import Derived.Test.YthdgkjnhjihkpaaQ1
import Derived.Test.YthdgkjnhjihkpaaQ2
namespace Go.Proofs.Ythdgkjnhjihkpaa.Q
open Go.RowKit Go.Proofs.YthdgkjnhjihkpaaW.PrintWords Go.Proofs.YthdgkjnhjihkpaaW.PrintLast Go.Proofs.YthdgkjnhjihkpaaW.PrintMore
set_option linter.unusedVariables false
set_option linter.unusedSimpArgs false
/-- BreakRail. -/
def breakRail (l : List Int) (p t : Int) : List Int × Bool :=
  if isBar l = true then if p < 0 then ([], false) else if p ≥ (l.length : Int) then ([], false) else if t < 0 then ([], false) else if t > 6 then ([], false)
    else if Go.bits .and .i64 (shr .i64 (rd l p) t) 1 = 1 then ([], false) else (l.set p.toNat (Go.bits .or .i64 (rd l p) (shl .i64 1 t)), true)
  else ([], false)
theorem impl_BreakRail_eq (l : List Int) (p t : Int) : impl_BreakRail.f l p t = some (breakRail l p t) := by
  unfold impl_BreakRail.f breakRail
  rw [isBar_eq, Option.bind_some]
  by_cases hb : isBar l = true
  · have h40 := ((isBar_iff l).1 hb).2.1
    rw [if_pos hb, if_pos hb]
    by_cases h1 : p < 0
    · rw [if_pos h1, if_pos h1]
    rw [if_neg h1, if_neg h1]
    by_cases h2 : p ≥ (l.length : Int)
    · rw [if_pos h2, if_pos h2]
    rw [if_neg h2, if_neg h2]
    by_cases h3 : t < 0
    · rw [if_pos h3, if_pos h3]
    rw [if_neg h3, if_neg h3]
    by_cases h4 : t > 6
    · rw [if_pos h4, if_pos h4]
    rw [if_neg h4, if_neg h4, if_pos (by omega), if_pos (by omega), if_pos (by omega)]
    by_cases h5 : Go.bits .and .i64 (shr .i64 (rd l p) t) 1 = 1
    · rw [if_pos h5, if_pos h5]
    rw [if_neg h5, if_neg h5]
    unfold slices_Clone_int_int.f
    rw [if_pos (by omega), Option.bind_some, if_pos (by omega)]
  · rw [if_neg hb, if_neg hb]
end Go.Proofs.Ythdgkjnhjihkpaa.Q
