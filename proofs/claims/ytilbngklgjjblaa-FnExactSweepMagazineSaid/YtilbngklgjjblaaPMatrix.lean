/- Matrices of a font: what the program's and the reference's functions give. Conditions: those that each lemma names. -/
import Derived.Test.YtilbngklgjjblaaP0
import Derived.Test.YtilbngklgjjblaaPBar
import Derived.Test.YtilbngklgjjblaaQ11
import Derived.Test.YtilbngklgjjblaaQ8
namespace Go.Proofs.Ytilbngklgjjblaa.Q
open Go.RowKit Go.Proofs.YtilbngklgjjblaaW.PrintWords Go.Proofs.YtilbngklgjjblaaW.PrintLast Go.Proofs.YtilbngklgjjblaaW.PrintMore
set_option linter.unusedVariables false
set_option linter.unusedSimpArgs false
/-- Whether a matrix is one of a font that is one. -/
def matB (a : ByteArray) (cs : List Int) (kind teeth : Int) : Bool := decide (0 ≤ kind) && decide (kind < a.size) && isSetB teeth && partB teeth (rd cs kind)
theorem impl_ofFont_eq (a : ByteArray) (ws cs : List Int) (kind teeth : Int) (hc : cs.length = a.size) : impl_ofFont.f a ws cs kind teeth = some (matB a cs kind teeth) := by
  unfold impl_ofFont.f matB
  by_cases h1 : 0 ≤ kind
  · by_cases h2 : kind < (a.size : Int)
    · rw [if_pos h1, if_pos h2, isSet_eq, Option.bind_some, decide_eq_true h1, decide_eq_true h2, Bool.true_and, Bool.true_and]
      cases hs : isSetB teeth with
      | true => rw [if_pos rfl, if_pos h1, if_pos (by omega), impl_part_eq, Option.bind_some, Bool.true_and]
      | false => rw [if_neg (by decide), Bool.false_and]
    · rw [if_pos h1, if_neg h2, decide_eq_false h2]; simp
  · rw [if_neg h1, decide_eq_false h1]; simp
theorem spec_l2Matrix_eq (a : ByteArray) (ws cs : List Int) (kind teeth : Int) (hc : cs.length = a.size) (hs : a.size ≤ 40) : spec_l2Matrix.f a ws cs kind teeth = some (matB a cs kind teeth) := by
  unfold spec_l2Matrix.f matB
  have hw : wrap64 ((a.size : Int) - 1) = (a.size : Int) - 1 := wrap_id _ (by omega) (by omega)
  rw [hw, l1In_eq, Option.bind_some]
  by_cases h1 : 0 ≤ kind
  · by_cases h2 : kind < (a.size : Int)
    · rw [decide_eq_true h1, decide_eq_true h2, decide_eq_true (show kind ≤ (a.size : Int) - 1 by omega), Bool.true_and, Bool.true_and, if_pos rfl, l1Set_eq, Option.bind_some]
      cases hs : isSetB teeth with
      | true => rw [if_pos rfl, if_pos h1, if_pos (by omega), spec_part_eq, Option.bind_some, Bool.true_and]
      | false => rw [if_neg (by decide), Bool.false_and]
    · rw [decide_eq_true h1, decide_eq_false h2, decide_eq_false (show ¬ kind ≤ (a.size : Int) - 1 by omega)]; simp
  · rw [decide_eq_false h1]; simp
end Go.Proofs.Ytilbngklgjjblaa.Q
