/- The program's CountOrders and the reference's answer the same for every list. No conditions beyond those of the statement's reading. -/
import Derived.Test.YthdgkjnhjihkpaaPInts
import Derived.Test.YthdgkjnhjihkpaaPOrders
import Derived.Test.YthdgkjnhjihkpaaPOrdersI
import Derived.Test.YthdgkjnhjihkpaaQ5
namespace Go.Proofs.Ythdgkjnhjihkpaa.Pure
open Go.RowKit Go.Proofs.Ythdgkjnhjihkpaa.Q Go.Proofs.YthdgkjnhjihkpaaW.PrintWords Go.Proofs.YthdgkjnhjihkpaaW.PrintLast Go.Proofs.YthdgkjnhjihkpaaW.PrintMore
set_option linter.unusedVariables false
set_option linter.unusedSimpArgs false
theorem FnExactCountOrders : laws_FnExactCountOrders.Pure := by
  intro l hm hm2 hw
  by_cases hlen : (l.length : Int) > 1048576
  · exact ⟨0, by simp only [laws_FnExactCountOrders.f, if_pos hlen]⟩
  obtain ⟨K1, h1⟩ := toIntS_ev l (by omega)
  obtain ⟨K2, h2⟩ := spec_CountOrders_ev l (by omega)
  obtain ⟨K3, h3⟩ := impl_CountOrders_ev l (by omega)
  obtain ⟨K4, h4⟩ := eqIntS_ev l l (by omega)
  generalize hK : K1 + K2 + K3 + K4 = K
  have g1 := fun j => h1 (K + j) (by omega)
  have g2 := fun j => h2 (K + j) (by omega)
  have g3 := fun j => h3 (K + j) (by omega)
  have g4 := fun j => h4 (K + j) (by omega)
  refine ⟨K + 9, ?_⟩
  simp only [laws_FnExactCountOrders.f, if_neg hlen, g1, g2, g3, g4, Option.bind_some, if_true, decide_true]
end Go.Proofs.Ythdgkjnhjihkpaa.Pure
