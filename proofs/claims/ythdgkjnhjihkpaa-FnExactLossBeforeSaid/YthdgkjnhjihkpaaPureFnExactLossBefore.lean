/- The program's LossBefore and the reference's answer the same for every list and number. No conditions beyond those of the statement's reading. -/
import Derived.Test.YthdgkjnhjihkpaaPInts
import Derived.Test.YthdgkjnhjihkpaaPLoss
import Derived.Test.YthdgkjnhjihkpaaQ16
namespace Go.Proofs.Ythdgkjnhjihkpaa.Pure
open Go.RowKit Go.Proofs.Ythdgkjnhjihkpaa.Q Go.Proofs.YthdgkjnhjihkpaaW.PrintWords Go.Proofs.YthdgkjnhjihkpaaW.PrintLast Go.Proofs.YthdgkjnhjihkpaaW.PrintMore
set_option linter.unusedVariables false
set_option linter.unusedSimpArgs false
theorem FnExactLossBefore : laws_FnExactLossBefore.Pure := by
  intro l p hm hb hw wp
  by_cases hlen : (l.length : Int) > 1048576
  · exact ⟨0, by simp only [laws_FnExactLossBefore.f, if_pos hlen]⟩
  obtain ⟨K1, h1⟩ := toIntS_ev l (by omega)
  obtain ⟨K2, h2⟩ := spec_LossBefore_ev l p (by omega)
  obtain ⟨K3, h3⟩ := eqIntS_ev l l (by omega)
  obtain ⟨K4, h4⟩ := impl_LossBefore_ev l p
  refine ⟨K1 + K2 + K3 + K4, ?_⟩
  generalize hK : K1 + K2 + K3 + K4 = K
  simp only [laws_FnExactLossBefore.f, if_neg hlen, h1 K (by omega), h2 K (by omega), h3 K (by omega), h4 K (by omega), Option.bind_some, if_true, decide_true]
end Go.Proofs.Ythdgkjnhjihkpaa.Pure
