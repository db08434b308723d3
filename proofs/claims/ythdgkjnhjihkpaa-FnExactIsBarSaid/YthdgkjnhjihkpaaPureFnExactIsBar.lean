/- The program's IsBar and the reference's answer the same for every list. No conditions beyond those of the statement's reading. -/
import Derived.Test.YthdgkjnhjihkpaaPBar
import Derived.Test.YthdgkjnhjihkpaaPInts
import Derived.Test.YthdgkjnhjihkpaaQ2
namespace Go.Proofs.Ythdgkjnhjihkpaa.Pure
open Go.RowKit Go.Proofs.Ythdgkjnhjihkpaa.Q Go.Proofs.YthdgkjnhjihkpaaW.PrintWords Go.Proofs.YthdgkjnhjihkpaaW.PrintLast Go.Proofs.YthdgkjnhjihkpaaW.PrintMore
set_option linter.unusedVariables false
set_option linter.unusedSimpArgs false
theorem FnExactIsBar : laws_FnExactIsBar.Pure := by
  intro l hm hb hw
  by_cases hlen : (l.length : Int) > 1048576
  · exact ⟨0, by simp only [laws_FnExactIsBar.f, if_pos hlen]⟩
  obtain ⟨K1, h1⟩ := toIntS_ev l (by omega)
  obtain ⟨K2, h2⟩ := spec_IsBar_ev l (by omega)
  obtain ⟨K3, h3⟩ := eqIntS_ev l l (by omega)
  refine ⟨K1 + K2 + K3, ?_⟩
  simp only [laws_FnExactIsBar.f, if_neg hlen, h1 (K1 + K2 + K3) (by omega), h2 (K1 + K2 + K3) (by omega), h3 (K1 + K2 + K3) (by omega), isBar_eq, Option.bind_some]
  simp
end Go.Proofs.Ythdgkjnhjihkpaa.Pure
