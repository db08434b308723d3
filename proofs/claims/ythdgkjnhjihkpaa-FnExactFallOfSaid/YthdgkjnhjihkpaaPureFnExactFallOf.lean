/- The program's FallOf and the reference's answer the same for every list and number. No conditions beyond those of the statement's reading. -/
import Derived.Test.YthdgkjnhjihkpaaPBar
import Derived.Test.YthdgkjnhjihkpaaPInts
import Derived.Test.YthdgkjnhjihkpaaQ1
import Derived.Test.YthdgkjnhjihkpaaQ12
import Derived.Test.YthdgkjnhjihkpaaQ8
namespace Go.Proofs.Ythdgkjnhjihkpaa.Pure
open Go.RowKit Go.Proofs.Ythdgkjnhjihkpaa.Q Go.Proofs.YthdgkjnhjihkpaaW.PrintWords Go.Proofs.YthdgkjnhjihkpaaW.PrintLast Go.Proofs.YthdgkjnhjihkpaaW.PrintMore
set_option linter.unusedVariables false
set_option linter.unusedSimpArgs false
theorem FnExactFallOf : laws_FnExactFallOf.Pure := by
  intro l s hm hb hw ws
  by_cases hlen : (l.length : Int) > 1048576
  · exact ⟨0, by simp only [laws_FnExactFallOf.f, if_pos hlen]⟩
  obtain ⟨K1, h1⟩ := toIntS_ev l (by omega)
  obtain ⟨K2, h2⟩ := spec_IsBar_ev l (by omega)
  obtain ⟨K3, h3⟩ := eqIntS_ev l l (by omega)
  obtain ⟨K4, h4⟩ := spec_fall_ev l s (by omega)
  obtain ⟨K5, h5⟩ := impl_fall_ev l s (by omega)
  refine ⟨K1 + K2 + K3 + K4 + K5, ?_⟩
  generalize hK : K1 + K2 + K3 + K4 + K5 = K
  simp only [laws_FnExactFallOf.f, spec_FallOf.f, impl_FallOf.f, if_neg hlen, h1 K (by omega), h2 K (by omega), h3 K (by omega), h4 K (by omega), h5 K (by omega), isBar_eq, l1Set_eq, isSet_eq, Option.bind_some]
  cases isBar l <;> cases isSetB s <;> simp
end Go.Proofs.Ythdgkjnhjihkpaa.Pure
