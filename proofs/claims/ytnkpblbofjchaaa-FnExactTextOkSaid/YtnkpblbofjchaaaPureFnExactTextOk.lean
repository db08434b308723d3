/- The program's TextOk and the reference's answer the same for every list. No conditions beyond those of the statement's reading. -/
import Derived.Test.YtnkpblbofjchaaaPInts
import Derived.Test.YtnkpblbofjchaaaPMeasure
import Derived.Test.YtnkpblbofjchaaaQ2
namespace Go.Proofs.Ytnkpblbofjchaaa.Pure
open Go.RowKit Go.Proofs.Ytnkpblbofjchaaa.Q Go.Proofs.YtnkpblbofjchaaaW.PrintWords Go.Proofs.YtnkpblbofjchaaaW.PrintLast Go.Proofs.YtnkpblbofjchaaaW.PrintMore
set_option linter.unusedVariables false
set_option linter.unusedSimpArgs false
theorem FnExactTextOk : laws_FnExactTextOk.Pure := by
  intro l hm hb hw
  by_cases hlen : (l.length : Int) > 1048576
  · exact ⟨0, by simp only [laws_FnExactTextOk.f, if_pos hlen]⟩
  obtain ⟨K1, h1⟩ := toIntS_ev l (by omega)
  obtain ⟨K2, h2⟩ := spec_TextOk_ev l (by omega)
  obtain ⟨K3, h3⟩ := eqIntS_ev l l (by omega)
  refine ⟨K1 + K2 + K3, ?_⟩
  generalize hK : K1 + K2 + K3 = K
  simp only [laws_FnExactTextOk.f, if_neg hlen, h1 K (by omega), h2 K (by omega), h3 K (by omega), impl_TextOk_eq, Option.bind_some]
  simp
end Go.Proofs.Ytnkpblbofjchaaa.Pure
