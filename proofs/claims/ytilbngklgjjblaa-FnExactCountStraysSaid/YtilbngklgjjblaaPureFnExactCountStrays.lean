/- The program's CountStrays and the reference's answer the same for every font and magazine. No conditions beyond those of the statement's reading. -/
import Derived.Test.YtilbngklgjjblaaPCount
import Derived.Test.YtilbngklgjjblaaPFont
import Derived.Test.YtilbngklgjjblaaPMats
import Derived.Test.YtilbngklgjjblaaQ11
namespace Go.Proofs.Ytilbngklgjjblaa.Pure
open Go.RowKit Go.Proofs.Ytilbngklgjjblaa.Q Go.Proofs.YtilbngklgjjblaaW.PrintWords Go.Proofs.YtilbngklgjjblaaW.PrintLast Go.Proofs.YtilbngklgjjblaaW.PrintMore
set_option linter.unusedVariables false
set_option linter.unusedSimpArgs false
theorem FnExactCountStrays : laws_FnExactCountStrays.Pure := by
  intro a ws cs m h1 h2 _ h3 _ h4 h5
  obtain ⟨t, ht, hlt⟩ := szFont_ok a ws cs h1 h2 h3
  by_cases hneg : t < 0
  · exact ⟨0, by simp only [laws_FnExactCountStrays.f, ht, Option.bind_some, if_pos hneg]⟩
  · obtain ⟨lt, _, l2, l3⟩ := hlt hneg
    obtain ⟨u, ⟨K0, f0⟩, hu⟩ := szMatrixSS_ok m t (by omega) lt h4 (fun r hr => (h5 r hr).1)
    by_cases hneg2 : u < 0
    · exact ⟨K0, by simp only [laws_FnExactCountStrays.f, ht, Option.bind_some, if_neg hneg, f0 K0 (Nat.le_refl _), if_pos hneg2]⟩
    · obtain ⟨l4, l5⟩ := hu hneg2
      obtain ⟨K1, f1⟩ := toFont_ev a ws cs (by omega) (by omega)
      obtain ⟨K2, f2⟩ := eqFont_ev a ws cs (by omega) (by omega)
      obtain ⟨K3, f3⟩ := spec_CountStrays_ev a ws cs (m.map (List.map conv)) (by omega)
      obtain ⟨K4, f4⟩ := impl_CountStrays_ev a ws cs (m.map (List.map conv)) (by omega)
      obtain ⟨K5, f5⟩ := toMatrixSS_ev m (by omega) (fun r hr => by have := l5 r hr; omega)
      obtain ⟨K6, f6⟩ := eqMatrixSS_ev (m.map (List.map conv)) (by rw [List.length_map]; omega) (fun r hr => by
        obtain ⟨q, hq, rfl⟩ := List.mem_map.1 hr
        have := l5 q hq
        rw [List.length_map]; omega)
      refine ⟨K0 + K1 + K2 + K3 + K4 + K5 + K6, ?_⟩
      generalize hK : K0 + K1 + K2 + K3 + K4 + K5 + K6 = K
      simp only [laws_FnExactCountStrays.f, ht, Option.bind_some, if_neg hneg, f0 K (by omega), if_neg hneg2, f1 K (by omega), f2 K (by omega), f3 K (by omega), f4 K (by omega), f5 K (by omega), f6 K (by omega), if_true]
end Go.Proofs.Ytilbngklgjjblaa.Pure
