/- The program's KindCounts and the reference's answer the same for every font and magazine; the answer is a fresh list. No conditions beyond those of the statement's reading. -/
import Derived.Test.YtilbngklgjjblaaPFont
import Derived.Test.YtilbngklgjjblaaPInts
import Derived.Test.YtilbngklgjjblaaPKinds
import Derived.Test.YtilbngklgjjblaaPMarkS
import Derived.Test.YtilbngklgjjblaaPMarks
import Derived.Test.YtilbngklgjjblaaPMats
import Derived.Test.YtilbngklgjjblaaQ99
namespace Go.Proofs.Ytilbngklgjjblaa.Pure
open Go.RowKit Go.Proofs.Ytilbngklgjjblaa.Q Go.Proofs.YtilbngklgjjblaaW.PrintWords Go.Proofs.YtilbngklgjjblaaW.PrintLast Go.Proofs.YtilbngklgjjblaaW.PrintMore
set_option linter.unusedVariables false
set_option linter.unusedSimpArgs false
theorem FnExactKindCounts : laws_FnExactKindCounts.Pure := by
  intro a ws cs m h1 h2 _ h3 _ h4 h5
  obtain ⟨t, e4, h | ⟨n4, u, K0, e7, h | ⟨n7, l1, l2, l3, l4, l5, l6⟩⟩⟩ := mag_front a ws cs m h1 h2 h3 h4 (fun r hr => (h5 r hr).1)
  · exact ⟨0, t, e4, Or.inl h⟩
  · exact ⟨K0, t, e4, Or.inr ⟨n4, u, e7 K0 (Nat.le_refl _), Or.inl h⟩⟩
  have lm : (m.map (List.map conv)).length ≤ 1048576 := by rw [List.length_map]; omega
  have lk := kindCounts_length a ws cs (m.map (List.map conv))
  obtain ⟨K1, f1⟩ := toFont_ev a ws cs (by omega) (by omega)
  obtain ⟨K2, f2⟩ := toMatrixSS_ev m (by omega) (fun r hr => by have := l5 r hr; omega)
  obtain ⟨K3, f3⟩ := spec_KindCounts_ev a ws cs (m.map (List.map conv)) (by omega)
  obtain ⟨K4, f4⟩ := impl_KindCounts_ev a ws cs (m.map (List.map conv)) (by omega)
  obtain ⟨K5, f5⟩ := eqIntS_ev (kindCounts a ws cs (m.map (List.map conv))) (kindCounts a ws cs (m.map (List.map conv))) (by omega)
  obtain ⟨K6, f6⟩ := eqFont_ev a ws cs (by omega) (by omega)
  obtain ⟨K7, f7⟩ := eqMatrixSS_ev (m.map (List.map conv)) (by omega) (fun r hr => by
    obtain ⟨q, hq, rfl⟩ := List.mem_map.1 hr
    have := l5 q hq
    rw [List.length_map]; omega)
  obtain ⟨K8, f8⟩ := markFont_ev a ws cs 1 (by omega) (by omega) (by omega) (by omega)
  obtain ⟨K9, f9⟩ := markMatrixSS_ev (m.map (List.map conv)) (1 + ws.length + cs.length) (by omega) (by omega) (by omega)
  obtain ⟨K10, f10⟩ := markIntS_ev (kindCounts a ws cs (m.map (List.map conv))) 1 (by omega) (by omega) (by omega)
  obtain ⟨K11, f11⟩ := heldIntS_ev (kindCounts a ws cs (m.map (List.map conv))).length 1 (by omega) (by omega) (by omega)
  rw [decide_eq_true rfl] at f5
  refine ⟨K0 + K1 + K2 + K3 + K4 + K5 + K6 + K7 + K8 + K9 + K10 + K11, t, e4, Or.inr ⟨n4, u, e7 _ (by omega), Or.inr ⟨n7, a, ws, cs, f1 _ (by omega), _, f2 _ (by omega), _, f3 _ (by omega), f4 _ (by omega), f5 _ (by omega), f6 _ (by omega), f7 _ (by omega), _, _, _, f8 _ (by omega), _, _, f9 _ (by omega), by omega, _, _, f10 _ (by omega), f11 _ (by omega), by omega, trivial⟩⟩⟩
end Go.Proofs.Ytilbngklgjjblaa.Pure
