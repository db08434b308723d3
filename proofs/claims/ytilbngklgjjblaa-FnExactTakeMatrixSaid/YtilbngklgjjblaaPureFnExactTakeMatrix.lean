/- The program's TakeMatrix and the reference's answer the same for every font, magazine and channel; the answer is fresh. No conditions beyond those of the statement's reading. -/
import Derived.Test.YtilbngklgjjblaaPAll
import Derived.Test.YtilbngklgjjblaaQ99
namespace Go.Proofs.Ytilbngklgjjblaa.Pure
open Go.RowKit Go.Proofs.Ytilbngklgjjblaa.Q Go.Proofs.YtilbngklgjjblaaW.PrintWords Go.Proofs.YtilbngklgjjblaaW.PrintLast Go.Proofs.YtilbngklgjjblaaW.PrintMore
set_option linter.unusedVariables false
set_option linter.unusedSimpArgs false
theorem FnExactTakeMatrix : laws_FnExactTakeMatrix.Pure := by
  intro a ws cs m c h1 h2 _ h3 _ h4 h5 _
  obtain ⟨r4, e4, h | ⟨n4, u, K0, e7, h | ⟨n7, l1, l2, l3, l4, l5, l6⟩⟩⟩ := mag_front a ws cs m h1 h2 h3 h4 (fun r hr => (h5 r hr).1)
  · exact ⟨0, r4, e4, Or.inl h⟩
  · exact ⟨K0, r4, e4, Or.inr ⟨n4, u, e7 K0 (Nat.le_refl _), Or.inl h⟩⟩
  obtain ⟨_, _, _, y, _, K1, hy, g⟩ := mag_common a ws cs m l1 l2 l3 l4 l5 l6
  obtain ⟨K3, f3⟩ := spec_TakeMatrix_ev a ws cs (m.map (List.map conv)) c (by omega)
  obtain ⟨K4, f4⟩ := impl_TakeMatrix_ev a ws cs (m.map (List.map conv)) c (by omega)
  obtain ⟨p1, p2⟩ := takeMatrix_rows a ws cs (m.map (List.map conv)) c
  obtain ⟨y2, l', K5, hy2, g2⟩ := rows_common _ p1 p2
  obtain ⟨g1, g3, g4, g5, g6, g7⟩ := g (K0 + K1 + K3 + K4 + K5) (by omega)
  obtain ⟨q1, q2, q3⟩ := g2 (K0 + K1 + K3 + K4 + K5) (by omega)
  exact ⟨K0 + K1 + K3 + K4 + K5, r4, e4, Or.inr ⟨n4, u, e7 _ (by omega), Or.inr ⟨n7, a, ws, cs, g1, _, g3, _, _, _, _, f3 _ (by omega), f4 _ (by omega), q1, eqMatrix_same _ _, g4, g5, _, _, _, g6, _, _, g7, hy, _, _, q2, q3, hy2, trivial⟩⟩⟩
end Go.Proofs.Ytilbngklgjjblaa.Pure
