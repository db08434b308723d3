/- The program's FillMagazine and the reference's answer the same for every font and number; the answer is fresh. No conditions beyond those of the statement's reading. -/
import Derived.Test.YtilbngklgjjblaaPCopyM
import Derived.Test.YtilbngklgjjblaaPFill
import Derived.Test.YtilbngklgjjblaaPFont
import Derived.Test.YtilbngklgjjblaaPMarkS
import Derived.Test.YtilbngklgjjblaaQ99
namespace Go.Proofs.Ytilbngklgjjblaa.Pure
open Go.RowKit Go.Proofs.Ytilbngklgjjblaa.Q Go.Proofs.YtilbngklgjjblaaW.PrintWords Go.Proofs.YtilbngklgjjblaaW.PrintLast Go.Proofs.YtilbngklgjjblaaW.PrintMore
set_option linter.unusedVariables false
set_option linter.unusedSimpArgs false
theorem FnExactFillMagazine : laws_FnExactFillMagazine.Pure := by
  intro a ws cs each h1 h2 _ h3 _ _
  obtain ⟨t, ht, hlt⟩ := szFont_ok a ws cs h1 h2 h3
  by_cases hneg : t < 0
  · exact ⟨0, t, ht, Or.inl hneg⟩
  obtain ⟨lt, l1, l2, l3⟩ := hlt hneg
  obtain ⟨K1, f1⟩ := toFont_ev a ws cs (by omega) (by omega)
  obtain ⟨K2, f2⟩ := eqFont_ev a ws cs (by omega) (by omega)
  obtain ⟨K3, f3⟩ := spec_FillMagazine_ev a ws cs each (by omega)
  obtain ⟨K4, f4⟩ := impl_FillMagazine_ev a ws cs each (by omega)
  obtain ⟨K6, f6⟩ := markFont_ev a ws cs 1 (by omega) (by omega) (by omega) (by omega)
  obtain ⟨p1, p2⟩ := fillMag_rows a ws cs each
  obtain ⟨y2, l', K5, hy2, g2⟩ := rows_common _ p1 p2
  obtain ⟨q1, q2, q3⟩ := g2 (K1 + K2 + K3 + K4 + K5 + K6) (by omega)
  exact ⟨K1 + K2 + K3 + K4 + K5 + K6, t, ht, Or.inr ⟨hneg, a, ws, cs, f1 _ (by omega), _, _, f3 _ (by omega), f4 _ (by omega), q1, f2 _ (by omega), _, _, _, f6 _ (by omega), by omega, _, _, q2, q3, hy2, trivial⟩⟩
end Go.Proofs.Ytilbngklgjjblaa.Pure
