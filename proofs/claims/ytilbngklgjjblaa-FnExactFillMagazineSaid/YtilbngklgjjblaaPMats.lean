/- The statements' helpers over lists of matrices: a copy, equality, the size. Conditions: those that each lemma names. -/
import Derived.Test.YtilbngklgjjblaaP0
import Derived.Test.YtilbngklgjjblaaQ0
import Derived.Test.YtilbngklgjjblaaQ1
import Derived.Test.YtilbngklgjjblaaQ2
import Derived.Test.YtilbngklgjjblaaQ3
namespace Go.Proofs.Ytilbngklgjjblaa.Q
open Go.RowKit Go.Proofs.YtilbngklgjjblaaW.PrintWords Go.Proofs.YtilbngklgjjblaaW.PrintLast Go.Proofs.YtilbngklgjjblaaW.PrintMore
set_option linter.unusedVariables false
set_option linter.unusedSimpArgs false
theorem rd30_nat (l : List S30) (i : Nat) (h : i < l.length) : rd_T30 l (i : Int) = l[i] := by simp [rd_T30, List.getD_eq_getElem?_getD, h]
theorem rdL7_nat (l : List (List S30)) (i : Nat) (h : i < l.length) : rd_L2 l (i : Int) = l[i] := by simp [rd_L2, List.getD_eq_getElem?_getD, h]
theorem eqMatrixS_ev (l : List S30) (hl : l.length ≤ 1099511627776) : Ev (fun k => laws_eqMatrixS.f k l l) true := by
  have main : ∀ d i, i + d = l.length → Ev (fun k => laws_eqMatrixS.l0 k l l (i : Int)) true := by
    intro d
    induction d with
    | zero =>
      intro i hi
      exact ev_step1 (fun k => by simp only [laws_eqMatrixS.l0]; rw [if_neg (by omega)])
    | succ d ih =>
      intro i hi
      refine Ev.step (fun k => ?_) (ih (i + 1) (by omega))
      simp only [laws_eqMatrixS.l0, laws_eqMatrix.f, if_true, Option.bind_some]
      rw [if_pos (by omega), if_pos (by omega), if_pos (by omega), w1 i (by omega)]
  refine ev_eq (main l.length 0 (by omega)) (fun k => ?_)
  simp only [laws_eqMatrixS.f, if_true]
  rfl
theorem eqMatrixSS_ev (m : List (List S30)) (hl : m.length ≤ 1099511627776) (hr : ∀ r ∈ m, r.length ≤ 1099511627776) : Ev (fun k => laws_eqMatrixSS.f k m m) true := by
  have main : ∀ d i, i + d = m.length → Ev (fun k => laws_eqMatrixSS.l0 k m m (i : Int)) true := by
    intro d
    induction d with
    | zero =>
      intro i hi
      exact ev_step1 (fun k => by simp only [laws_eqMatrixSS.l0]; rw [if_neg (by omega)])
    | succ d ih =>
      intro i hi
      have hi' : i < m.length := by omega
      have hrow := eqMatrixS_ev m[i] (hr m[i] (List.getElem_mem hi'))
      refine Ev.step (f := fun k => (laws_eqMatrixS.f k m[i] m[i]).bind fun t => if t = true then laws_eqMatrixSS.l0 k m m ((i + 1 : Nat) : Int) else some false) (fun k => ?_) (Ev.bind (f := fun k t => if t = true then laws_eqMatrixSS.l0 k m m ((i + 1 : Nat) : Int) else some false) hrow (ev_eq (ih (i + 1) (by omega)) (fun k => by rw [if_pos rfl])))
      simp only [laws_eqMatrixSS.l0]
      rw [if_pos (by omega), if_pos (by omega), if_pos (by omega), rdL7_nat m i hi', w1 i (by omega)]
  refine ev_eq (main m.length 0 (by omega)) (fun k => ?_)
  simp only [laws_eqMatrixSS.f, if_true]
  rfl
end Go.Proofs.Ytilbngklgjjblaa.Q
