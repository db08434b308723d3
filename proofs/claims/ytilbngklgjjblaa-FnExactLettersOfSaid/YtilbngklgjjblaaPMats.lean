/- The statements' helpers over lists of matrices: a copy, equality, the size. Conditions: those that each lemma names. -/
import Derived.Test.YtilbngklgjjblaaP0
import Derived.Test.YtilbngklgjjblaaQ0
import Derived.Test.YtilbngklgjjblaaQ1
import Derived.Test.YtilbngklgjjblaaQ4
import Derived.Test.YtilbngklgjjblaaQ6
import Derived.Test.YtilbngklgjjblaaQ7
namespace Go.Proofs.Ytilbngklgjjblaa.Q
open Go.RowKit Go.Proofs.YtilbngklgjjblaaW.PrintWords Go.Proofs.YtilbngklgjjblaaW.PrintLast Go.Proofs.YtilbngklgjjblaaW.PrintMore
set_option linter.unusedVariables false
set_option linter.unusedSimpArgs false
def conv (x : S48) : S30 := ⟨x.f0, x.f1⟩
theorem rd48_nat (l : List S48) (i : Nat) (h : i < l.length) : rd_T48 l (i : Int) = l[i] := by simp [rd_T48, List.getD_eq_getElem?_getD, h]
theorem rd30_nat (l : List S30) (i : Nat) (h : i < l.length) : rd_T30 l (i : Int) = l[i] := by simp [rd_T30, List.getD_eq_getElem?_getD, h]
theorem toMatrixS_ev (l : List S48) (hl : l.length ≤ 1099511627776) : Ev (fun k => laws_toMatrixS.f k l) (l.map conv) := by
  have main : ∀ i (x3 : List S30), i ≤ l.length → (x3.length = l.length ∧ ∀ j (h : j < l.length), j < i → x3[j]? = some (conv l[j])) → Ev (fun k => laws_toMatrixS.l0 k l x3 (i : Int)) (l.map conv) := by
    refine ev_down (fun k x3 i => laws_toMatrixS.l0 k l x3 i) l.length (fun i x3 => x3.length = l.length ∧ ∀ j (h : j < l.length), j < i → x3[j]? = some (conv l[j])) (fun _ _ => l.map conv) ?_ ?_
    · intro x3 ⟨h1, h2⟩
      have : x3 = l.map conv := by
        apply List.ext_getElem (by rw [h1, List.length_map])
        intro j hj1 hj2
        have := h2 j (by omega) (by omega)
        rw [List.getElem?_eq_getElem hj1] at this
        rw [List.getElem_map]
        exact Option.some.inj this
      subst this
      exact ev_step1 (fun k => by simp only [laws_toMatrixS.l0]; rw [if_neg (by omega)])
    · intro i x3 hi ⟨h1, h2⟩ ih
      refine Ev.step (f := fun k => laws_toMatrixS.l0 k l (x3.set (i : Int).toNat (conv l[i])) ((i + 1 : Nat) : Int)) (fun k => ?_) (ih (x3.set (i : Int).toNat (conv l[i])) ⟨by simpa using h1, ?_⟩)
      · simp only [laws_toMatrixS.l0, laws_toMatrix.f, Option.bind_some]
        rw [if_pos (by omega), if_pos (by omega), if_pos (by omega), rd48_nat l i hi, w1 i (by omega)]
        rfl
      · intro j hj hji
        rw [Int.toNat_natCast, List.getElem?_set]
        by_cases e : i = j
        · subst e; rw [if_pos rfl, if_pos (by omega)]
        · rw [if_neg e]; exact h2 j hj (by omega)
  have h := main 0 (List.replicate l.length z30) (by omega) ⟨by simp, fun j _ hj => absurd hj (Nat.not_lt_zero j)⟩
  refine ev_eq h (fun k => ?_)
  simp only [laws_toMatrixS.f]
  rw [if_pos (by omega), if_pos (by omega), Int.toNat_natCast]
  rfl
theorem eqMatrixS_ev (l : List S30) (hl : l.length ≤ 1099511627776) : Ev (fun k => laws_eqMatrixS.f k l l) true := by
  have main : ∀ d i, i + d = l.length → Ev (fun k => laws_eqMatrixS.l0 k l l (i : Int)) true := by
    intro d
    induction d with
    | zero =>
      intro i hi
      exact ev_step1 (fun k => by simp only [laws_eqMatrixS.l0]; rw [if_neg (by omega)])
    | succ d ih =>
      intro i hi
      refine Ev.step (fun k => ?_) (ih (i + 1) (by omega))
      simp only [laws_eqMatrixS.l0, laws_eqMatrix.f, if_true, Option.bind_some]
      rw [if_pos (by omega), if_pos (by omega), if_pos (by omega), w1 i (by omega)]
  refine ev_eq (main l.length 0 (by omega)) (fun k => ?_)
  simp only [laws_eqMatrixS.f, if_true]
  rfl
theorem szMatrixS_ok (l : List S48) (a : Int) (ha : 0 ≤ a) (ha2 : a ≤ 1048576) (hl : l.length ≤ maxLen) : ∃ t, laws_szMatrixS.f l a = some t ∧ t ≤ 1048576 ∧ (¬ t < 0 → l.length ≤ 1048576) := by
  unfold maxLen at hl
  have e : wrap64 (a - (l.length : Int)) = a - (l.length : Int) := wrap_id _ (by omega) (by omega)
  unfold laws_szMatrixS.f
  rw [e]
  by_cases c : a - (l.length : Int) < 0
  · rw [if_pos c]; exact ⟨-1, rfl, by omega, fun h => absurd (by omega) h⟩
  · rw [if_neg c]; exact ⟨_, rfl, by omega, fun _ => by omega⟩
end Go.Proofs.Ytilbngklgjjblaa.Q
