/- What the statements' helpers over lists of numbers give: a copy, equality, the marks and that they are held. Conditions: the lists are no longer than 2^40. -/
import Derived.Test.YtilbngklgjjblaaP0
import Derived.Test.YtilbngklgjjblaaQ1
namespace Go.Proofs.Ytilbngklgjjblaa.Q
open Go.RowKit Go.Proofs.YtilbngklgjjblaaW.PrintWords Go.Proofs.YtilbngklgjjblaaW.PrintLast Go.Proofs.YtilbngklgjjblaaW.PrintMore
set_option linter.unusedVariables false
set_option linter.unusedSimpArgs false
theorem toIntS_ev (l : List Int) (hl : l.length ≤ 1099511627776) : Ev (fun k => laws_toIntS.f k l) l := by
  have main : ∀ i (x3 : List Int), i ≤ l.length → (x3.length = l.length ∧ ∀ j (h : j < l.length), j < i → x3[j]? = some l[j]) → Ev (fun k => laws_toIntS.l0 k l x3 (i : Int)) l := by
    refine ev_down (fun k x3 i => laws_toIntS.l0 k l x3 i) l.length (fun i x3 => x3.length = l.length ∧ ∀ j (h : j < l.length), j < i → x3[j]? = some l[j]) (fun _ _ => l) ?_ ?_
    · intro x3 ⟨h1, h2⟩
      have : x3 = l := by
        apply List.ext_getElem h1
        intro j hj1 hj2
        have := h2 j hj2 hj2
        rw [List.getElem?_eq_getElem hj1] at this
        exact Option.some.inj this
      subst this
      exact ev_step1 (fun k => by simp only [laws_toIntS.l0]; rw [if_neg (by omega)])
    · intro i x3 hi ⟨h1, h2⟩ ih
      refine Ev.step (f := fun k => laws_toIntS.l0 k l (x3.set (i : Int).toNat (rd l i)) ((i + 1 : Nat) : Int)) (fun k => ?_) (ih _ ⟨by simpa using h1, ?_⟩)
      · simp only [laws_toIntS.l0]
        rw [if_pos (by omega), if_pos (by omega), if_pos (by omega), w1 i (by omega)]
      · intro j hj hji
        rw [rd_nat l i hi, Int.toNat_natCast, List.getElem?_set]
        by_cases e : i = j
        · subst e; simp [h1, hi]
        · rw [if_neg e]; exact h2 j hj (by omega)
  refine ev_eq (main 0 (List.replicate l.length 0) (by omega) ⟨by simp, fun j _ h => absurd h (Nat.not_lt_zero j)⟩) (fun k => ?_)
  unfold laws_toIntS.f
  rw [if_pos (by omega), if_pos (by omega)]
  simp
theorem drop_eq_iff (a b : List Int) (i : Nat) (ha : i < a.length) (hb : i < b.length) : (a.drop i = b.drop i) ↔ (a[i] = b[i] ∧ a.drop (i + 1) = b.drop (i + 1)) := by
  rw [List.drop_eq_getElem_cons ha, List.drop_eq_getElem_cons hb, List.cons.injEq]
theorem eqIntS_ev (a b : List Int) (hl : a.length ≤ 1099511627776) : Ev (fun k => laws_eqIntS.f k a b) (decide (a = b)) := by
  by_cases hn : a.length = b.length
  · have main : ∀ i, i ≤ a.length → Ev (fun k => laws_eqIntS.l0 k a b (i : Int)) (decide (a.drop i = b.drop i)) := by
      refine ev_down0 (fun k i => laws_eqIntS.l0 k a b i) a.length (fun i => decide (a.drop i = b.drop i)) ?_ ?_
      · refine ev_step1 (fun k => ?_)
        simp only [laws_eqIntS.l0]
        rw [if_neg (by omega)]
        simp [hn]
      · intro i hi ih
        have hb : i < b.length := by omega
        by_cases e : a[i] = b[i]
        · refine Ev.step (f := fun k => laws_eqIntS.l0 k a b ((i + 1 : Nat) : Int)) (fun k => ?_) ?_
          · simp only [laws_eqIntS.l0]
            rw [if_pos (by omega), if_pos (by omega), if_pos (by omega), rd_nat a i hi, rd_nat b i hb, if_pos e, w1 i (by omega)]
          · rw [show decide (a.drop i = b.drop i) = decide (a.drop (i + 1) = b.drop (i + 1)) from decide_eq_decide.2 ((drop_eq_iff a b i hi hb).trans ⟨fun h => h.2, fun h => ⟨e, h⟩⟩)]
            exact ih
        · refine ev_step1 (fun k => ?_)
          simp only [laws_eqIntS.l0]
          rw [if_pos (by omega), if_pos (by omega), if_pos (by omega), rd_nat a i hi, rd_nat b i hb, if_neg e, decide_eq_false (fun h => e ((drop_eq_iff a b i hi hb).1 h).1)]
    refine ev_eq (main 0 (by omega)) (fun k => ?_)
    unfold laws_eqIntS.f
    rw [if_pos (by omega)]
    simp
  · refine ev_const (fun k => ?_)
    unfold laws_eqIntS.f
    rw [if_neg (by omega)]
    have : a ≠ b := fun e => hn (by rw [e])
    simp [this]
end Go.Proofs.Ytilbngklgjjblaa.Q
