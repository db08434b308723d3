/- What the marks of the statements give: they are laid and held. Conditions: the lists are no longer than 2^40. -/
import Derived.Test.YtilbngklgjjblaaP0
import Derived.Test.YtilbngklgjjblaaQ9
namespace Go.Proofs.Ytilbngklgjjblaa.Q
open Go.RowKit Go.Proofs.YtilbngklgjjblaaW.PrintWords Go.Proofs.YtilbngklgjjblaaW.PrintLast Go.Proofs.YtilbngklgjjblaaW.PrintMore
set_option linter.unusedVariables false
set_option linter.unusedSimpArgs false
def marks : Int → Nat → List Int
  | _, 0 => []
  | a, n + 1 => a :: marks (a + 1) n
theorem marks_length (n : Nat) : ∀ a, (marks a n).length = n := by
  induction n with
  | zero => intro a; rfl
  | succ n ih => intro a; simp [marks, ih]
theorem marks_get (n : Nat) : ∀ (a : Int) (i : Nat) (h : i < (marks a n).length), (marks a n)[i] = a + i := by
  induction n with
  | zero => intro a i h; simp [marks] at h
  | succ n ih =>
    intro a i h
    cases i with
    | zero => simp [marks]
    | succ i => simp only [marks, List.getElem_cons_succ]; rw [ih]; omega
theorem markIntS_ev (l : List Int) (a : Int) (ha : 0 ≤ a) (ha2 : a ≤ 1099511627776) (hl : l.length ≤ 1099511627776) : Ev (fun k => laws_markIntS.f k l a) (a + l.length, marks a l.length) := by
  have main : ∀ i (s : List Int × Int), i ≤ l.length → (s.1.length = l.length ∧ s.2 = a + i ∧ ∀ j, j < i → s.1[j]? = some (a + j)) → Ev (fun k => laws_markIntS.l0 k s.1 s.2 (i : Int)) (a + l.length, marks a l.length) := by
    refine ev_down (fun k (s : List Int × Int) i => laws_markIntS.l0 k s.1 s.2 i) l.length (fun i s => s.1.length = l.length ∧ s.2 = a + i ∧ ∀ j, j < i → s.1[j]? = some (a + j)) (fun _ _ => (a + l.length, marks a l.length)) ?_ ?_
    · rintro ⟨x0, x1⟩ ⟨h1, h2, h3⟩
      simp only at h1 h2 h3
      subst h2
      have : x0 = marks a l.length := by
        apply List.ext_getElem (by rw [h1, marks_length])
        intro j hj1 hj2
        have := h3 j (by omega)
        rw [List.getElem?_eq_getElem hj1] at this
        rw [marks_get]
        exact Option.some.inj this
      subst this
      exact ev_step1 (fun k => by simp only [laws_markIntS.l0]; rw [if_neg (by omega)])
    · rintro i ⟨x0, x1⟩ hi ⟨h1, h2, h3⟩ ih
      simp only at h1 h2 h3
      subst h2
      refine Ev.step (f := fun k => laws_markIntS.l0 k (x0.set (i : Int).toNat (a + i)) (a + (i + 1 : Nat)) ((i + 1 : Nat) : Int)) (fun k => ?_) (ih (x0.set (i : Int).toNat (a + i), a + (i + 1 : Nat)) ⟨by simpa using h1, rfl, ?_⟩)
      · simp only [laws_markIntS.l0]
        rw [if_pos (by omega), if_pos (by omega), w1 i (by omega), wrap_id (a + i + 1) (by omega) (by omega)]
        have : a + (i : Int) + 1 = a + ((i + 1 : Nat) : Int) := by omega
        rw [this]
      · intro j hji
        rw [Int.toNat_natCast, List.getElem?_set]
        by_cases e : i = j
        · subst e; simp [h1, hi]
        · rw [if_neg e]; exact h3 j (by omega)
  exact main 0 (l, a) (by omega) ⟨rfl, by simp, fun j h => absurd h (Nat.not_lt_zero j)⟩
end Go.Proofs.Ytilbngklgjjblaa.Q
