/- The program's CenterLine and the reference's answer the same for every measure and lists; the answer is a fresh list. No conditions beyond those of the statement's reading. -/
import Derived.Test.YtnkpblbofjchaaaPInts
import Derived.Test.YtnkpblbofjchaaaPMarks
import Derived.Test.YtnkpblbofjchaaaPMeasure
import Derived.Test.YtnkpblbofjchaaaPQuads
import Derived.Test.YtnkpblbofjchaaaQ1
import Derived.Test.YtnkpblbofjchaaaQ3
import Derived.Test.YtnkpblbofjchaaaQ5
import Derived.Test.YtnkpblbofjchaaaQ6
namespace Go.Proofs.Ytnkpblbofjchaaa.Pure
open Go.RowKit Go.Proofs.Ytnkpblbofjchaaa.Q Go.Proofs.YtnkpblbofjchaaaW.PrintWords Go.Proofs.YtnkpblbofjchaaaW.PrintLast Go.Proofs.YtnkpblbofjchaaaW.PrintMore
set_option linter.unusedVariables false
set_option linter.unusedSimpArgs false
theorem impl_CenterLine_f (k : Nat) (a b c : Int) (l Q : List Int) : impl_CenterLine.f k a b c l Q = filF (addQ true) k a b c l Q := by
  have e : addQ true = (fun L x => [x] ++ L ++ [x]) := by funext L x; simp [addQ]
  unfold impl_CenterLine.f
  rw [e]
theorem FnExactCenterLine : laws_FnExactCenterLine.Pure := by
  intro a b c l Q wa wb wc hm hw hm2 hw2
  by_cases hlen : (l.length : Int) > 1048576
  · exact ⟨0, by simp only [laws_FnExactCenterLine.f, if_pos hlen]⟩
  by_cases hlen2 : (Q.length : Int) > 1048576
  · exact ⟨0, by simp only [laws_FnExactCenterLine.f, if_neg hlen, if_pos hlen2]⟩
  obtain ⟨r, ⟨K2, h2⟩, ⟨K3, h3⟩, hr⟩ := fill_ev a b c true l Q (by omega) (by omega)
  have hrl : r.1.length ≤ 1000 := by
    rcases hr with ⟨h, _⟩ | ⟨_, _, _, p, h, _, hf, _⟩
    · rw [h]; simp
    · rw [h]; have := fits_len a b _ hf; simp only; omega
  obtain ⟨o, y⟩ := r
  clear hr
  simp only at hrl
  obtain ⟨K1, h1⟩ := toIntS_ev l (by omega)
  obtain ⟨K4, h4⟩ := toIntS_ev Q (by omega)
  obtain ⟨K5, h5⟩ := eqIntS_ev o o (by omega)
  obtain ⟨K6, h6⟩ := eqIntS_ev l l (by omega)
  obtain ⟨K7, h7⟩ := eqIntS_ev Q Q (by omega)
  obtain ⟨K8, h8⟩ := markIntS_ev l 1 (by omega) (by omega) (by omega)
  obtain ⟨K9, h9⟩ := markIntS_ev Q (1 + l.length) (by omega) (by omega) (by omega)
  obtain ⟨K10, h10⟩ := markIntS_ev o 1 (by omega) (by omega) (by omega)
  obtain ⟨K11, h11⟩ := heldIntS_ev o.length 1 (by omega) (by omega) (by omega)
  generalize hK : K1 + K2 + K3 + K4 + K5 + K6 + K7 + K8 + K9 + K10 + K11 = K
  have g1 : ∀ j, laws_toIntS.f (K + j) l = some l := fun j => h1 (K + j) (by omega)
  have g2 : ∀ j, impl_CenterLine.f (K + j) a b c l Q = some (o, y) := fun j => by rw [impl_CenterLine_f]; exact h2 (K + j) (by omega)
  have g3 : ∀ j, spec_CenterLine.f (K + j) a b c l Q = some (o, y) := fun j => by unfold spec_CenterLine.f; exact h3 (K + j) (by omega)
  have g4 : ∀ j, laws_toIntS.f (K + j) Q = some Q := fun j => h4 (K + j) (by omega)
  have g5 : ∀ j, laws_eqIntS.f (K + j) o o = some true := fun j => by have := h5 (K + j) (by omega); simpa using this
  have g6 : ∀ j, laws_eqIntS.f (K + j) l l = some true := fun j => by have := h6 (K + j) (by omega); simpa using this
  have g7 : ∀ j, laws_eqIntS.f (K + j) Q Q = some true := fun j => by have := h7 (K + j) (by omega); simpa using this
  have g8 : ∀ j, laws_markIntS.f (K + j) l 1 = some ((1 : Int) + l.length, marks 1 l.length) := fun j => h8 (K + j) (by omega)
  have g9 : ∀ j, laws_markIntS.f (K + j) Q ((1 : Int) + l.length) = some ((1 : Int) + l.length + Q.length, marks (1 + l.length) Q.length) := fun j => h9 (K + j) (by omega)
  have g10 : ∀ j, laws_markIntS.f (K + j) o 1 = some ((1 : Int) + o.length, marks 1 o.length) := fun j => h10 (K + j) (by omega)
  have g11 : ∀ j, laws_heldIntS.f (K + j) (marks 1 o.length) 1 = some ((1 : Int) + o.length) := fun j => h11 (K + j) (by omega)
  refine ⟨K + 9, ?_⟩
  have n1 : ¬ ((1 : Int) + l.length + Q.length < 0) := by omega
  have n2 : ¬ ((1 : Int) + o.length < 0) := by omega
  have k9 := g1 9
  simp only [laws_FnExactCenterLine.f, if_neg hlen, if_neg hlen2, toMeasure_eq, g1, g2, g3, g4, g5, Option.bind_some, if_true, bne_self_eq_false]
  simp only [laws_FnExactCenterLine.j0, Bool.false_eq_true, if_false, g1, g4, g5, g6, g7, g8, g9, Option.bind_some, if_true, if_neg n1, bne_self_eq_false]
  simp only [laws_FnExactCenterLine.j1, Bool.false_eq_true, if_false, g1, g2, g4, g5, g10, g11, toMeasure_eq, Option.bind_some, if_true, if_neg n2, bne_self_eq_false]
  simp only [laws_FnExactCenterLine.j2, Bool.false_eq_true, if_false, g11, Option.bind_some, if_true, if_neg n2]
end Go.Proofs.Ytnkpblbofjchaaa.Pure
