/- The program's PlacesOf and the reference's answer the same for every measure and line; the answer is a fresh list. No conditions beyond those of the statement's reading. -/
import Derived.Test.YtnkpblbofjchaaaPInts
import Derived.Test.YtnkpblbofjchaaaPMarks
import Derived.Test.YtnkpblbofjchaaaPMeasure
import Derived.Test.YtnkpblbofjchaaaPPlaces
import Derived.Test.YtnkpblbofjchaaaQ6
namespace Go.Proofs.Ytnkpblbofjchaaa.Pure
open Go.RowKit Go.Proofs.Ytnkpblbofjchaaa.Q Go.Proofs.YtnkpblbofjchaaaW.PrintWords Go.Proofs.YtnkpblbofjchaaaW.PrintLast Go.Proofs.YtnkpblbofjchaaaW.PrintMore
set_option linter.unusedVariables false
set_option linter.unusedSimpArgs false
theorem FnExactPlacesOf : laws_FnExactPlacesOf.Pure := by
  intro a b c l wa wb wc hm hw
  by_cases hlen : (l.length : Int) > 1048576
  · exact ⟨0, by simp only [laws_FnExactPlacesOf.f, if_pos hlen]⟩
  have hbl := placesOf_length a b c l
  obtain ⟨K1, h1⟩ := toIntS_ev l (by omega)
  obtain ⟨K2, h2⟩ := spec_PlacesOf_ev a b c l (by omega)
  obtain ⟨K3, h3⟩ := impl_PlacesOf_ev a b c l (by omega)
  obtain ⟨K4, h4⟩ := eqIntS_ev (placesOf a b c l) (placesOf a b c l) (by omega)
  obtain ⟨K5, h5⟩ := eqIntS_ev l l (by omega)
  obtain ⟨K6, h6⟩ := markIntS_ev l 1 (by omega) (by omega) (by omega)
  obtain ⟨K7, h7⟩ := markIntS_ev (placesOf a b c l) 1 (by omega) (by omega) (by omega)
  obtain ⟨K8, h8⟩ := heldIntS_ev (placesOf a b c l).length 1 (by omega) (by omega) (by omega)
  generalize hK : K1 + K2 + K3 + K4 + K5 + K6 + K7 + K8 = K
  have g1 := fun j => h1 (K + j) (by omega)
  have g2 := fun j => h2 (K + j) (by omega)
  have g3 := fun j => h3 (K + j) (by omega)
  have g4 := fun j => h4 (K + j) (by omega)
  have g5 := fun j => h5 (K + j) (by omega)
  have g6 := fun j => h6 (K + j) (by omega)
  have g7 := fun j => h7 (K + j) (by omega)
  have g8 := fun j => h8 (K + j) (by omega)
  refine ⟨K + 9, ?_⟩
  have n1 : ¬ ((1 : Int) + l.length < 0) := by omega
  have n2 : ¬ ((1 : Int) + (placesOf a b c l).length < 0) := by omega
  simp only [laws_FnExactPlacesOf.f, if_neg hlen, toMeasure_eq, g1, g2, g3, g4, g5, g6, Option.bind_some, if_true, decide_true, if_neg n1, Bool.not_true]
  simp only [laws_FnExactPlacesOf.j0, Bool.false_eq_true, if_false]
  have g1 := fun j => h1 (K + j) (by omega)
  simp only [toMeasure_eq, g1, g3, g4, g7, g8, Option.bind_some, if_true, decide_true, if_neg n2]
end Go.Proofs.Ytnkpblbofjchaaa.Pure
