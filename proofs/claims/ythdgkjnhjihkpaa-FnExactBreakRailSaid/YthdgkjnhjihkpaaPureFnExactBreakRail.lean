/- The program's BreakRail and the reference's answer the same for every list and numbers, in memory of its own. No conditions beyond those of the statement's reading. -/
import Derived.Test.YthdgkjnhjihkpaaPBreak
import Derived.Test.YthdgkjnhjihkpaaPInts
import Derived.Test.YthdgkjnhjihkpaaPMarks
import Derived.Test.YthdgkjnhjihkpaaQ15
namespace Go.Proofs.Ythdgkjnhjihkpaa.Pure
open Go.RowKit Go.Proofs.Ythdgkjnhjihkpaa.Q Go.Proofs.YthdgkjnhjihkpaaW.PrintWords Go.Proofs.YthdgkjnhjihkpaaW.PrintLast Go.Proofs.YthdgkjnhjihkpaaW.PrintMore
set_option linter.unusedVariables false
set_option linter.unusedSimpArgs false
theorem FnExactBreakRail : laws_FnExactBreakRail.Pure := by
  intro l p t hm hb hw wp wt
  by_cases hlen : (l.length : Int) > 1048576
  · exact ⟨0, by simp only [laws_FnExactBreakRail.f, if_pos hlen]⟩
  have hr := breakRail_length l p t
  obtain ⟨K1, h1⟩ := toIntS_ev l (by omega)
  obtain ⟨K2, h2⟩ := spec_BreakRail_ev l p t (by omega)
  obtain ⟨K3, h3⟩ := eqIntS_ev l l (by omega)
  obtain ⟨K4, h4⟩ := eqIntS_ev (breakRail l p t).1 (breakRail l p t).1 (by omega)
  obtain ⟨K5, h5⟩ := markIntS_ev l 1 (by omega) (by omega) (by omega)
  obtain ⟨K6, h6⟩ := markIntS_ev (breakRail l p t).1 1 (by omega) (by omega) (by omega)
  obtain ⟨K7, h7⟩ := heldIntS_ev (breakRail l p t).1.length 1 (by omega) (by omega) (by omega)
  generalize hK : K1 + K2 + K3 + K4 + K5 + K6 + K7 = K
  have g1 := fun j => h1 (K + j) (by omega)
  have g2 := fun j => h2 (K + j) (by omega)
  have g3 := fun j => h3 (K + j) (by omega)
  have g4 := fun j => h4 (K + j) (by omega)
  have g5 := fun j => h5 (K + j) (by omega)
  have g6 := fun j => h6 (K + j) (by omega)
  have g7 := fun j => h7 (K + j) (by omega)
  refine ⟨K + 9, ?_⟩
  generalize hR : breakRail l p t = R at *
  obtain ⟨r1, r2⟩ := R
  have hn1 : ¬ (1 + (l.length : Int) < 0) := by omega
  have hn2 : ¬ (1 + (r1.length : Int) < 0) := by omega
  simp only [laws_FnExactBreakRail.f, if_neg hlen, g1, g2, impl_BreakRail_eq, hR, Option.bind_some, g4, decide_true, if_true, laws_FnExactBreakRail.j0, g3, g5, if_neg hn1, bne_self_eq_false, Bool.false_eq_true, if_false, laws_FnExactBreakRail.j1, g6, g7, if_neg hn2, laws_FnExactBreakRail.j2]
end Go.Proofs.Ythdgkjnhjihkpaa.Pure
