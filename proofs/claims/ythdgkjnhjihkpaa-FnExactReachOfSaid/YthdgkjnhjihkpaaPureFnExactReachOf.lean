/- The program's ReachOf and the reference's answer the same for every list and number; the answer is a fresh list. No conditions beyond those of the statement's reading. -/
import Derived.Test.YthdgkjnhjihkpaaPInts
import Derived.Test.YthdgkjnhjihkpaaPMarks
import Derived.Test.YthdgkjnhjihkpaaPReachE
import Derived.Test.YthdgkjnhjihkpaaQ4
namespace Go.Proofs.Ythdgkjnhjihkpaa.Pure
open Go.RowKit Go.Proofs.Ythdgkjnhjihkpaa.Q Go.Proofs.YthdgkjnhjihkpaaW.PrintWords Go.Proofs.YthdgkjnhjihkpaaW.PrintLast Go.Proofs.YthdgkjnhjihkpaaW.PrintMore
set_option linter.unusedVariables false
set_option linter.unusedSimpArgs false
theorem FnExactReachOf : laws_FnExactReachOf.Pure := by
  intro l s hm hb hw ws
  by_cases hlen : (l.length : Int) > 1048576
  · exact ⟨0, by simp only [laws_FnExactReachOf.f, if_pos hlen]⟩
  have hbl := reachL_len l s
  obtain ⟨K1, h1⟩ := toIntS_ev l (by omega)
  obtain ⟨K2, h2⟩ := spec_ReachOf_ev l s (by omega)
  obtain ⟨K3, h3⟩ := impl_ReachOf_ev l s
  obtain ⟨K4, h4⟩ := eqIntS_ev (reachL l s) (reachL l s) (by omega)
  obtain ⟨K5, h5⟩ := eqIntS_ev l l (by omega)
  obtain ⟨K6, h6⟩ := markIntS_ev l 1 (by omega) (by omega) (by omega)
  obtain ⟨K7, h7⟩ := markIntS_ev (reachL l s) 1 (by omega) (by omega) (by omega)
  obtain ⟨K8, h8⟩ := heldIntS_ev (reachL l s).length 1 (by omega) (by omega) (by omega)
  generalize hK : K1 + K2 + K3 + K4 + K5 + K6 + K7 + K8 = K
  have g1 := fun j => h1 (K + j) (by omega)
  have g2 := fun j => h2 (K + j) (by omega)
  have g3 := fun j => h3 (K + j) (by omega)
  have g4 := fun j => h4 (K + j) (by omega)
  have g5 := fun j => h5 (K + j) (by omega)
  have g6 := fun j => h6 (K + j) (by omega)
  have g7 := fun j => h7 (K + j) (by omega)
  have g8 := fun j => h8 (K + j) (by omega)
  refine ⟨K + 9, ?_⟩
  have n1 : ¬ ((1 : Int) + l.length < 0) := by omega
  have n2 : ¬ ((1 : Int) + (reachL l s).length < 0) := by omega
  simp only [laws_FnExactReachOf.f, if_neg hlen, g1, g2, g3, g4, g5, g6, Option.bind_some, if_true, decide_true, if_neg n1, Bool.not_true]
  simp only [laws_FnExactReachOf.j0, Bool.false_eq_true, if_false]
  simp only [g1, g3, g4, g7, g8, Option.bind_some, if_true, decide_true, if_neg n2]
end Go.Proofs.Ythdgkjnhjihkpaa.Pure
