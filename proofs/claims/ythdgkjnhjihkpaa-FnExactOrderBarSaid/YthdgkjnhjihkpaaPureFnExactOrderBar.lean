/- The program's OrderBar and the reference's answer the same for every list; the answer is a fresh list. No conditions beyond those of the statement's reading. -/
import Derived.Test.YthdgkjnhjihkpaaPInts
import Derived.Test.YthdgkjnhjihkpaaPMarks
import Derived.Test.YthdgkjnhjihkpaaPOrd
import Derived.Test.YthdgkjnhjihkpaaPOrdE
import Derived.Test.YthdgkjnhjihkpaaQ5
namespace Go.Proofs.Ythdgkjnhjihkpaa.Pure
open Go.RowKit Go.Proofs.Ythdgkjnhjihkpaa.Q Go.Proofs.YthdgkjnhjihkpaaW.PrintWords Go.Proofs.YthdgkjnhjihkpaaW.PrintLast Go.Proofs.YthdgkjnhjihkpaaW.PrintMore
set_option linter.unusedVariables false
set_option linter.unusedSimpArgs false
theorem FnExactOrderBar : laws_FnExactOrderBar.Pure := by
  intro l hm hb hw
  by_cases hlen : (l.length : Int) > 1048576
  · exact ⟨0, by simp only [laws_FnExactOrderBar.f, if_pos hlen]⟩
  have hbl := orderR_len l
  obtain ⟨K1, h1⟩ := toIntS_ev l (by omega)
  obtain ⟨K2, h2⟩ := spec_OrderBar_ev l (by omega)
  obtain ⟨K3, h3⟩ := impl_OrderBar_ev l (by omega)
  obtain ⟨K4, h4⟩ := eqIntS_ev (orderR l).1 (orderR l).1 (by omega)
  obtain ⟨K5, h5⟩ := eqIntS_ev l l (by omega)
  obtain ⟨K6, h6⟩ := markIntS_ev l 1 (by omega) (by omega) (by omega)
  obtain ⟨K7, h7⟩ := markIntS_ev (orderR l).1 1 (by omega) (by omega) (by omega)
  obtain ⟨K8, h8⟩ := heldIntS_ev (orderR l).1.length 1 (by omega) (by omega) (by omega)
  generalize orderR l = R at *
  obtain ⟨r, b⟩ := R
  simp only at h4 h7 h8 hbl
  generalize hK : K1 + K2 + K3 + K4 + K5 + K6 + K7 + K8 = K
  have g1 := fun j => h1 (K + j) (by omega)
  have g2 := fun j => h2 (K + j) (by omega)
  have g3 := fun j => h3 (K + j) (by omega)
  have g4 := fun j => h4 (K + j) (by omega)
  have g5 := fun j => h5 (K + j) (by omega)
  have g6 := fun j => h6 (K + j) (by omega)
  have g7 := fun j => h7 (K + j) (by omega)
  have g8 := fun j => h8 (K + j) (by omega)
  refine ⟨K + 9, ?_⟩
  have n1 : ¬ ((1 : Int) + l.length < 0) := by omega
  have n2 : ¬ ((1 : Int) + r.length < 0) := by omega
  simp only [laws_FnExactOrderBar.f, if_neg hlen, g1, g2, g3, g4, Option.bind_some, if_true, decide_true, bne_self_eq_false]
  simp only [laws_FnExactOrderBar.j0, Bool.false_eq_true, if_false, g1, g4, g5, g6, Option.bind_some, if_true, decide_true, if_neg n1, bne_self_eq_false]
  simp only [laws_FnExactOrderBar.j1, Bool.false_eq_true, if_false, g1, g3, g4, g7, g8, Option.bind_some, if_true, decide_true, if_neg n2, bne_self_eq_false]
  simp only [laws_FnExactOrderBar.j2, Bool.false_eq_true, if_false, g8, Option.bind_some, if_true, if_neg n2]
end Go.Proofs.Ythdgkjnhjihkpaa.Pure
