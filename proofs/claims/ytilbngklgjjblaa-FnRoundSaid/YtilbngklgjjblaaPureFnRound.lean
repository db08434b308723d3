/- A matrix that is taken and dropped again falls where its teeth say, and the magazine holds what it held. No conditions beyond those of the statement's reading. -/
import Derived.Test.YtilbngklgjjblaaPAll
import Derived.Test.YtilbngklgjjblaaQ0
import Derived.Test.YtilbngklgjjblaaQ11
import Derived.Test.YtilbngklgjjblaaQ14
import Derived.Test.YtilbngklgjjblaaQ16
import Derived.Test.YtilbngklgjjblaaQ17
import Derived.Test.YtilbngklgjjblaaQ18
import Derived.Test.YtilbngklgjjblaaQ19
namespace Go.Proofs.Ytilbngklgjjblaa.Pure
open Go.RowKit Go.Proofs.Ytilbngklgjjblaa.Q Go.Proofs.YtilbngklgjjblaaW.PrintWords Go.Proofs.YtilbngklgjjblaaW.PrintLast Go.Proofs.YtilbngklgjjblaaW.PrintMore
set_option linter.unusedVariables false
set_option linter.unusedSimpArgs false
theorem FnRound : laws_FnRound.Pure := by
  intro l0 h1 _ _
  by_cases hlen : (l0.length : Int) > 1048576
  · exact Or.inl ⟨0, by unfold laws_FnRound_f.f; rw [if_pos hlen]⟩
  obtain ⟨a, ws, cs, m, c, ⟨K1, f1⟩, hc⟩ := drawTake_ok l0 (by omega)
  obtain ⟨K2, f2⟩ := impl_TakeMatrix_ev a ws cs m c (by omega)
  replace f2 : ∀ k, K2 ≤ k → impl_TakeMatrix.f k a ws cs m c = some (takeMatrix a ws cs m c) := f2
  by_cases h : takeP a ws cs m c
  case neg =>
    left
    have e : takeMatrix a ws cs m c = ([], 0, 0, false) := if_neg h
    rw [e] at f2
    obtain ⟨K3, f3⟩ := spec_MagazineOk_ev a ws cs m (by omega)
    replace f3 : ∀ k, K3 ≤ k → spec_MagazineOk.f k a ws cs m = some (magazineOk a ws cs m) := f3
    refine ⟨K1 + K2 + K3, ?_⟩
    generalize hK : K1 + K2 + K3 = K
    simp only [laws_FnRound_f.f, f1 K (by omega), f2 K (by omega), f3 K (by omega), Option.bind_some]
    rw [if_neg hlen, if_neg (by decide)]
    by_cases m1 : magazineOk a ws cs m = true
    case neg => rw [if_neg m1]
    rw [if_pos m1]
    by_cases m2 : c < 0
    · rw [if_pos m2]
    rw [if_neg m2]
    by_cases m3 : c ≥ (m.length : Int)
    · rw [if_pos m3]
    rw [if_neg m3, if_pos (by omega), if_pos (by omega)]
    have m4 : ((rd_L5 m c).length : Int) = 0 := Classical.byContradiction fun q => h ⟨m1, by omega, by omega, q⟩
    rw [m4]; rfl
  right
  have hmag := h.1
  obtain ⟨i, x, t, rfl, hi, hrow, e⟩ := take_at a ws cs m c h
  rw [e] at f2
  obtain ⟨l1, l2, l3, l4⟩ := mag_rows2 a ws cs m hmag
  obtain ⟨b1, b2, b3⟩ := (mag_iff a ws cs m).1 hmag
  have hr20 := l4 _ (List.getElem_mem hi)
  have hrx := (b3 _ (List.getElem_mem hi)).2
  rw [hrow] at hr20 hrx
  rw [List.length_cons] at hr20
  have hx := hrx x List.mem_cons_self
  have ht : ∀ y ∈ t, matB a cs y.f0 y.f1 = true := fun y hy => hrx y (List.mem_cons_of_mem _ hy)
  have hm1 := mag_set a ws cs m i t hmag (by omega) ht
  have hg := fall_in a cs x.f0 x.f1 l3 hx
  have hbar : isBar cs = true := by
    have q := ((fontB_iff a ws cs).1 b1).2.2.2
    unfold sortsAll at q
    rw [Bool.and_eq_true] at q
    exact q.1
  have hteeth := matB_teeth a cs _ _ hx
  have hfall : fallOf cs x.f1 = (fallN cs x.f1 : Int) := by
    unfold fallOf
    rw [if_pos hbar, if_pos ((isSetB_iff _).2 hteeth)]
  have hk := matB_range a cs _ _ hx
  obtain ⟨K3, f3⟩ := impl_DropMatrix_ev a ws cs (m.set i t) x.f0 x.f1 (by omega)
  replace f3 : ∀ k, K3 ≤ k → impl_DropMatrix.f k a ws cs (m.set i t) x.f0 x.f1 = some (dropMatrix a ws cs (m.set i t) x.f0 x.f1) := f3
  obtain ⟨K4, f4⟩ := impl_FallOf_ev cs x.f1 (by omega)
  rw [hfall] at f4
  replace f4 : ∀ k, K4 ≤ k → impl_FallOf.f k cs x.f1 = some (fallN cs x.f1 : Int) := f4
  obtain ⟨K5, f5⟩ := impl_MatrixOk_ev a ws cs x.f0 x.f1 (by omega)
  have hmo : matrixOk a ws cs x.f0 x.f1 = true := by unfold matrixOk; rw [b1, hx]; rfl
  rw [hmo] at f5
  replace f5 : ∀ k, K5 ≤ k → impl_MatrixOk.f k a ws cs x.f0 x.f1 = some true := f5
  have hlen1 : (m.set i t).length = m.length := List.length_set
  generalize hgd : fallN cs x.f1 = g at *
  have hg1 : g < (m.set i t).length := by omega
  have hrd1 : rd_L5 (m.set i t) (g : Int) = (m.set i t).getD g [] := rfl
  have hdrop : dropMatrix a ws cs (m.set i t) x.f0 x.f1 = if ((m.set i t).getD g []).length = 20 then ([], 0, false) else ((m.set i t).set g ((m.set i t).getD g [] ++ [x]), (g : Int), true) := by
    unfold dropMatrix
    rw [if_pos ⟨hm1, hx⟩, hgd]
  by_cases h20 : ((m.set i t).getD g []).length = 20
  · rw [hdrop, if_pos h20] at f3
    refine ⟨K1 + K2 + K3 + K4 + K5 + 1, ?_⟩
    generalize hK : K1 + K2 + K3 + K4 + K5 = K
    simp only [laws_FnRound.f, f1 (K + 1) (by omega), f2 (K + 1) (by omega), f3 (K + 1) (by omega), f4 (K + 1) (by omega), f5 (K + 1) (by omega), Option.bind_some, hlen1]
    rw [if_neg hlen, if_pos trivial, if_pos trivial, if_pos trivial, if_neg (by omega), decide_eq_false (by omega)]
    simp only [laws_FnRound.j0, Bool.false_eq_true, if_false]
    rw [if_pos (by omega), if_pos (by omega), hrd1, h20]
    rfl
  rw [hdrop, if_neg h20] at f3
  have hrow20 : ((m.set i t).getD g []).length ≤ 20 := by
    rw [getD_row _ g hg1]; exact (mag_rows2 a ws cs _ hm1).2.2.2 _ (List.getElem_mem hg1)
  have hm2 : magazineOk a ws cs ((m.set i t).set g ((m.set i t).getD g [] ++ [x])) = true := by
    refine mag_set a ws cs _ g _ hm1 (by rw [List.length_append, List.length_singleton]; omega) (fun y hy => ?_)
    rcases List.mem_append.1 hy with q | q
    · rw [getD_row _ g hg1] at q
      exact ((mag_iff a ws cs _).1 hm1).2.2 _ (List.getElem_mem hg1) |>.2 y q
    · rw [List.mem_singleton.1 q]; exact hx
  have hcount := round_counts a ws cs m i g x t hi (by omega) hrow hmag hm2
  have hkl := kindCounts_length a ws cs m
  obtain ⟨K6, f6⟩ := impl_KindCounts_ev a ws cs ((m.set i t).set g ((m.set i t).getD g [] ++ [x])) (by omega)
  rw [hcount] at f6
  obtain ⟨K7, f7⟩ := impl_KindCounts_ev a ws cs m (by omega)
  obtain ⟨K8, f8⟩ := intsC_ev (kindCounts a ws cs m) (by omega)
  have hlen2 : ((m.set i t).set g ((m.set i t).getD g [] ++ [x])).length = m.length := by rw [List.length_set, List.length_set]
  have hrd2 : rd_L5 ((m.set i t).set g ((m.set i t).getD g [] ++ [x])) (g : Int) = (m.set i t).getD g [] ++ [x] := by
    show ((m.set i t).set g ((m.set i t).getD g [] ++ [x])).getD g [] = _
    rw [getD_set, if_pos ⟨rfl, hg1⟩]
  have hll : ((m.set i t).getD g [] ++ [x]).length = ((m.set i t).getD g []).length + 1 := by rw [List.length_append, List.length_singleton]
  have hlast : rd_T30 ((m.set i t).getD g [] ++ [x]) ((((m.set i t).getD g []).length : Nat) : Int) = x := by
    rw [rd30_nat _ _ (by omega), List.getElem_append_right (Nat.le_refl _)]; simp
  have hrd0 : rd_L5 m (i : Int) = x :: t := by rw [rdL7_nat m i hi, hrow]
  have hrd00 : rd_T30 (x :: t) 0 = x := rfl
  obtain ⟨z, hz⟩ := Int.eq_ofNat_of_zero_le hk.1
  have hfin : ∀ K, K1 + K2 + K3 + K4 + K5 + K6 + K7 + K8 ≤ K → laws_FnRound.j1 (K + 1) m (i : Int) ((m.set i t).set g ((m.set i t).getD g [] ++ [x])) (g : Int) false a ws cs x.f0 x.f1 = some true := by
    intro K hK
    simp only [laws_FnRound.j1, Bool.false_eq_true, if_false, hlen2, hrd2, hll, f6 K (by omega), f7 K (by omega), f8 K (by omega), Option.bind_some]
    rw [if_pos (by omega), if_pos (by omega), if_pos (by omega), wrap_id _ (by omega) (by omega)]
    rw [show ((((m.set i t).getD g []).length + 1 : Nat) : Int) - 1 = (((m.set i t).getD g []).length : Int) by omega, hlast, hrd0, hrd00]
    rw [if_pos (by omega), if_pos (by omega), if_pos (by simp), if_pos (by omega), if_pos (by omega), if_pos (by rw [List.length_cons]; omega), if_pos (by simp)]
  refine ⟨K1 + K2 + K3 + K4 + K5 + K6 + K7 + K8 + 2, ?_⟩
  generalize hK : K1 + K2 + K3 + K4 + K5 + K6 + K7 + K8 = K
  have hj := hfin K (by omega)
  simp only [laws_FnRound.f, f1 (K + 2) (by omega), f2 (K + 2) (by omega), f3 (K + 2) (by omega), f4 (K + 2) (by omega), f5 (K + 2) (by omega), Option.bind_some, hlen1]
  rw [if_neg hlen, if_pos trivial, if_pos trivial, if_pos trivial, if_neg (by omega), decide_eq_false (by omega)]
  have hne : (((((m.set i t).set g ((m.set i t).getD g [] ++ [x])).length : Int)) != (m.length : Int)) = false := by rw [hlen2]; simp
  simp only [laws_FnRound.j0, Bool.false_eq_true, if_false, hne]
  rw [if_pos trivial, if_pos trivial, if_neg (by omega), if_neg (by omega), if_pos (by omega), if_pos (by omega)]
  by_cases hw : x.f1 = rd cs x.f0
  · rw [if_pos hw]
    have hzl : z < cs.length := by omega
    have hgz : g = z := by
      rw [← hgd, hw, hz, rd_nat cs z hzl]
      exact font_falls a ws cs b1 z hzl
    rw [if_pos (by omega)]
    exact hj
  · rw [if_neg hw]
    exact hj
end Go.Proofs.Ytilbngklgjjblaa.Pure
