/- A swept magazine holds what it held, each matrix in its channel; sweeping again changes nothing. No conditions beyond those of the statement's reading. -/
import Derived.Test.YtilbngklgjjblaaPAll
import Derived.Test.YtilbngklgjjblaaQ20
namespace Go.Proofs.Ytilbngklgjjblaa.Pure
open Go.RowKit Go.Proofs.Ytilbngklgjjblaa.Q Go.Proofs.YtilbngklgjjblaaW.PrintWords Go.Proofs.YtilbngklgjjblaaW.PrintLast Go.Proofs.YtilbngklgjjblaaW.PrintMore
set_option linter.unusedVariables false
set_option linter.unusedSimpArgs false
theorem swept_l0 (c : List Int) (hc : c.length ≤ 1000) (q : Nat) (hq : q < c.length) (h20 : c[q] > 20) : ∀ d i, i + d = q → Ev (fun k => laws_FnSwept.l0 k c (c.length : Int) (i : Int)) true := by
  intro d
  induction d with
  | zero =>
    intro i hi
    obtain rfl : i = q := by omega
    refine ev_step1 (fun k => ?_)
    simp only [laws_FnSwept.l0]
    rw [if_pos (by omega), if_pos (by omega), if_pos (by omega), rd_nat c i hq, if_pos h20]
  | succ d ih =>
    intro i hi
    by_cases e : rd c (i : Int) > 20
    · refine ev_step1 (fun k => ?_)
      simp only [laws_FnSwept.l0]
      rw [if_pos (by omega), if_pos (by omega), if_pos (by omega), if_pos e]
    · refine Ev.step (fun k => ?_) (ih (i + 1) (by omega))
      simp only [laws_FnSwept.l0]
      rw [if_pos (by omega), if_pos (by omega), if_pos (by omega), if_neg e, w1 i (by omega)]
theorem FnSwept : laws_FnSwept.Pure := by
  intro l0 h1 _ _
  by_cases hlen : (l0.length : Int) > 1048576
  · exact ⟨0, by unfold laws_FnSwept.f; rw [if_pos hlen]⟩
  obtain ⟨a, ws, cs, m, ⟨K1, f1⟩, hc⟩ := drawSweep_ok l0 (by omega)
  obtain ⟨K2, f2⟩ := impl_SweepMagazine_ev a ws cs m (by omega)
  obtain ⟨K3, f3⟩ := spec_MagazineOk_ev a ws cs m (by omega)
  obtain ⟨K4, f4⟩ := impl_CountStrays_ev a ws cs m (by omega)
  by_cases h : magazineOk a ws cs m = true
  case neg =>
    have e : sweepMagazine a ws cs m = ([], 0, false) := if_neg h
    have e2 : countStrays a ws cs m = -1 := if_neg h
    rw [e] at f2
    rw [e2] at f4
    refine ⟨K1 + K2 + K3 + K4, ?_⟩
    generalize hK : K1 + K2 + K3 + K4 = K
    simp only [laws_FnSwept.f, f1 K (by omega), f2 K (by omega), f3 K (by omega), f4 K (by omega), Option.bind_some]
    rw [if_neg hlen, if_neg h, if_neg (by decide), if_pos trivial]
    rfl
  obtain ⟨K5, f5⟩ := impl_KindCounts_ev a ws cs m (by omega)
  obtain ⟨l1, l2, l3, l4⟩ := mag_rows2 a ws cs m h
  have hkl := kindCounts_length a ws cs m
  rcases sweep_spec a ws cs m h with ⟨o, e, ho, hp, hpu, hol⟩ | ⟨e, q, hq, h20⟩
  · rw [e] at f2
    obtain ⟨_, _, _, o4⟩ := mag_rows2 a ws cs o ho
    obtain ⟨K6, f6⟩ := impl_MagazineOk_ev a ws cs o (by omega)
    obtain ⟨K7, f7⟩ := impl_CountStrays_ev a ws cs o (by omega)
    obtain ⟨K8, f8⟩ := impl_CountWorn_ev a ws cs o (by omega)
    obtain ⟨K9, f9⟩ := impl_CountWorn_ev a ws cs m (by omega)
    obtain ⟨K10, f10⟩ := impl_SweepMagazine_ev a ws cs o (by omega)
    obtain ⟨K11, f11⟩ := impl_KindCounts_ev a ws cs o (by omega)
    obtain ⟨K12, f12⟩ := intsC_ev (kindCounts a ws cs m) (by omega)
    obtain ⟨K13, f13⟩ := stocks_ev o (by omega) (fun r hr => by have := o4 r hr; omega)
    rw [ho] at f6
    rw [strays_zero a ws cs o ho hpu] at f7
    rw [same_worn a ws cs m o h ho hp] at f8
    rw [swept_again a ws cs o ho hpu] at f10
    rw [same_counts a ws cs m o h ho hol (hp.map _)] at f11
    refine ⟨K1 + K2 + K3 + K4 + K5 + K6 + K7 + K8 + K9 + K10 + K11 + K12 + K13 + 1, ?_⟩
    generalize hK : K1 + K2 + K3 + K4 + K5 + K6 + K7 + K8 + K9 + K10 + K11 + K12 + K13 = K
    simp only [laws_FnSwept.f, f1 (K + 1) (by omega), f2 (K + 1) (by omega), f3 (K + 1) (by omega), f4 (K + 1) (by omega), f5 (K + 1) (by omega), f6 (K + 1) (by omega), f7 (K + 1) (by omega), f8 (K + 1) (by omega), f9 (K + 1) (by omega), Option.bind_some]
    rw [if_neg hlen, if_pos h, if_pos trivial, if_pos trivial, if_pos trivial, if_pos trivial]
    simp only [laws_FnSwept.j1, f10 K (by omega), f11 K (by omega), f12 K (by omega), f13 K (by omega), Option.bind_some]
    rw [if_neg (by simp), if_pos trivial, if_pos trivial, if_pos trivial]
  · rw [e] at f2
    have hk := kindCounts_eq a ws cs m h
    have hql : q < (kindCounts a ws cs m).length := by rw [hk]; simpa using hq
    have hqv : (kindCounts a ws cs m)[q] > 20 := by
      simp only [hk, List.getElem_map, List.getElem_range]; omega
    obtain ⟨K6, f6⟩ := swept_l0 (kindCounts a ws cs m) (by omega) q hql hqv q 0 (by omega)
    refine ⟨K1 + K2 + K3 + K4 + K5 + K6, ?_⟩
    generalize hK : K1 + K2 + K3 + K4 + K5 + K6 = K
    simp only [laws_FnSwept.f, f1 K (by omega), f2 K (by omega), f3 K (by omega), f5 K (by omega), Option.bind_some]
    rw [if_neg hlen, if_pos h, if_neg (by decide)]
    exact f6 K (by omega)
end Go.Proofs.Ytilbngklgjjblaa.Pure
