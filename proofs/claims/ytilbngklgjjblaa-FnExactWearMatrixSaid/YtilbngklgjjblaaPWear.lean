/- A matrix of a magazine that loses a tooth. Conditions: those that each lemma names. -/
import Derived.Test.YtilbngklgjjblaaP0
import Derived.Test.YtilbngklgjjblaaPBar
import Derived.Test.YtilbngklgjjblaaPCopyM
import Derived.Test.YtilbngklgjjblaaPMagazine
import Derived.Test.YtilbngklgjjblaaPMatrix
import Derived.Test.YtilbngklgjjblaaPMats
import Derived.Test.YtilbngklgjjblaaQ0
import Derived.Test.YtilbngklgjjblaaQ11
import Derived.Test.YtilbngklgjjblaaQ12
import Derived.Test.YtilbngklgjjblaaQ7
import Derived.Test.YtilbngklgjjblaaQ8
namespace Go.Proofs.Ytilbngklgjjblaa.Q
open Go.RowKit Go.Proofs.YtilbngklgjjblaaW.PrintWords Go.Proofs.YtilbngklgjjblaaW.PrintLast Go.Proofs.YtilbngklgjjblaaW.PrintMore
set_option linter.unusedVariables false
set_option linter.unusedSimpArgs false
/-- Whether a tooth can be lost. -/
def wearP (a : ByteArray) (ws cs : List Int) (m : List (List S30)) (c i t : Int) : Prop :=
  magazineOk a ws cs m = true ∧ 0 ≤ c ∧ c < (m.length : Int) ∧ 0 ≤ i ∧ i < ((rd_L4 m c).length : Int) ∧ 0 ≤ t ∧ t ≤ 6 ∧ ¬ Go.bits .and .i64 (shr .i64 ((rd_T30 (rd_L4 m c) i).f1) t) 1 = 0
instance (a : ByteArray) (ws cs : List Int) (m : List (List S30)) (c i t : Int) : Decidable (wearP a ws cs m c i t) := by unfold wearP; infer_instance
def wearMatrix (a : ByteArray) (ws cs : List Int) (m : List (List S30)) (c i t : Int) : List (List S30) × Bool :=
  if wearP a ws cs m c i t then (m.set c.toNat ((rd_L4 m c).set i.toNat ⟨(rd_T30 (rd_L4 m c) i).f0, Go.bits .andNot .i64 ((rd_T30 (rd_L4 m c) i).f1) (shl .i64 1 t)⟩), true) else ([], false)
theorem wear_all : ∀ t : Nat, t < 7 → ∀ s : Nat, s < 128 → ¬ Go.bits .and .i64 (shr .i64 (s : Int) (t : Int)) 1 = 0 → wrap64 ((s : Int) - shl .i64 1 (t : Int)) = Go.bits .andNot .i64 (s : Int) (shl .i64 1 (t : Int)) := by decide +kernel
theorem mag_elem (a : ByteArray) (ws cs : List Int) (m : List (List S30)) (h : magazineOk a ws cs m = true) (ch : List S30) (hc : ch ∈ m) (x : S30) (hx : x ∈ ch) : matB a cs x.f0 x.f1 = true := by
  unfold magazineOk at h
  rw [Bool.and_eq_true] at h
  have h4 := List.all_eq_true.1 h.2 ch hc
  unfold chanB at h4
  rw [Bool.and_eq_true] at h4
  exact List.all_eq_true.1 h4.2 x hx
theorem matB_teeth (a : ByteArray) (cs : List Int) (x t : Int) (h : matB a cs x t = true) : 0 ≤ t ∧ t ≤ 127 := by
  unfold matB at h
  simp only [Bool.and_eq_true] at h
  exact (isSetB_iff t).1 h.1.2
theorem wear_same (a : ByteArray) (ws cs : List Int) (m : List (List S30)) (c i t : Int) (h : wearP a ws cs m c i t) : wrap64 ((rd_T30 (rd_L4 m c) i).f1 - shl .i64 1 t) = Go.bits .andNot .i64 ((rd_T30 (rd_L4 m c) i).f1) (shl .i64 1 t) := by
  obtain ⟨h1, h2, h3, h4, h5, h6, h7, h8⟩ := h
  obtain ⟨j, rfl⟩ := Int.eq_ofNat_of_zero_le h2
  obtain ⟨q, rfl⟩ := Int.eq_ofNat_of_zero_le h4
  obtain ⟨t, rfl⟩ := Int.eq_ofNat_of_zero_le h6
  have hj : j < m.length := by omega
  rw [rdL7_nat m j hj] at h5 h8 ⊢
  have hq : q < m[j].length := by omega
  rw [rd30_nat _ q hq] at h8 ⊢
  have h9 := matB_teeth a cs _ _ (mag_elem a ws cs m h1 m[j] (List.getElem_mem hj) m[j][q] (List.getElem_mem hq))
  obtain ⟨s, hs⟩ := Int.eq_ofNat_of_zero_le h9.1
  rw [hs] at h8 h9 ⊢
  exact wear_all t (by omega) s (by omega) h8
theorem impl_WearMatrix_ev (a : ByteArray) (ws cs : List Int) (m : List (List S30)) (c i t : Int) (hl : cs.length ≤ 1099511627776) : Ev (fun k => impl_WearMatrix.f k a ws cs m c i t) (wearMatrix a ws cs m c i t) := by
  obtain ⟨K, f⟩ := impl_MagazineOk_ev a ws cs m hl
  replace f : ∀ k, K ≤ k → impl_MagazineOk.f k a ws cs m = some (magazineOk a ws cs m) := f
  unfold wearMatrix
  by_cases h : wearP a ws cs m c i t
  · rw [if_pos h]
    obtain ⟨h1, h2, h3, h4, h5, h6, h7, h8⟩ := h
    obtain ⟨l1, l2, l3, l4⟩ := mag_rows2 a ws cs m h1
    obtain ⟨K3, f3⟩ := impl_copy_ev m (by omega) (fun r hr => by have := l4 r hr; omega)
    replace f3 : ∀ k, K3 ≤ k → impl_copyMagazine.f k m = some m := f3
    refine ⟨K + K3, fun k hk => ?_⟩
    simp only [impl_WearMatrix.f, f k (by omega), Option.bind_some, if_pos h1, f3 k (by omega)]
    rw [if_neg (by omega), if_neg (by omega), if_neg (by omega), if_pos h2, if_pos h3, if_neg (by omega), if_neg (by omega), if_neg (by omega), if_pos h4, if_pos h5, if_pos h6, if_neg h8, if_pos h3, if_pos h5]
  · rw [if_neg h]
    refine ⟨K, fun k hk => ?_⟩
    simp only [impl_WearMatrix.f, f k (by omega), Option.bind_some]
    by_cases h1 : magazineOk a ws cs m = true
    case neg => rw [if_neg h1]
    rw [if_pos h1]
    by_cases h2 : c < 0
    · rw [if_pos h2]
    rw [if_neg h2]
    by_cases h3 : c ≥ (m.length : Int)
    · rw [if_pos h3]
    rw [if_neg h3]
    by_cases h4 : i < 0
    · rw [if_pos h4]
    rw [if_neg h4, if_pos (by omega), if_pos (by omega)]
    by_cases h5 : i ≥ ((rd_L4 m c).length : Int)
    · rw [if_pos h5]
    rw [if_neg h5]
    by_cases h6 : t < 0
    · rw [if_pos h6]
    rw [if_neg h6]
    by_cases h7 : t > 6
    · rw [if_pos h7]
    rw [if_neg h7, if_pos (by omega), if_pos (by omega), if_pos (by omega)]
    by_cases h8 : Go.bits .and .i64 (shr .i64 ((rd_T30 (rd_L4 m c) i).f1) t) 1 = 0
    · rw [if_pos h8]
    exact absurd ⟨h1, by omega, by omega, by omega, by omega, by omega, by omega, h8⟩ h
theorem spec_WearMatrix_ev (a : ByteArray) (ws cs : List Int) (m : List (List S30)) (c i t : Int) (hl : cs.length ≤ 1099511627776) (hm : m.length ≤ 1099511627776) : Ev (fun k => spec_WearMatrix.f k a ws cs m c i t) (wearMatrix a ws cs m c i t) := by
  obtain ⟨K, f⟩ := spec_MagazineOk_ev a ws cs m hl
  replace f : ∀ k, K ≤ k → spec_MagazineOk.f k a ws cs m = some (magazineOk a ws cs m) := f
  have e1 : wrap64 ((m.length : Int) - 1) = (m.length : Int) - 1 := wrap_id _ (by omega) (by omega)
  unfold wearMatrix
  by_cases h : wearP a ws cs m c i t
  · have hsame := wear_same a ws cs m c i t h
    rw [if_pos h]
    obtain ⟨h1, h2, h3, h4, h5, h6, h7, h8⟩ := h
    obtain ⟨l1, l2, l3, l4⟩ := mag_rows2 a ws cs m h1
    obtain ⟨K3, f3⟩ := spec_copy_ev m (by omega) (fun r hr => by have := l4 r hr; omega)
    replace f3 : ∀ k, K3 ≤ k → spec_l2Copy.f k m = some m := f3
    obtain ⟨j, rfl⟩ := Int.eq_ofNat_of_zero_le h2
    have hj : j < m.length := by omega
    have hrow := l4 _ (List.getElem_mem hj)
    have hrl : (rd_L4 m (j : Int)).length ≤ 20 := by rw [rdL7_nat m j hj]; exact hrow
    have e2 : wrap64 (((rd_L4 m (j : Int)).length : Int) - 1) = ((rd_L4 m (j : Int)).length : Int) - 1 := wrap_id _ (by omega) (by omega)
    refine ⟨K + K3 + 1, fun k hk => ?_⟩
    obtain ⟨k, rfl⟩ : ∃ z, k = z + 1 := ⟨k - 1, by omega⟩
    simp only [spec_WearMatrix.f, f (k + 1) (by omega), Option.bind_some, if_pos h1, l1In_eq, e1, e2, decide_eq_true h2, decide_eq_true (show (j : Int) ≤ (m.length : Int) - 1 by omega), decide_eq_true h6, decide_eq_true h7, Bool.and_true, if_true, Bool.not_true, spec_WearMatrix.j0, Bool.false_eq_true, if_false, f3 k (by omega)]
    rw [if_pos h2, if_pos h3]
    simp only [decide_eq_true h4, decide_eq_true (show i ≤ ((rd_L4 m (j : Int)).length : Int) - 1 by omega), Bool.and_true, if_true]
    rw [if_pos h4, if_pos h5, if_pos h6, if_neg h8, if_pos h3, if_pos h5, hsame]
  · rw [if_neg h]
    refine ⟨K + 1, fun k hk => ?_⟩
    obtain ⟨k, rfl⟩ : ∃ z, k = z + 1 := ⟨k - 1, by omega⟩
    simp only [spec_WearMatrix.f, f (k + 1) (by omega), Option.bind_some, l1In_eq, e1]
    by_cases h1 : magazineOk a ws cs m = true
    case neg => simp only [if_neg h1, spec_WearMatrix.j0, if_true]
    rw [if_pos h1]
    obtain ⟨l1, l2, l3, l4⟩ := mag_rows2 a ws cs m h1
    by_cases h2 : (decide (0 ≤ c) && decide (c ≤ (m.length : Int) - 1)) = true
    case neg => simp only [if_neg h2, spec_WearMatrix.j0, if_true]
    rw [if_pos h2]
    rw [Bool.and_eq_true, decide_eq_true_eq, decide_eq_true_eq] at h2
    by_cases h3 : (decide (0 ≤ t) && decide (t ≤ 6)) = true
    case neg => simp only [show (decide (0 ≤ t) && decide (t ≤ 6)) = false by simpa using h3, Bool.not_false, spec_WearMatrix.j0, if_true]
    rw [h3]
    rw [Bool.and_eq_true, decide_eq_true_eq, decide_eq_true_eq] at h3
    simp only [Bool.not_true, spec_WearMatrix.j0, Bool.false_eq_true, if_false]
    obtain ⟨j, rfl⟩ := Int.eq_ofNat_of_zero_le h2.1
    have hj : j < m.length := by omega
    have hrow := l4 _ (List.getElem_mem hj)
    have hrl : (rd_L4 m (j : Int)).length ≤ 20 := by rw [rdL7_nat m j hj]; exact hrow
    have e2 : wrap64 (((rd_L4 m (j : Int)).length : Int) - 1) = ((rd_L4 m (j : Int)).length : Int) - 1 := wrap_id _ (by omega) (by omega)
    rw [if_pos h2.1, if_pos (by omega), l1In_eq, e2, Option.bind_some]
    by_cases h4 : (decide (0 ≤ i) && decide (i ≤ ((rd_L4 m (j : Int)).length : Int) - 1)) = true
    case neg => rw [if_neg h4]
    rw [if_pos h4]
    rw [Bool.and_eq_true, decide_eq_true_eq, decide_eq_true_eq] at h4
    rw [if_pos h4.1, if_pos (by omega), if_pos h3.1]
    by_cases h8 : Go.bits .and .i64 (shr .i64 ((rd_T30 (rd_L4 m (j : Int)) i).f1) t) 1 = 0
    · rw [if_pos h8]
    exact absurd ⟨h1, by omega, by omega, h4.1, by omega, h3.1, h3.2, h8⟩ h
theorem wearMatrix_rows (a : ByteArray) (ws cs : List Int) (m : List (List S30)) (c i t : Int) : (wearMatrix a ws cs m c i t).1.length ≤ 10000 ∧ ∀ r ∈ (wearMatrix a ws cs m c i t).1, r.length ≤ 10000 := by
  unfold wearMatrix
  by_cases h : wearP a ws cs m c i t
  case neg => rw [if_neg h]; simp
  rw [if_pos h]
  obtain ⟨h1, h2, h3, h4, h5, h6, h7, h8⟩ := h
  obtain ⟨l1, l2, l3, l4⟩ := mag_rows2 a ws cs m h1
  obtain ⟨j, rfl⟩ := Int.eq_ofNat_of_zero_le h2
  have hj : j < m.length := by omega
  have hrow := l4 _ (List.getElem_mem hj)
  refine ⟨by rw [List.length_set]; omega, rows_set m _ _ 10000 (fun ch hc => by have := l4 ch hc; omega) ?_⟩
  rw [List.length_set, rdL7_nat m j hj]
  omega
end Go.Proofs.Ytilbngklgjjblaa.Q
