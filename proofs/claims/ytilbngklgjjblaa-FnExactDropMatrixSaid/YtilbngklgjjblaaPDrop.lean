/- A matrix that is dropped into a magazine. Conditions: those that each lemma names. -/
import Derived.Test.YtilbngklgjjblaaP0
import Derived.Test.YtilbngklgjjblaaPBar
import Derived.Test.YtilbngklgjjblaaPCopyM
import Derived.Test.YtilbngklgjjblaaPMagazine
import Derived.Test.YtilbngklgjjblaaPMatrix
import Derived.Test.YtilbngklgjjblaaPMats
import Derived.Test.YtilbngklgjjblaaQ0
import Derived.Test.YtilbngklgjjblaaQ1
import Derived.Test.YtilbngklgjjblaaQ11
import Derived.Test.YtilbngklgjjblaaQ12
import Derived.Test.YtilbngklgjjblaaQ3
import Derived.Test.YtilbngklgjjblaaQ4
import Derived.Test.YtilbngklgjjblaaQ8
namespace Go.Proofs.Ytilbngklgjjblaa.Q
open Go.RowKit Go.Proofs.YtilbngklgjjblaaW.PrintWords Go.Proofs.YtilbngklgjjblaaW.PrintLast Go.Proofs.YtilbngklgjjblaaW.PrintMore
set_option linter.unusedVariables false
set_option linter.unusedSimpArgs false
def dropMatrix (a : ByteArray) (ws cs : List Int) (m : List (List S30)) (x t : Int) : List (List S30) × Int × Bool :=
  if magazineOk a ws cs m = true ∧ matB a cs x t = true then (if (m.getD (fallN cs t) []).length = 20 then ([], 0, false) else (m.set (fallN cs t) (m.getD (fallN cs t) [] ++ [⟨x, t⟩]), (fallN cs t : Int), true)) else ([], 0, false)
theorem fall_in (a : ByteArray) (cs : List Int) (x t : Int) (hc : cs.length = a.size) (h : matB a cs x t = true) : fallN cs t < cs.length := by
  unfold matB at h
  simp only [Bool.and_eq_true, decide_eq_true_eq] at h
  obtain ⟨⟨⟨h1, h2⟩, _⟩, h4⟩ := h
  have hx : x.toNat < cs.length := by omega
  have e : rd cs x = cs[x.toNat] := by
    have := rd_nat cs x.toNat hx
    rwa [Int.toNat_of_nonneg h1] at this
  rw [e] at h4
  exact List.findIdx_lt_length.2 ⟨_, List.getElem_mem hx, h4⟩
theorem getD_rdL (m : List (List S30)) (i : Nat) (h : i < m.length) : m.getD i [] = m[i] := by simp [List.getD_eq_getElem?_getD, h]
theorem impl_DropMatrix_ev (a : ByteArray) (ws cs : List Int) (m : List (List S30)) (x t : Int) (hl : cs.length ≤ 1099511627776) : Ev (fun k => impl_DropMatrix.f k a ws cs m x t) (dropMatrix a ws cs m x t) := by
  obtain ⟨K, f⟩ := impl_MagazineOk_ev a ws cs m hl
  replace f : ∀ k, K ≤ k → impl_MagazineOk.f k a ws cs m = some (magazineOk a ws cs m) := f
  unfold dropMatrix
  by_cases h : magazineOk a ws cs m = true
  case neg =>
    rw [if_neg (fun q => h q.1)]
    refine ⟨K + 1, fun k hk => ?_⟩
    obtain ⟨k, rfl⟩ : ∃ j, k = j + 1 := ⟨k - 1, by omega⟩
    simp only [impl_DropMatrix.f, f (k + 1) (by omega), Option.bind_some, if_neg h, impl_DropMatrix.j0, if_true]
  obtain ⟨h1, h2, h3, h4⟩ := mag_rows2 a ws cs m h
  by_cases hx : matB a cs x t = true
  case neg =>
    rw [if_neg (fun q => hx q.2)]
    refine ⟨K + 1, fun k hk => ?_⟩
    obtain ⟨k, rfl⟩ : ∃ j, k = j + 1 := ⟨k - 1, by omega⟩
    simp only [impl_DropMatrix.f, f (k + 1) (by omega), Option.bind_some, if_pos h, impl_ofFont_eq a ws cs x t h3, show matB a cs x t = false by simpa using hx, Bool.not_false, impl_DropMatrix.j0, if_true]
  rw [if_pos ⟨h, hx⟩]
  have hi := fall_in a cs x t h3 hx
  obtain ⟨K2, f2⟩ := impl_fall_ev cs t hl
  obtain ⟨K3, f3⟩ := impl_copy_ev m (by omega) (fun r hr => by have := h4 r hr; omega)
  replace f2 : ∀ k, K2 ≤ k → impl_fall.f k cs t = some (fallN cs t : Int) := f2
  replace f3 : ∀ k, K3 ≤ k → impl_copyMagazine.f k m = some m := f3
  refine ⟨K + K2 + K3 + 1, fun k hk => ?_⟩
  obtain ⟨k, rfl⟩ : ∃ j, k = j + 1 := ⟨k - 1, by omega⟩
  have hi' : fallN cs t < m.length := by omega
  have hrow := h4 _ (List.getElem_mem hi')
  simp only [impl_DropMatrix.f, f (k + 1) (by omega), Option.bind_some, if_pos h, impl_ofFont_eq a ws cs x t h3, hx, Bool.not_true, impl_DropMatrix.j0, Bool.false_eq_true, if_false, f2 k (by omega)]
  rw [if_pos (by omega), if_pos (by omega), rdL7_nat m _ hi', getD_rdL m _ hi']
  by_cases h20 : m[fallN cs t].length = 20
  · rw [if_pos (by omega), if_pos h20]
  · rw [if_neg (by omega), if_neg h20, f3 k (by omega), Option.bind_some, if_pos (by omega), rdL7_nat m _ hi', if_pos (by omega), Int.toNat_natCast]
theorem spec_DropMatrix_ev (a : ByteArray) (ws cs : List Int) (m : List (List S30)) (x t : Int) (hl : cs.length ≤ 1099511627776) : Ev (fun k => spec_DropMatrix.f k a ws cs m x t) (dropMatrix a ws cs m x t) := by
  obtain ⟨K, f⟩ := spec_MagazineOk_ev a ws cs m hl
  replace f : ∀ k, K ≤ k → spec_MagazineOk.f k a ws cs m = some (magazineOk a ws cs m) := f
  unfold dropMatrix
  by_cases h : magazineOk a ws cs m = true
  case neg =>
    rw [if_neg (fun q => h q.1)]
    refine ⟨K + 1, fun k hk => ?_⟩
    obtain ⟨k, rfl⟩ : ∃ j, k = j + 1 := ⟨k - 1, by omega⟩
    simp only [spec_DropMatrix.f, f (k + 1) (by omega), Option.bind_some, if_neg h, spec_DropMatrix.j0, if_true]
  obtain ⟨h1, h2, h3, h4⟩ := mag_rows2 a ws cs m h
  by_cases hx : matB a cs x t = true
  case neg =>
    rw [if_neg (fun q => hx q.2)]
    refine ⟨K + 1, fun k hk => ?_⟩
    obtain ⟨k, rfl⟩ : ∃ j, k = j + 1 := ⟨k - 1, by omega⟩
    simp only [spec_DropMatrix.f, f (k + 1) (by omega), Option.bind_some, if_pos h, spec_l2Matrix_eq a ws cs x t h3 (by omega), show matB a cs x t = false by simpa using hx, Bool.not_false, spec_DropMatrix.j0, if_true]
  rw [if_pos ⟨h, hx⟩]
  have hi := fall_in a cs x t h3 hx
  obtain ⟨K2, f2⟩ := spec_fall_ev cs t hl
  obtain ⟨K3, f3⟩ := spec_copy_ev m (by omega) (fun r hr => by have := h4 r hr; omega)
  replace f2 : ∀ k, K2 ≤ k → spec_l1Fall.f k cs t = some (fallN cs t : Int) := f2
  replace f3 : ∀ k, K3 ≤ k → spec_l2Copy.f k m = some m := f3
  refine ⟨K + K2 + K3 + 1, fun k hk => ?_⟩
  obtain ⟨k, rfl⟩ : ∃ j, k = j + 1 := ⟨k - 1, by omega⟩
  have hi' : fallN cs t < m.length := by omega
  have hrow := h4 _ (List.getElem_mem hi')
  simp only [spec_DropMatrix.f, f (k + 1) (by omega), Option.bind_some, if_pos h, spec_l2Matrix_eq a ws cs x t h3 (by omega), hx, Bool.not_true, spec_DropMatrix.j0, Bool.false_eq_true, if_false, f2 k (by omega)]
  rw [if_pos (by omega), if_pos (by omega), rdL7_nat m _ hi', getD_rdL m _ hi']
  by_cases h20 : m[fallN cs t].length = 20
  · rw [if_pos (by omega), if_pos h20]
  · rw [if_neg (by omega), if_neg h20, f3 k (by omega), Option.bind_some, if_pos (by omega), rdL7_nat m _ hi', if_pos (by omega), Int.toNat_natCast]
theorem dropMatrix_rows (a : ByteArray) (ws cs : List Int) (m : List (List S30)) (x t : Int) : (dropMatrix a ws cs m x t).1.length ≤ 1000 ∧ ∀ r ∈ (dropMatrix a ws cs m x t).1, r.length ≤ 1000 := by
  unfold dropMatrix
  by_cases h : magazineOk a ws cs m = true ∧ matB a cs x t = true
  case neg => rw [if_neg h]; simp
  rw [if_pos h]
  obtain ⟨h1, h2, h3, h4⟩ := mag_rows2 a ws cs m h.1
  split
  · simp
  · have hi := fall_in a cs x t h3 h.2
    have hi' : fallN cs t < m.length := by omega
    have hrow := h4 _ (List.getElem_mem hi')
    refine ⟨by rw [List.length_set]; omega, rows_set m _ _ 1000 (fun ch hc => by have := h4 ch hc; omega) ?_⟩
    rw [getD_rdL m _ hi', List.length_append, List.length_singleton]
    omega
end Go.Proofs.Ytilbngklgjjblaa.Q
