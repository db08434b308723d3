/- Strays and worn matrices: what the program's and the reference's functions count. Conditions: those that each lemma names. -/
import Derived.Test.YtilbngklgjjblaaP0
import Derived.Test.YtilbngklgjjblaaPFont
import Derived.Test.YtilbngklgjjblaaPLetters
import Derived.Test.YtilbngklgjjblaaPMagazine
import Derived.Test.YtilbngklgjjblaaPMats
import Derived.Test.YtilbngklgjjblaaQ0
import Derived.Test.YtilbngklgjjblaaQ10
import Derived.Test.YtilbngklgjjblaaQ8
namespace Go.Proofs.Ytilbngklgjjblaa.Q
open Go.RowKit Go.Proofs.YtilbngklgjjblaaW.PrintWords Go.Proofs.YtilbngklgjjblaaW.PrintLast Go.Proofs.YtilbngklgjjblaaW.PrintMore
set_option linter.unusedVariables false
set_option linter.unusedSimpArgs false
theorem spec_strays_inner (m : List (List S30)) (len : Int) (i : Nat) (hi : i ≤ 1000) (ch : List S30) (hch : ch.length ≤ 1000) (G : Int → Int) (hG : ∀ n, Ev (fun k => spec_CountStrays.l0 k n m len ((i + 1 : Nat) : Int)) (G n)) :
    ∀ d j n, j + d = ch.length → Ev (fun k => spec_CountStrays.l1 k n (i : Int) m len (i : Int) ch (ch.length : Int) (j : Int)) (G (cntRow (fun i x => x.f0 != i) (i : Int) (ch.drop j) n)) := by
  intro d
  induction d with
  | zero =>
    intro j n hj
    rw [List.drop_eq_nil_of_le (by omega), cntRow]
    refine Ev.step (fun k => ?_) (hG n)
    simp only [spec_CountStrays.l1]
    rw [if_neg (by omega), w1 i (by omega)]
  | succ d ih =>
    intro j n hj
    have hj' : j < ch.length := by omega
    rw [List.drop_eq_getElem_cons hj', cntRow]
    by_cases e : ch[j].f0 = (i : Int)
    · rw [if_neg (by simp [e])]
      refine Ev.step (fun k => ?_) (ih (j + 1) n (by omega))
      simp only [spec_CountStrays.l1]
      rw [if_pos (by omega), if_pos (by omega), if_pos (by omega), rd30_nat ch j hj', if_pos e, w1 j (by omega)]
    · rw [if_pos (by simpa using e)]
      refine Ev.step (fun k => ?_) (ih (j + 1) (wrap64 (n + 1)) (by omega))
      simp only [spec_CountStrays.l1]
      rw [if_pos (by omega), if_pos (by omega), if_pos (by omega), rd30_nat ch j hj', if_neg e, w1 j (by omega)]
theorem spec_strays_loop (m : List (List S30)) (hm : m.length ≤ 1000) (hch : ∀ ch ∈ m, ch.length ≤ 1000) : ∀ d i n, i + d = m.length → Ev (fun k => spec_CountStrays.l0 k n m (m.length : Int) (i : Int)) (cntAll (fun i x => x.f0 != i) (i : Int) (m.drop i) n) := by
  intro d
  induction d with
  | zero =>
    intro i n hi
    rw [List.drop_eq_nil_of_le (by omega), cntAll]
    exact ev_step1 (fun k => by simp only [spec_CountStrays.l0]; rw [if_neg (by omega)])
  | succ d ih =>
    intro i n hi
    have hi' : i < m.length := by omega
    have h := spec_strays_inner m (m.length : Int) i (by omega) m[i] (hch _ (List.getElem_mem hi')) (fun n => cntAll (fun i x => x.f0 != i) ((i + 1 : Nat) : Int) (m.drop (i + 1)) n) (fun n => ih (i + 1) n (by omega)) m[i].length 0 n (by omega)
    rw [List.drop_zero] at h
    rw [List.drop_eq_getElem_cons hi', cntAll]
    refine Ev.step (fun k => ?_) h
    simp only [spec_CountStrays.l0]
    rw [if_pos (by omega), if_pos (by omega), if_pos (by omega), rdL7_nat m i hi']
    rfl
def countStrays (a : ByteArray) (ws cs : List Int) (m : List (List S30)) : Int := if magazineOk a ws cs m = true then cntAll (fun i x => x.f0 != i) 0 m 0 else -1
theorem mag_rows (a : ByteArray) (ws cs : List Int) (m : List (List S30)) (h : magazineOk a ws cs m = true) : m.length ≤ 40 ∧ cs.length = a.size ∧ ∀ ch ∈ m, ch.length ≤ 20 ∧ ∀ x ∈ ch, 0 ≤ x.f0 ∧ x.f0 < a.size := by
  unfold magazineOk at h
  rw [Bool.and_eq_true, Bool.and_eq_true, decide_eq_true_eq] at h
  obtain ⟨⟨h1, h2⟩, h3⟩ := h
  obtain ⟨_, l2, _, l4⟩ := fontB_len a ws cs h1
  refine ⟨by omega, l4, fun ch hc => ?_⟩
  have h4 := List.all_eq_true.1 h3 ch hc
  unfold chanB at h4
  rw [Bool.and_eq_true, decide_eq_true_eq] at h4
  exact ⟨h4.1, fun x hx => matB_range a cs _ _ (List.all_eq_true.1 h4.2 x hx)⟩
theorem impl_CountStrays_ev (a : ByteArray) (ws cs : List Int) (m : List (List S30)) (hl : cs.length ≤ 1099511627776) : Ev (fun k => impl_CountStrays.f k a ws cs m) (countStrays a ws cs m) := by
  obtain ⟨K, f⟩ := impl_MagazineOk_ev a ws cs m hl
  refine ⟨K, fun k hk => ?_⟩
  simp only [impl_CountStrays.f, f k hk, Option.bind_some, countStrays]
theorem spec_CountStrays_ev (a : ByteArray) (ws cs : List Int) (m : List (List S30)) (hl : cs.length ≤ 1099511627776) : Ev (fun k => spec_CountStrays.f k a ws cs m) (countStrays a ws cs m) := by
  obtain ⟨K, f⟩ := spec_MagazineOk_ev a ws cs m hl
  unfold countStrays
  by_cases h : magazineOk a ws cs m = true
  · obtain ⟨h1, h2, h3⟩ := mag_rows a ws cs m h
    obtain ⟨K2, f2⟩ := spec_strays_loop m (by omega) (fun ch hc => by have := (h3 ch hc).1; omega) m.length 0 0 (by omega)
    rw [List.drop_zero] at f2
    rw [if_pos h]
    refine ⟨K + K2, fun k hk => ?_⟩
    simp only [spec_CountStrays.f, f k (by omega), h, Option.bind_some, if_true]
    exact f2 k (by omega)
  · rw [if_neg h]
    refine ⟨K, fun k hk => ?_⟩
    simp only [spec_CountStrays.f, f k hk, Option.bind_some, if_neg h]
end Go.Proofs.Ytilbngklgjjblaa.Q
