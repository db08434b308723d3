/- Worn matrices: what the program's and the reference's functions count. Conditions: those that each lemma names. -/
import Derived.Test.YtilbngklgjjblaaP0
import Derived.Test.YtilbngklgjjblaaPCount
import Derived.Test.YtilbngklgjjblaaPMagazine
import Derived.Test.YtilbngklgjjblaaPMats
import Derived.Test.YtilbngklgjjblaaQ0
import Derived.Test.YtilbngklgjjblaaQ10
import Derived.Test.YtilbngklgjjblaaQ8
namespace Go.Proofs.Ytilbngklgjjblaa.Q
open Go.RowKit Go.Proofs.YtilbngklgjjblaaW.PrintWords Go.Proofs.YtilbngklgjjblaaW.PrintLast Go.Proofs.YtilbngklgjjblaaW.PrintMore
set_option linter.unusedVariables false
set_option linter.unusedSimpArgs false
theorem spec_worn_inner (a : ByteArray) (ws cs : List Int) (m : List (List S30)) (len : Int) (i : Nat) (hi : i ≤ 1000) (ch : List S30) (hch : ch.length ≤ 1000) (hx : ∀ x ∈ ch, 0 ≤ x.f0 ∧ x.f0 < (cs.length : Int)) (G : Int → Int) (hG : ∀ n, Ev (fun k => spec_CountWorn.l0 k n m len ((i + 1 : Nat) : Int) a ws cs) (G n)) :
    ∀ d j n, j + d = ch.length → Ev (fun k => spec_CountWorn.l1 k n m len (i : Int) ch (ch.length : Int) (j : Int) a ws cs) (G (cntRow (fun _ x => x.f1 != rd cs x.f0) (i : Int) (ch.drop j) n)) := by
  intro d
  induction d with
  | zero =>
    intro j n hj
    rw [List.drop_eq_nil_of_le (by omega), cntRow]
    refine Ev.step (fun k => ?_) (hG n)
    simp only [spec_CountWorn.l1]
    rw [if_neg (by omega), w1 i (by omega)]
  | succ d ih =>
    intro j n hj
    have hj' : j < ch.length := by omega
    obtain ⟨x0, x1⟩ := hx ch[j] (List.getElem_mem hj')
    rw [List.drop_eq_getElem_cons hj', cntRow]
    by_cases e : ch[j].f1 = rd cs ch[j].f0
    · rw [if_neg (by simp [e])]
      refine Ev.step (fun k => ?_) (ih (j + 1) n (by omega))
      simp only [spec_CountWorn.l1]
      rw [if_pos (by omega), if_pos (by omega), if_pos (by omega), rd30_nat ch j hj', if_pos x0, if_pos x1, if_pos e, w1 j (by omega)]
    · rw [if_pos (by simpa using e)]
      refine Ev.step (fun k => ?_) (ih (j + 1) (wrap64 (n + 1)) (by omega))
      simp only [spec_CountWorn.l1]
      rw [if_pos (by omega), if_pos (by omega), if_pos (by omega), rd30_nat ch j hj', if_pos x0, if_pos x1, if_neg e, w1 j (by omega)]
theorem spec_worn_loop (a : ByteArray) (ws cs : List Int) (m : List (List S30)) (hm : m.length ≤ 1000) (hch : ∀ ch ∈ m, ch.length ≤ 1000 ∧ ∀ x ∈ ch, 0 ≤ x.f0 ∧ x.f0 < (cs.length : Int)) : ∀ d i n, i + d = m.length → Ev (fun k => spec_CountWorn.l0 k n m (m.length : Int) (i : Int) a ws cs) (cntAll (fun _ x => x.f1 != rd cs x.f0) (i : Int) (m.drop i) n) := by
  intro d
  induction d with
  | zero =>
    intro i n hi
    rw [List.drop_eq_nil_of_le (by omega), cntAll]
    exact ev_step1 (fun k => by simp only [spec_CountWorn.l0]; rw [if_neg (by omega)])
  | succ d ih =>
    intro i n hi
    have hi' : i < m.length := by omega
    have hc := hch _ (List.getElem_mem hi')
    have h := spec_worn_inner a ws cs m (m.length : Int) i (by omega) m[i] hc.1 hc.2 (fun n => cntAll (fun _ x => x.f1 != rd cs x.f0) ((i + 1 : Nat) : Int) (m.drop (i + 1)) n) (fun n => ih (i + 1) n (by omega)) m[i].length 0 n (by omega)
    rw [List.drop_zero] at h
    rw [List.drop_eq_getElem_cons hi', cntAll]
    refine Ev.step (fun k => ?_) h
    simp only [spec_CountWorn.l0]
    rw [if_pos (by omega), if_pos (by omega), if_pos (by omega), rdL7_nat m i hi']
    rfl
def countWorn (a : ByteArray) (ws cs : List Int) (m : List (List S30)) : Int := if magazineOk a ws cs m = true then cntAll (fun _ x => x.f1 != rd cs x.f0) 0 m 0 else -1
theorem impl_CountWorn_ev (a : ByteArray) (ws cs : List Int) (m : List (List S30)) (hl : cs.length ≤ 1099511627776) : Ev (fun k => impl_CountWorn.f k a ws cs m) (countWorn a ws cs m) := by
  obtain ⟨K, f⟩ := impl_MagazineOk_ev a ws cs m hl
  refine ⟨K, fun k hk => ?_⟩
  by_cases h : magazineOk a ws cs m = true
  · obtain ⟨h1, h2, h3⟩ := mag_rows a ws cs m h
    have hall : (m.all fun ch => ch.all fun x => decide (0 ≤ x.f0) && decide (x.f0 < (cs.length : Int))) = true := by
      rw [List.all_eq_true]
      intro ch hc
      rw [List.all_eq_true]
      intro x hx
      have := (h3 ch hc).2 x hx
      rw [Bool.and_eq_true, decide_eq_true_eq, decide_eq_true_eq]
      omega
    simp only [impl_CountWorn.f, f k hk, Option.bind_some, countWorn, h, if_true, hall]
  · simp only [impl_CountWorn.f, f k hk, Option.bind_some, countWorn, if_neg h]
theorem spec_CountWorn_ev (a : ByteArray) (ws cs : List Int) (m : List (List S30)) (hl : cs.length ≤ 1099511627776) : Ev (fun k => spec_CountWorn.f k a ws cs m) (countWorn a ws cs m) := by
  obtain ⟨K, f⟩ := spec_MagazineOk_ev a ws cs m hl
  unfold countWorn
  by_cases h : magazineOk a ws cs m = true
  · obtain ⟨h1, h2, h3⟩ := mag_rows a ws cs m h
    obtain ⟨K2, f2⟩ := spec_worn_loop a ws cs m (by omega) (fun ch hc => ⟨by have := (h3 ch hc).1; omega, fun x hx => by have := (h3 ch hc).2 x hx; omega⟩) m.length 0 0 (by omega)
    rw [List.drop_zero] at f2
    rw [if_pos h]
    refine ⟨K + K2, fun k hk => ?_⟩
    simp only [spec_CountWorn.f, f k (by omega), h, Option.bind_some, if_true]
    exact f2 k (by omega)
  · rw [if_neg h]
    refine ⟨K, fun k hk => ?_⟩
    simp only [spec_CountWorn.f, f k hk, Option.bind_some, if_neg h]
end Go.Proofs.Ytilbngklgjjblaa.Q
