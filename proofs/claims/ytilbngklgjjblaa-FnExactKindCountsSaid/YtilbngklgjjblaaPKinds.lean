/- How many matrices there are of each kind. Conditions: those that each lemma names. -/
import Derived.Test.YtilbngklgjjblaaP0
import Derived.Test.YtilbngklgjjblaaPCount
import Derived.Test.YtilbngklgjjblaaPMagazine
import Derived.Test.YtilbngklgjjblaaPMats
import Derived.Test.YtilbngklgjjblaaQ0
import Derived.Test.YtilbngklgjjblaaQ10
import Derived.Test.YtilbngklgjjblaaQ3
namespace Go.Proofs.Ytilbngklgjjblaa.Q
open Go.RowKit Go.Proofs.YtilbngklgjjblaaW.PrintWords Go.Proofs.YtilbngklgjjblaaW.PrintLast Go.Proofs.YtilbngklgjjblaaW.PrintMore
set_option linter.unusedVariables false
set_option linter.unusedSimpArgs false
def kcRow : List Int → List S30 → List Int
  | o, [] => o
  | o, x :: r => kcRow (o.set x.f0.toNat (wrap64 (rd o x.f0 + 1))) r
def kcAll : List Int → List (List S30) → List Int
  | o, [] => o
  | o, ch :: r => kcAll (kcRow o ch) r
theorem kcRow_length : ∀ (ch : List S30) (o : List Int), (kcRow o ch).length = o.length
  | [], _ => rfl
  | x :: r, o => by rw [kcRow, kcRow_length r, List.length_set]
theorem kcAll_length : ∀ (m : List (List S30)) (o : List Int), (kcAll o m).length = o.length
  | [], _ => rfl
  | ch :: r, o => by rw [kcAll, kcAll_length r, kcRow_length]
theorem impl_kc_inner (m : List (List S30)) (len : Int) (N : Nat) (i : Nat) (hi : i ≤ 1000) (ch : List S30) (hch : ch.length ≤ 1000) (hx : ∀ x ∈ ch, 0 ≤ x.f0 ∧ x.f0 < (N : Int)) (G : List Int → List Int) (hG : ∀ o, o.length = N → Ev (fun k => impl_KindCounts.l0 k o m len ((i + 1 : Nat) : Int)) (G o)) :
    ∀ d j (o : List Int), j + d = ch.length → o.length = N → Ev (fun k => impl_KindCounts.l1 k o m len (i : Int) ch (ch.length : Int) (j : Int)) (G (kcRow o (ch.drop j))) := by
  intro d
  induction d with
  | zero =>
    intro j o hj ho
    rw [List.drop_eq_nil_of_le (by omega), kcRow]
    refine Ev.step (fun k => ?_) (hG o ho)
    simp only [impl_KindCounts.l1]
    rw [if_neg (by omega), w1 i (by omega)]
  | succ d ih =>
    intro j o hj ho
    have hj' : j < ch.length := by omega
    have h1 := hx _ (List.getElem_mem hj')
    rw [List.drop_eq_getElem_cons hj', kcRow]
    refine Ev.step (fun k => ?_) (ih (j + 1) (o.set ch[j].f0.toNat (wrap64 (rd o ch[j].f0 + 1))) (by omega) (by rw [List.length_set]; exact ho))
    simp only [impl_KindCounts.l1]
    rw [if_pos (by omega), if_pos (by omega), if_pos (by omega), rd30_nat ch j hj', if_pos (by omega), if_pos (by omega), w1 j (by omega)]
theorem impl_kc_loop (m : List (List S30)) (N : Nat) (hm : m.length ≤ 1000) (hch : ∀ ch ∈ m, ch.length ≤ 1000 ∧ ∀ x ∈ ch, 0 ≤ x.f0 ∧ x.f0 < (N : Int)) : ∀ d i (o : List Int), i + d = m.length → o.length = N → Ev (fun k => impl_KindCounts.l0 k o m (m.length : Int) (i : Int)) (kcAll o (m.drop i)) := by
  intro d
  induction d with
  | zero =>
    intro i o hi ho
    rw [List.drop_eq_nil_of_le (by omega), kcAll]
    exact ev_step1 (fun k => by simp only [impl_KindCounts.l0]; rw [if_neg (by omega)])
  | succ d ih =>
    intro i o hi ho
    have hi' : i < m.length := by omega
    have hc := hch _ (List.getElem_mem hi')
    have h := impl_kc_inner m (m.length : Int) N i (by omega) m[i] hc.1 hc.2 (fun o => kcAll o (m.drop (i + 1))) (fun o ho => ih (i + 1) o (by omega) ho) m[i].length 0 o (by omega) ho
    rw [List.drop_zero] at h
    rw [List.drop_eq_getElem_cons hi', kcAll]
    refine Ev.step (fun k => ?_) h
    simp only [impl_KindCounts.l0]
    rw [if_pos (by omega), if_pos (by omega), if_pos (by omega), rdL7_nat m i hi']
    rfl
theorem spec_kc_inner (m : List (List S30)) (len : Int) (N : Nat) (i : Nat) (hi : i ≤ 1000) (ch : List S30) (hch : ch.length ≤ 1000) (hx : ∀ x ∈ ch, 0 ≤ x.f0 ∧ x.f0 < (N : Int)) (G : List Int → List Int) (hG : ∀ o, o.length = N → Ev (fun k => spec_KindCounts.l0 k o m len ((i + 1 : Nat) : Int)) (G o)) :
    ∀ d j (o : List Int), j + d = ch.length → o.length = N → Ev (fun k => spec_KindCounts.l1 k o m len (i : Int) ch (ch.length : Int) (j : Int)) (G (kcRow o (ch.drop j))) := by
  intro d
  induction d with
  | zero =>
    intro j o hj ho
    rw [List.drop_eq_nil_of_le (by omega), kcRow]
    refine Ev.step (fun k => ?_) (hG o ho)
    simp only [spec_KindCounts.l1]
    rw [if_neg (by omega), w1 i (by omega)]
  | succ d ih =>
    intro j o hj ho
    have hj' : j < ch.length := by omega
    have h1 := hx _ (List.getElem_mem hj')
    rw [List.drop_eq_getElem_cons hj', kcRow]
    refine Ev.step (fun k => ?_) (ih (j + 1) (o.set ch[j].f0.toNat (wrap64 (rd o ch[j].f0 + 1))) (by omega) (by rw [List.length_set]; exact ho))
    simp only [spec_KindCounts.l1]
    rw [if_pos (by omega), if_pos (by omega), if_pos (by omega), rd30_nat ch j hj', if_pos (by omega), if_pos (by omega), w1 j (by omega)]
theorem spec_kc_loop (m : List (List S30)) (N : Nat) (hm : m.length ≤ 1000) (hch : ∀ ch ∈ m, ch.length ≤ 1000 ∧ ∀ x ∈ ch, 0 ≤ x.f0 ∧ x.f0 < (N : Int)) : ∀ d i (o : List Int), i + d = m.length → o.length = N → Ev (fun k => spec_KindCounts.l0 k o m (m.length : Int) (i : Int)) (kcAll o (m.drop i)) := by
  intro d
  induction d with
  | zero =>
    intro i o hi ho
    rw [List.drop_eq_nil_of_le (by omega), kcAll]
    exact ev_step1 (fun k => by simp only [spec_KindCounts.l0]; rw [if_neg (by omega)])
  | succ d ih =>
    intro i o hi ho
    have hi' : i < m.length := by omega
    have hc := hch _ (List.getElem_mem hi')
    have h := spec_kc_inner m (m.length : Int) N i (by omega) m[i] hc.1 hc.2 (fun o => kcAll o (m.drop (i + 1))) (fun o ho => ih (i + 1) o (by omega) ho) m[i].length 0 o (by omega) ho
    rw [List.drop_zero] at h
    rw [List.drop_eq_getElem_cons hi', kcAll]
    refine Ev.step (fun k => ?_) h
    simp only [spec_KindCounts.l0]
    rw [if_pos (by omega), if_pos (by omega), if_pos (by omega), rdL7_nat m i hi']
    rfl
def kindCounts (a : ByteArray) (ws cs : List Int) (m : List (List S30)) : List Int := if magazineOk a ws cs m = true then kcAll (List.replicate m.length 0) m else []
theorem kindCounts_length (a : ByteArray) (ws cs : List Int) (m : List (List S30)) : (kindCounts a ws cs m).length ≤ m.length := by
  unfold kindCounts
  split
  · rw [kcAll_length, List.length_replicate]; exact Nat.le_refl _
  · exact Nat.zero_le _
theorem mag_len (a : ByteArray) (ws cs : List Int) (m : List (List S30)) (h : magazineOk a ws cs m = true) : m.length = a.size := by
  unfold magazineOk at h
  rw [Bool.and_eq_true, Bool.and_eq_true, decide_eq_true_eq] at h
  exact h.1.2
theorem impl_KindCounts_ev (a : ByteArray) (ws cs : List Int) (m : List (List S30)) (hl : cs.length ≤ 1099511627776) : Ev (fun k => impl_KindCounts.f k a ws cs m) (kindCounts a ws cs m) := by
  obtain ⟨K, f⟩ := impl_MagazineOk_ev a ws cs m hl
  unfold kindCounts
  by_cases h : magazineOk a ws cs m = true
  · obtain ⟨h1, h2, h3⟩ := mag_rows a ws cs m h
    have hm := mag_len a ws cs m h
    obtain ⟨K2, f2⟩ := impl_kc_loop m m.length (by omega) (fun ch hc => ⟨by have := (h3 ch hc).1; omega, fun x hx => by have := (h3 ch hc).2 x hx; omega⟩) m.length 0 (List.replicate m.length 0) (by omega) (by simp)
    rw [List.drop_zero] at f2
    rw [if_pos h]
    refine ⟨K + K2, fun k hk => ?_⟩
    simp only [impl_KindCounts.f, f k (by omega), h, Option.bind_some, if_true]
    rw [if_pos (by omega), if_pos (by omega), Int.toNat_natCast]
    exact f2 k (by omega)
  · rw [if_neg h]
    refine ⟨K, fun k hk => ?_⟩
    simp only [impl_KindCounts.f, f k hk, Option.bind_some, if_neg h]
theorem spec_KindCounts_ev (a : ByteArray) (ws cs : List Int) (m : List (List S30)) (hl : cs.length ≤ 1099511627776) : Ev (fun k => spec_KindCounts.f k a ws cs m) (kindCounts a ws cs m) := by
  obtain ⟨K, f⟩ := spec_MagazineOk_ev a ws cs m hl
  unfold kindCounts
  by_cases h : magazineOk a ws cs m = true
  · obtain ⟨h1, h2, h3⟩ := mag_rows a ws cs m h
    have hm := mag_len a ws cs m h
    obtain ⟨K2, f2⟩ := spec_kc_loop m m.length (by omega) (fun ch hc => ⟨by have := (h3 ch hc).1; omega, fun x hx => by have := (h3 ch hc).2 x hx; omega⟩) m.length 0 (List.replicate m.length 0) (by omega) (by simp)
    rw [List.drop_zero] at f2
    rw [if_pos h]
    refine ⟨K + K2, fun k hk => ?_⟩
    simp only [spec_KindCounts.f, f k (by omega), h, Option.bind_some, if_true]
    rw [if_pos (by omega), if_pos (by omega), Int.toNat_natCast]
    exact f2 k (by omega)
  · rw [if_neg h]
    refine ⟨K, fun k hk => ?_⟩
    simp only [spec_KindCounts.f, f k hk, Option.bind_some, if_neg h]
end Go.Proofs.Ytilbngklgjjblaa.Q
