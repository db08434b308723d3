/- A magazine that is swept. Conditions: those that each lemma names. -/
import Derived.Test.YtilbngklgjjblaaP0
import Derived.Test.YtilbngklgjjblaaPCopyM
import Derived.Test.YtilbngklgjjblaaPCount
import Derived.Test.YtilbngklgjjblaaPKinds
import Derived.Test.YtilbngklgjjblaaPMagazine
import Derived.Test.YtilbngklgjjblaaPMats
import Derived.Test.YtilbngklgjjblaaQ0
import Derived.Test.YtilbngklgjjblaaQ12
import Derived.Test.YtilbngklgjjblaaQ13
import Derived.Test.YtilbngklgjjblaaQ8
import Derived.Test.YtilbngklgjjblaaQ9
namespace Go.Proofs.Ytilbngklgjjblaa.Q
open Go.RowKit Go.Proofs.YtilbngklgjjblaaW.PrintWords Go.Proofs.YtilbngklgjjblaaW.PrintLast Go.Proofs.YtilbngklgjjblaaW.PrintMore
set_option linter.unusedVariables false
set_option linter.unusedSimpArgs false
def swRow (i : Int) : List (List S30) × List S30 → List S30 → List (List S30) × List S30
  | s, [] => s
  | s, x :: r => swRow i (if x.f0 = i then (s.1.set i.toNat (s.1.getD i.toNat [] ++ [x]), s.2) else (s.1, s.2 ++ [x])) r
def swAll : Int → List (List S30) × List S30 → List (List S30) → List (List S30) × List S30
  | _, s, [] => s
  | i, s, ch :: r => swAll (i + 1) (swRow i s ch) r
def swPut : List (List S30) → List S30 → Option (List (List S30))
  | o, [] => some o
  | o, x :: r => if (o.getD x.f0.toNat []).length = 20 then none else swPut (o.set x.f0.toNat (o.getD x.f0.toNat [] ++ [x])) r
def swFin (n : Int) : Option (List (List S30)) → List (List S30) × Int × Bool
  | none => ([], 0, false)
  | some o => (o, n, true)
def swEnd (s : List (List S30) × List S30) : List (List S30) × Int × Bool := swFin s.2.length (swPut s.1 s.2)
theorem rdL_getD (m : List (List S30)) (i : Nat) : rd_L4 m (i : Int) = m.getD i [] := by rfl
theorem getD_set (m : List (List S30)) (i q : Nat) (r : List S30) : (m.set i r).getD q [] = if i = q ∧ i < m.length then r else m.getD q [] := by
  rw [List.getD_eq_getElem?_getD, List.getElem?_set, List.getD_eq_getElem?_getD]
  by_cases e : i = q
  · subst e
    by_cases h : i < m.length
    · rw [if_pos rfl, if_pos h, if_pos ⟨rfl, h⟩]; rfl
    · rw [if_pos rfl, if_neg h, if_neg (fun z => h z.2), List.getElem?_eq_none (by omega)]
  · rw [if_neg e, if_neg (fun z => e z.1)]
theorem impl_sw_put (st : List S30) (N : Nat) (hst : st.length ≤ 1000) (hx : ∀ x ∈ st, 0 ≤ x.f0 ∧ x.f0 < (N : Int)) : ∀ d j (o : List (List S30)), j + d = st.length → o.length = N → (∀ q, (o.getD q []).length ≤ 20) → Ev (fun k => impl_SweepMagazine.l2 k o st st (st.length : Int) (j : Int)) (swFin st.length (swPut o (st.drop j))) := by
  intro d
  induction d with
  | zero =>
    intro j o hj ho hq
    rw [List.drop_eq_nil_of_le (by omega), swPut]
    exact ev_step1 (fun k => by simp only [impl_SweepMagazine.l2]; rw [if_neg (by omega)]; rfl)
  | succ d ih =>
    intro j o hj ho hq
    have hj' : j < st.length := by omega
    have h1 := hx _ (List.getElem_mem hj')
    obtain ⟨z, hz⟩ := Int.eq_ofNat_of_zero_le h1.1
    have h2 := hq z
    have e3 : ∀ R, (o.set z R).getD z [] = R := fun R => by rw [getD_set, if_pos (by exact ⟨rfl, by omega⟩)]
    rw [List.drop_eq_getElem_cons hj', swPut, hz, Int.toNat_natCast]
    by_cases h20 : (o.getD z []).length = 20
    · rw [if_pos h20]
      refine ev_step1 (fun k => ?_)
      simp only [impl_SweepMagazine.l2]
      rw [if_pos (by omega), if_pos (by omega), if_pos (by omega), rd30_nat st j hj', hz, if_pos (by omega), if_pos (by omega), rdL_getD, if_pos (by omega), Option.bind_some, Int.toNat_natCast, rdL_getD, e3, if_pos (by rw [List.length_append, List.length_singleton]; omega)]
      rfl
    · rw [if_neg h20]
      refine Ev.step (fun k => ?_) (ih (j + 1) (o.set z (o.getD z [] ++ [st[j]])) (by omega) (by rw [List.length_set]; exact ho) (fun q => ?_))
      · simp only [impl_SweepMagazine.l2]
        rw [if_pos (by omega), if_pos (by omega), if_pos (by omega), rd30_nat st j hj', hz, if_pos (by omega), if_pos (by omega), rdL_getD, if_pos (by omega), Option.bind_some, Int.toNat_natCast, rdL_getD, e3, if_neg (by rw [List.length_append, List.length_singleton]; omega), w1 j (by omega)]
        rw [show (⟨(z : Int), st[j].f1⟩ : S30) = st[j] from by rw [← hz]]
      · rw [getD_set]
        split
        · rw [List.length_append, List.length_singleton]; omega
        · exact hq q
theorem impl_sw_inner (m : List (List S30)) (len : Int) (N : Nat) (i : Nat) (hi : i < N) (hN : N ≤ 40) (ch : List S30) (hch : ch.length ≤ 20) (hx : ∀ x ∈ ch, 0 ≤ x.f0 ∧ x.f0 < (N : Int))
    (G : List (List S30) × List S30 → List (List S30) × Int × Bool)
    (hG : ∀ o st, o.length = N → (∀ q, (o.getD q []).length ≤ 20) → (∀ q, i < q → o.getD q [] = []) → st.length ≤ 20 * (i + 1) → (∀ x ∈ st, 0 ≤ x.f0 ∧ x.f0 < (N : Int)) → Ev (fun k => impl_SweepMagazine.l0 k o st m len ((i + 1 : Nat) : Int)) (G (o, st))) :
    ∀ d j (o : List (List S30)) (st : List S30), j + d = ch.length → o.length = N → (∀ q, (o.getD q []).length ≤ 20) → (o.getD i []).length ≤ j → (∀ q, i < q → o.getD q [] = []) → st.length ≤ 20 * i + j → (∀ x ∈ st, 0 ≤ x.f0 ∧ x.f0 < (N : Int)) →
      Ev (fun k => impl_SweepMagazine.l1 k o st (i : Int) m len (i : Int) ch (ch.length : Int) (j : Int)) (G (swRow (i : Int) (o, st) (ch.drop j))) := by
  intro d
  induction d with
  | zero =>
    intro j o st hj ho hq hoi hz hs hsx
    rw [List.drop_eq_nil_of_le (by omega), swRow]
    refine Ev.step (fun k => ?_) (hG o st ho hq hz (by omega) hsx)
    simp only [impl_SweepMagazine.l1]
    rw [if_neg (by omega), w1 i (by omega)]
  | succ d ih =>
    intro j o st hj ho hq hoi hz hs hsx
    have hj' : j < ch.length := by omega
    have h1 := hx _ (List.getElem_mem hj')
    rw [List.drop_eq_getElem_cons hj', swRow]
    by_cases e : ch[j].f0 = (i : Int)
    · rw [if_pos e, Int.toNat_natCast]
      refine Ev.step (fun k => ?_) (ih (j + 1) (o.set i (o.getD i [] ++ [ch[j]])) st (by omega) (by rw [List.length_set]; exact ho) (fun q => ?_) ?_ (fun q hq2 => ?_) (by omega) hsx)
      · simp only [impl_SweepMagazine.l1]
        rw [if_pos (by omega), if_pos (by omega), if_pos (by omega), rd30_nat ch j hj', if_pos e, if_pos (by omega), if_pos (by omega), rdL_getD, if_pos (by have := hq i; omega), w1 j (by omega), Int.toNat_natCast]
      · rw [getD_set]
        split
        · rw [List.length_append, List.length_singleton]; omega
        · exact hq q
      · rw [getD_set, if_pos ⟨rfl, by omega⟩, List.length_append, List.length_singleton]; omega
      · rw [getD_set, if_neg (fun z => by omega)]; exact hz q hq2
    · rw [if_neg e]
      refine Ev.step (fun k => ?_) (ih (j + 1) o (st ++ [ch[j]]) (by omega) ho hq (by omega) hz (by rw [List.length_append, List.length_singleton]; omega) (fun x hx2 => ?_))
      · simp only [impl_SweepMagazine.l1]
        rw [if_pos (by omega), if_pos (by omega), if_pos (by omega), rd30_nat ch j hj', if_neg e, if_pos (by omega), w1 j (by omega)]
      · rcases List.mem_append.1 hx2 with h3 | h3
        · exact hsx x h3
        · rw [List.mem_singleton.1 h3]; exact h1
theorem impl_sw_loop (m : List (List S30)) (N : Nat) (hN : N ≤ 40) (hm : m.length = N) (hch : ∀ ch ∈ m, ch.length ≤ 20 ∧ ∀ x ∈ ch, 0 ≤ x.f0 ∧ x.f0 < (N : Int)) : ∀ d i (o : List (List S30)) (st : List S30), i + d = m.length → o.length = N → (∀ q, (o.getD q []).length ≤ 20) → (∀ q, i ≤ q → o.getD q [] = []) → st.length ≤ 20 * i → (∀ x ∈ st, 0 ≤ x.f0 ∧ x.f0 < (N : Int)) →
    Ev (fun k => impl_SweepMagazine.l0 k o st m (m.length : Int) (i : Int)) (swEnd (swAll (i : Int) (o, st) (m.drop i))) := by
  intro d
  induction d with
  | zero =>
    intro i o st hi ho hq hz hs hsx
    rw [List.drop_eq_nil_of_le (by omega), swAll]
    have h := impl_sw_put st N (by omega) hsx st.length 0 o (by omega) ho hq
    rw [List.drop_zero] at h
    refine Ev.step (fun k => ?_) h
    simp only [impl_SweepMagazine.l0]
    rw [if_neg (by omega)]
    rfl
  | succ d ih =>
    intro i o st hi ho hq hz hs hsx
    have hi' : i < m.length := by omega
    have hc := hch _ (List.getElem_mem hi')
    have h := impl_sw_inner m (m.length : Int) N i (by omega) hN m[i] hc.1 hc.2 (fun s => swEnd (swAll ((i + 1 : Nat) : Int) s (m.drop (i + 1)))) (fun o st a1 a2 a3 a4 a5 => ih (i + 1) o st (by omega) a1 a2 (fun q hq => a3 q (by omega)) (by omega) a5) m[i].length 0 o st (by omega) ho hq (by rw [hz i (Nat.le_refl _)]; simp) (fun q hq2 => hz q (by omega)) (by omega) hsx
    rw [List.drop_zero] at h
    rw [List.drop_eq_getElem_cons hi', swAll]
    refine Ev.step (fun k => ?_) h
    simp only [impl_SweepMagazine.l0]
    rw [if_pos (by omega), if_pos (by omega), if_pos (by omega), rdL7_nat m i hi']
    rfl
theorem spec_sw_put (st : List S30) (N : Nat) (hst : st.length ≤ 1000) (hx : ∀ x ∈ st, 0 ≤ x.f0 ∧ x.f0 < (N : Int)) : ∀ d j (o : List (List S30)), j + d = st.length → o.length = N → (∀ q, (o.getD q []).length ≤ 20) → Ev (fun k => spec_SweepMagazine.l2 k o st st (st.length : Int) (j : Int)) (swFin st.length (swPut o (st.drop j))) := by
  intro d
  induction d with
  | zero =>
    intro j o hj ho hq
    rw [List.drop_eq_nil_of_le (by omega), swPut]
    exact ev_step1 (fun k => by simp only [spec_SweepMagazine.l2]; rw [if_neg (by omega)]; rfl)
  | succ d ih =>
    intro j o hj ho hq
    have hj' : j < st.length := by omega
    have h1 := hx _ (List.getElem_mem hj')
    obtain ⟨z, hz⟩ := Int.eq_ofNat_of_zero_le h1.1
    have h2 := hq z
    rw [List.drop_eq_getElem_cons hj', swPut, hz, Int.toNat_natCast]
    by_cases h20 : (o.getD z []).length = 20
    · rw [if_pos h20]
      refine ev_step1 (fun k => ?_)
      simp only [spec_SweepMagazine.l2]
      rw [if_pos (by omega), if_pos (by omega), if_pos (by omega), rd30_nat st j hj', hz, if_pos (by omega), if_pos (by omega), rdL_getD, if_pos (by omega)]
      rfl
    · rw [if_neg h20]
      refine Ev.step (fun k => ?_) (ih (j + 1) (o.set z (o.getD z [] ++ [st[j]])) (by omega) (by rw [List.length_set]; exact ho) (fun q => ?_))
      · simp only [spec_SweepMagazine.l2]
        rw [if_pos (by omega), if_pos (by omega), if_pos (by omega), rd30_nat st j hj', hz, if_pos (by omega), if_pos (by omega), rdL_getD, if_neg (by omega), if_pos (by omega), Int.toNat_natCast, w1 j (by omega)]
        rw [show (⟨(z : Int), st[j].f1⟩ : S30) = st[j] from by rw [← hz]]
      · rw [getD_set]
        split
        · rw [List.length_append, List.length_singleton]; omega
        · exact hq q
theorem spec_sw_inner (m : List (List S30)) (len : Int) (N : Nat) (i : Nat) (hi : i < N) (hN : N ≤ 40) (ch : List S30) (hch : ch.length ≤ 20) (hx : ∀ x ∈ ch, 0 ≤ x.f0 ∧ x.f0 < (N : Int))
    (G : List (List S30) × List S30 → List (List S30) × Int × Bool)
    (hG : ∀ o st, o.length = N → (∀ q, (o.getD q []).length ≤ 20) → (∀ q, i < q → o.getD q [] = []) → st.length ≤ 20 * (i + 1) → (∀ x ∈ st, 0 ≤ x.f0 ∧ x.f0 < (N : Int)) → Ev (fun k => spec_SweepMagazine.l0 k o st m len ((i + 1 : Nat) : Int)) (G (o, st))) :
    ∀ d j (o : List (List S30)) (st : List S30), j + d = ch.length → o.length = N → (∀ q, (o.getD q []).length ≤ 20) → (o.getD i []).length ≤ j → (∀ q, i < q → o.getD q [] = []) → st.length ≤ 20 * i + j → (∀ x ∈ st, 0 ≤ x.f0 ∧ x.f0 < (N : Int)) →
      Ev (fun k => spec_SweepMagazine.l1 k o st (i : Int) m len (i : Int) ch (ch.length : Int) (j : Int)) (G (swRow (i : Int) (o, st) (ch.drop j))) := by
  intro d
  induction d with
  | zero =>
    intro j o st hj ho hq hoi hz hs hsx
    rw [List.drop_eq_nil_of_le (by omega), swRow]
    refine Ev.step (fun k => ?_) (hG o st ho hq hz (by omega) hsx)
    simp only [spec_SweepMagazine.l1]
    rw [if_neg (by omega), w1 i (by omega)]
  | succ d ih =>
    intro j o st hj ho hq hoi hz hs hsx
    have hj' : j < ch.length := by omega
    have h1 := hx _ (List.getElem_mem hj')
    rw [List.drop_eq_getElem_cons hj', swRow]
    by_cases e : ch[j].f0 = (i : Int)
    · rw [if_pos e, Int.toNat_natCast]
      refine Ev.step (fun k => ?_) (ih (j + 1) (o.set i (o.getD i [] ++ [ch[j]])) st (by omega) (by rw [List.length_set]; exact ho) (fun q => ?_) ?_ (fun q hq2 => ?_) (by omega) hsx)
      · simp only [spec_SweepMagazine.l1]
        rw [if_pos (by omega), if_pos (by omega), if_pos (by omega), rd30_nat ch j hj', if_pos e, if_pos (by omega), if_pos (by omega), rdL_getD, if_pos (by have := hq i; omega), w1 j (by omega), Int.toNat_natCast]
      · rw [getD_set]
        split
        · rw [List.length_append, List.length_singleton]; omega
        · exact hq q
      · rw [getD_set, if_pos ⟨rfl, by omega⟩, List.length_append, List.length_singleton]; omega
      · rw [getD_set, if_neg (fun z => by omega)]; exact hz q hq2
    · rw [if_neg e]
      refine Ev.step (fun k => ?_) (ih (j + 1) o (st ++ [ch[j]]) (by omega) ho hq (by omega) hz (by rw [List.length_append, List.length_singleton]; omega) (fun x hx2 => ?_))
      · simp only [spec_SweepMagazine.l1]
        rw [if_pos (by omega), if_pos (by omega), if_pos (by omega), rd30_nat ch j hj', if_neg e, if_pos (by omega), w1 j (by omega)]
      · rcases List.mem_append.1 hx2 with h3 | h3
        · exact hsx x h3
        · rw [List.mem_singleton.1 h3]; exact h1
theorem spec_sw_loop (m : List (List S30)) (N : Nat) (hN : N ≤ 40) (hm : m.length = N) (hch : ∀ ch ∈ m, ch.length ≤ 20 ∧ ∀ x ∈ ch, 0 ≤ x.f0 ∧ x.f0 < (N : Int)) : ∀ d i (o : List (List S30)) (st : List S30), i + d = m.length → o.length = N → (∀ q, (o.getD q []).length ≤ 20) → (∀ q, i ≤ q → o.getD q [] = []) → st.length ≤ 20 * i → (∀ x ∈ st, 0 ≤ x.f0 ∧ x.f0 < (N : Int)) →
    Ev (fun k => spec_SweepMagazine.l0 k o st m (m.length : Int) (i : Int)) (swEnd (swAll (i : Int) (o, st) (m.drop i))) := by
  intro d
  induction d with
  | zero =>
    intro i o st hi ho hq hz hs hsx
    rw [List.drop_eq_nil_of_le (by omega), swAll]
    have h := spec_sw_put st N (by omega) hsx st.length 0 o (by omega) ho hq
    rw [List.drop_zero] at h
    refine Ev.step (fun k => ?_) h
    simp only [spec_SweepMagazine.l0]
    rw [if_neg (by omega)]
    rfl
  | succ d ih =>
    intro i o st hi ho hq hz hs hsx
    have hi' : i < m.length := by omega
    have hc := hch _ (List.getElem_mem hi')
    have h := spec_sw_inner m (m.length : Int) N i (by omega) hN m[i] hc.1 hc.2 (fun s => swEnd (swAll ((i + 1 : Nat) : Int) s (m.drop (i + 1)))) (fun o st a1 a2 a3 a4 a5 => ih (i + 1) o st (by omega) a1 a2 (fun q hq => a3 q (by omega)) (by omega) a5) m[i].length 0 o st (by omega) ho hq (by rw [hz i (Nat.le_refl _)]; simp) (fun q hq2 => hz q (by omega)) (by omega) hsx
    rw [List.drop_zero] at h
    rw [List.drop_eq_getElem_cons hi', swAll]
    refine Ev.step (fun k => ?_) h
    simp only [spec_SweepMagazine.l0]
    rw [if_pos (by omega), if_pos (by omega), if_pos (by omega), rdL7_nat m i hi']
    rfl
def sweepMagazine (a : ByteArray) (ws cs : List Int) (m : List (List S30)) : List (List S30) × Int × Bool := if magazineOk a ws cs m = true then swEnd (swAll 0 (List.replicate m.length [], []) m) else ([], 0, false)
theorem getD_empty (n q : Nat) : (List.replicate n ([] : List S30)).getD q [] = [] := by
  rw [List.getD_eq_getElem?_getD, List.getElem?_replicate]
  split <;> rfl
theorem impl_SweepMagazine_ev (a : ByteArray) (ws cs : List Int) (m : List (List S30)) (hl : cs.length ≤ 1099511627776) : Ev (fun k => impl_SweepMagazine.f k a ws cs m) (sweepMagazine a ws cs m) := by
  obtain ⟨K, f⟩ := impl_MagazineOk_ev a ws cs m hl
  replace f : ∀ k, K ≤ k → impl_MagazineOk.f k a ws cs m = some (magazineOk a ws cs m) := f
  unfold sweepMagazine
  by_cases h : magazineOk a ws cs m = true
  · obtain ⟨h1, h2, h3⟩ := mag_rows a ws cs m h
    have hm := mag_len a ws cs m h
    obtain ⟨K2, f2⟩ := impl_sw_loop m m.length (by omega) rfl (fun ch hc => ⟨(h3 ch hc).1, fun x hx => by have := (h3 ch hc).2 x hx; omega⟩) m.length 0 (List.replicate m.length []) [] (by omega) (by simp) (fun q => by rw [getD_empty]; simp) (fun q _ => getD_empty _ _) (by simp) (by simp)
    rw [List.drop_zero] at f2
    rw [if_pos h]
    refine ⟨K + K2, fun k hk => ?_⟩
    simp only [impl_SweepMagazine.f, f k (by omega), h, Option.bind_some, if_true]
    rw [if_pos (by omega), if_pos (by omega), Int.toNat_natCast]
    exact f2 k (by omega)
  · rw [if_neg h]
    refine ⟨K, fun k hk => ?_⟩
    simp only [impl_SweepMagazine.f, f k hk, Option.bind_some, if_neg h]
theorem spec_SweepMagazine_ev (a : ByteArray) (ws cs : List Int) (m : List (List S30)) (hl : cs.length ≤ 1099511627776) : Ev (fun k => spec_SweepMagazine.f k a ws cs m) (sweepMagazine a ws cs m) := by
  obtain ⟨K, f⟩ := spec_MagazineOk_ev a ws cs m hl
  replace f : ∀ k, K ≤ k → spec_MagazineOk.f k a ws cs m = some (magazineOk a ws cs m) := f
  unfold sweepMagazine
  by_cases h : magazineOk a ws cs m = true
  · obtain ⟨h1, h2, h3⟩ := mag_rows a ws cs m h
    have hm := mag_len a ws cs m h
    obtain ⟨K2, f2⟩ := spec_sw_loop m m.length (by omega) rfl (fun ch hc => ⟨(h3 ch hc).1, fun x hx => by have := (h3 ch hc).2 x hx; omega⟩) m.length 0 (List.replicate m.length []) [] (by omega) (by simp) (fun q => by rw [getD_empty]; simp) (fun q _ => getD_empty _ _) (by simp) (by simp)
    rw [List.drop_zero] at f2
    rw [if_pos h]
    refine ⟨K + K2, fun k hk => ?_⟩
    simp only [spec_SweepMagazine.f, f k (by omega), h, Option.bind_some, if_true]
    rw [if_pos (by omega), if_pos (by omega), Int.toNat_natCast]
    exact f2 k (by omega)
  · rw [if_neg h]
    refine ⟨K, fun k hk => ?_⟩
    simp only [spec_SweepMagazine.f, f k hk, Option.bind_some, if_neg h]
theorem swRow_rows (i : Int) : ∀ (ch : List S30) (s : List (List S30) × List S30) (c : Nat), (∀ q, (s.1.getD q []).length ≤ c) → (swRow i s ch).1.length = s.1.length ∧ ∀ q, ((swRow i s ch).1.getD q []).length ≤ c + ch.length
  | [], s, c, h => ⟨rfl, fun q => by have := h q; simpa [swRow] using this⟩
  | x :: r, s, c, h => by
    rw [swRow]
    by_cases e : x.f0 = i
    · rw [if_pos e]
      have h2 := swRow_rows i r (s.1.set i.toNat (s.1.getD i.toNat [] ++ [x]), s.2) (c + 1) (fun q => by
        show ((s.1.set i.toNat (s.1.getD i.toNat [] ++ [x])).getD q []).length ≤ c + 1
        rw [getD_set]
        split
        · have := h i.toNat; rw [List.length_append, List.length_singleton]; omega
        · have := h q; omega)
      refine ⟨by rw [h2.1]; simp, fun q => ?_⟩
      have := h2.2 q
      rw [List.length_cons]; omega
    · rw [if_neg e]
      have h2 := swRow_rows i r (s.1, s.2 ++ [x]) c h
      refine ⟨h2.1, fun q => ?_⟩
      have := h2.2 q
      rw [List.length_cons]; omega
theorem swAll_rows (C : Nat) : ∀ (m : List (List S30)) (i : Int) (s : List (List S30) × List S30) (c : Nat), (∀ ch ∈ m, ch.length ≤ C) → (∀ q, (s.1.getD q []).length ≤ c) → (swAll i s m).1.length = s.1.length ∧ ∀ q, ((swAll i s m).1.getD q []).length ≤ c + m.length * C
  | [], i, s, c, _, h => ⟨rfl, fun q => by have := h q; simpa [swAll] using this⟩
  | ch :: r, i, s, c, hm, h => by
    rw [swAll]
    have h1 := swRow_rows i ch s c h
    have h2 := swAll_rows C r (i + 1) (swRow i s ch) (c + ch.length) (fun x hx => hm x (List.mem_cons_of_mem _ hx)) h1.2
    have h3 := hm ch List.mem_cons_self
    refine ⟨by rw [h2.1, h1.1], fun q => ?_⟩
    have := h2.2 q
    rw [List.length_cons, Nat.add_mul, Nat.one_mul]; omega
theorem swPut_rows : ∀ (st : List S30) (o o' : List (List S30)) (c : Nat), 20 ≤ c → (∀ q, (o.getD q []).length ≤ c) → swPut o st = some o' → o'.length = o.length ∧ ∀ q, (o'.getD q []).length ≤ c + st.length
  | [], o, o', c, hc, h, e => by
    rw [swPut] at e
    obtain rfl := Option.some.inj e
    exact ⟨rfl, fun q => by have := h q; simpa using this⟩
  | x :: r, o, o', c, hc, h, e => by
    rw [swPut] at e
    by_cases h20 : (o.getD x.f0.toNat []).length = 20
    · rw [if_pos h20] at e; cases e
    rw [if_neg h20] at e
    have h2 := swPut_rows r _ o' (c + 1) (by omega) (fun q => by
      rw [getD_set]
      split
      · have := h x.f0.toNat; rw [List.length_append, List.length_singleton]; omega
      · have := h q; omega) e
    refine ⟨by rw [h2.1, List.length_set], fun q => ?_⟩
    have := h2.2 q
    rw [List.length_cons]; omega
theorem swRow_st (i : Int) : ∀ (ch : List S30) (s : List (List S30) × List S30), (swRow i s ch).2.length ≤ s.2.length + ch.length
  | [], s => by simp [swRow]
  | x :: r, s => by
    rw [swRow]
    by_cases e : x.f0 = i
    · rw [if_pos e]
      have := swRow_st i r (s.1.set i.toNat (s.1.getD i.toNat [] ++ [x]), s.2)
      rw [List.length_cons]; simp only at this; omega
    · rw [if_neg e]
      have := swRow_st i r (s.1, s.2 ++ [x])
      rw [List.length_cons]; simp only [List.length_append, List.length_singleton] at this; omega
theorem swAll_st (C : Nat) : ∀ (m : List (List S30)) (i : Int) (s : List (List S30) × List S30), (∀ ch ∈ m, ch.length ≤ C) → (swAll i s m).2.length ≤ s.2.length + m.length * C
  | [], i, s, _ => by simp [swAll]
  | ch :: r, i, s, hm => by
    rw [swAll]
    have h1 := swRow_st i ch s
    have h2 := swAll_st C r (i + 1) (swRow i s ch) (fun x hx => hm x (List.mem_cons_of_mem _ hx))
    have h3 := hm ch List.mem_cons_self
    rw [List.length_cons, Nat.add_mul, Nat.one_mul]; omega
theorem sweepMagazine_rows0 (a : ByteArray) (ws cs : List Int) (m : List (List S30)) : (sweepMagazine a ws cs m).1.length ≤ 40 ∧ ∀ q, ((sweepMagazine a ws cs m).1.getD q []).length ≤ 10000 := by
  unfold sweepMagazine
  by_cases h : magazineOk a ws cs m = true
  case neg => rw [if_neg h]; simp
  rw [if_pos h]
  obtain ⟨h1, h2, h3, h4⟩ := mag_rows2 a ws cs m h
  have r1 := swAll_rows 20 m 0 (List.replicate m.length [], []) 20 h4 (fun q => by simp only [getD_empty]; simp)
  have r2 := swAll_st 20 m 0 (List.replicate m.length [], []) h4
  simp only [List.length_replicate, List.length_nil] at r1 r2
  have hmul : m.length * 20 ≤ 40 * 20 := Nat.mul_le_mul_right _ h1
  unfold swEnd
  cases e : swPut (swAll 0 (List.replicate m.length [], []) m).1 (swAll 0 (List.replicate m.length [], []) m).2 with
  | none => simp [swFin]
  | some o =>
    have r3 := swPut_rows _ _ o (20 + m.length * 20) (by omega) r1.2 e
    refine ⟨by simp only [swFin]; rw [r3.1, r1.1]; exact h1, fun q => ?_⟩
    have := r3.2 q
    simp only [swFin]
    omega
theorem sweepMagazine_rows (a : ByteArray) (ws cs : List Int) (m : List (List S30)) : (sweepMagazine a ws cs m).1.length ≤ 10000 ∧ ∀ r ∈ (sweepMagazine a ws cs m).1, r.length ≤ 10000 := by
  obtain ⟨h1, h2⟩ := sweepMagazine_rows0 a ws cs m
  refine ⟨by omega, fun r hr => ?_⟩
  obtain ⟨j, hj, rfl⟩ := List.getElem_of_mem hr
  have := h2 j
  rwa [List.getD_eq_getElem?_getD, List.getElem?_eq_getElem hj] at this
end Go.Proofs.Ytilbngklgjjblaa.Q
