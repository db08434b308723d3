/- Magazines: what the program's and the reference's MagazineOk give. Conditions: those that each lemma names. -/
import Derived.Test.YtilbngklgjjblaaP0
import Derived.Test.YtilbngklgjjblaaPFont
import Derived.Test.YtilbngklgjjblaaPMatrix
import Derived.Test.YtilbngklgjjblaaPMats
import Derived.Test.YtilbngklgjjblaaQ0
import Derived.Test.YtilbngklgjjblaaQ11
import Derived.Test.YtilbngklgjjblaaQ12
import Derived.Test.YtilbngklgjjblaaQ8
namespace Go.Proofs.Ytilbngklgjjblaa.Q
open Go.RowKit Go.Proofs.YtilbngklgjjblaaW.PrintWords Go.Proofs.YtilbngklgjjblaaW.PrintLast Go.Proofs.YtilbngklgjjblaaW.PrintMore
set_option linter.unusedVariables false
set_option linter.unusedSimpArgs false
theorem all_same {α : Type} (p q : α → Bool) : ∀ l : List α, (∀ x ∈ l, p x = q x) → l.all p = l.all q
  | [], _ => rfl
  | a :: r, h => by rw [List.all_cons, List.all_cons, h a List.mem_cons_self, all_same p q r (fun x hx => h x (List.mem_cons_of_mem _ hx))]
theorem impl_allOf_eq (a : ByteArray) (ws cs : List Int) (l : List S30) (hc : cs.length = a.size) : impl_allOf.f a ws cs l = some (l.all fun x => matB a cs x.f0 x.f1) := by
  unfold impl_allOf.f
  rw [if_pos]
  · congr 1
    refine all_same _ _ l (fun x _ => ?_)
    rw [impl_ofFont_eq a ws cs x.f0 x.f1 hc]
    cases matB a cs x.f0 x.f1 <;> rfl
  · rw [List.all_eq_true]
    intro x _
    rw [impl_ofFont_eq a ws cs x.f0 x.f1 hc]; rfl
/-- Whether all channels hold matrices of a font that is one. -/
def chanB (a : ByteArray) (cs : List Int) (ch : List S30) : Bool := decide (ch.length ≤ 20) && ch.all fun x => matB a cs x.f0 x.f1
def magazineOk (a : ByteArray) (ws cs : List Int) (m : List (List S30)) : Bool := fontB a ws cs && decide (m.length = a.size) && m.all (chanB a cs)
theorem impl_mag_loop (a : ByteArray) (ws cs : List Int) (m : List (List S30)) (hc : cs.length = a.size) (hs : a.size ≤ 40) (hm : m.length = a.size) : ∀ d i, i + d = m.length → Ev (fun k => impl_MagazineOk.l0 k m (m.length : Int) (i : Int) a ws cs) ((m.drop i).all (chanB a cs)) := by
  intro d
  induction d with
  | zero =>
    intro i hi
    rw [List.drop_eq_nil_of_le (by omega)]
    exact ev_step1 (fun k => by simp only [impl_MagazineOk.l0]; rw [if_neg (by omega)]; rfl)
  | succ d ih =>
    intro i hi
    have hi' : i < m.length := by omega
    have h := ih (i + 1) (by omega)
    rw [List.drop_eq_getElem_cons hi', List.all_cons]
    unfold chanB at h ⊢
    by_cases c1 : m[i].length ≤ 20
    · rw [decide_eq_true c1, Bool.true_and]
      cases c2 : m[i].all fun x => matB a cs x.f0 x.f1 with
      | true =>
        rw [Bool.true_and]
        refine Ev.step (fun k => ?_) h
        simp only [impl_MagazineOk.l0]
        rw [if_pos (by omega), if_pos (by omega), if_pos (by omega), rdL7_nat m i hi', if_neg (by omega), impl_allOf_eq a ws cs m[i] hc, c2, Option.bind_some, if_pos rfl, w1 i (by omega)]
      | false =>
        rw [Bool.false_and]
        refine ev_step1 (fun k => ?_)
        simp only [impl_MagazineOk.l0]
        rw [if_pos (by omega), if_pos (by omega), if_pos (by omega), rdL7_nat m i hi', if_neg (by omega), impl_allOf_eq a ws cs m[i] hc, c2, Option.bind_some, if_neg (by decide)]
    · rw [decide_eq_false c1, Bool.false_and, Bool.false_and]
      refine ev_step1 (fun k => ?_)
      simp only [impl_MagazineOk.l0]
      rw [if_pos (by omega), if_pos (by omega), if_pos (by omega), rdL7_nat m i hi', if_pos (by omega)]
theorem spec_mag_inner (a : ByteArray) (ws cs : List Int) (m : List (List S30)) (hc : cs.length = a.size) (hs : a.size ≤ 40) (n : Int) (i : Nat) (hi : i ≤ 40) (ch : List S30) (hch : ch.length ≤ 20) (R : Bool)
    (hR : Ev (fun k => spec_MagazineOk.l0 k m n ((i + 1 : Nat) : Int) a ws cs) R) : ∀ d j, j + d = ch.length → Ev (fun k => spec_MagazineOk.l1 k m n (i : Int) ch (ch.length : Int) (j : Int) a ws cs) ((ch.drop j).all (fun x => matB a cs x.f0 x.f1) && R) := by
  intro d
  induction d with
  | zero =>
    intro j hj
    rw [List.drop_eq_nil_of_le (by omega)]
    refine Ev.step (f := fun k => spec_MagazineOk.l0 k m n ((i + 1 : Nat) : Int) a ws cs) (fun k => ?_) (by simpa using hR)
    simp only [spec_MagazineOk.l1]
    rw [if_neg (by omega), w1 i (by omega)]
  | succ d ih =>
    intro j hj
    have hj' : j < ch.length := by omega
    rw [List.drop_eq_getElem_cons hj', List.all_cons]
    cases c : matB a cs ch[j].f0 ch[j].f1 with
    | true =>
      rw [Bool.true_and]
      refine Ev.step (fun k => ?_) (ih (j + 1) (by omega))
      simp only [spec_MagazineOk.l1]
      rw [if_pos (by omega), if_pos (by omega), if_pos (by omega), rd30_nat ch j hj', spec_l2Matrix_eq a ws cs _ _ hc hs, c, Option.bind_some, if_pos rfl, w1 j (by omega)]
    | false =>
      rw [Bool.false_and, Bool.false_and]
      refine ev_step1 (fun k => ?_)
      simp only [spec_MagazineOk.l1]
      rw [if_pos (by omega), if_pos (by omega), if_pos (by omega), rd30_nat ch j hj', spec_l2Matrix_eq a ws cs _ _ hc hs, c, Option.bind_some, if_neg (by decide)]
theorem spec_mag_loop (a : ByteArray) (ws cs : List Int) (m : List (List S30)) (hc : cs.length = a.size) (hs : a.size ≤ 40) (hm : m.length = a.size) : ∀ d i, i + d = m.length → Ev (fun k => spec_MagazineOk.l0 k m (m.length : Int) (i : Int) a ws cs) ((m.drop i).all (chanB a cs)) := by
  intro d
  induction d with
  | zero =>
    intro i hi
    rw [List.drop_eq_nil_of_le (by omega)]
    exact ev_step1 (fun k => by simp only [spec_MagazineOk.l0]; rw [if_neg (by omega)]; rfl)
  | succ d ih =>
    intro i hi
    have hi' : i < m.length := by omega
    have h := ih (i + 1) (by omega)
    rw [List.drop_eq_getElem_cons hi', List.all_cons]
    unfold chanB at h ⊢
    by_cases c1 : m[i].length ≤ 20
    · rw [decide_eq_true c1, Bool.true_and]
      have hin := spec_mag_inner a ws cs m hc hs (m.length : Int) i (by omega) m[i] c1 _ h m[i].length 0 (by omega)
      rw [List.drop_zero] at hin
      refine Ev.step (fun k => ?_) hin
      simp only [spec_MagazineOk.l0]
      rw [if_pos (by omega), if_pos (by omega), if_pos (by omega), rdL7_nat m i hi', if_neg (by omega)]
      rfl
    · rw [decide_eq_false c1, Bool.false_and, Bool.false_and]
      refine ev_step1 (fun k => ?_)
      simp only [spec_MagazineOk.l0]
      rw [if_pos (by omega), if_pos (by omega), if_pos (by omega), rdL7_nat m i hi', if_pos (by omega)]
theorem impl_MagazineOk_ev (a : ByteArray) (ws cs : List Int) (m : List (List S30)) (hl : cs.length ≤ 1099511627776) : Ev (fun k => impl_MagazineOk.f k a ws cs m) (magazineOk a ws cs m) := by
  obtain ⟨K1, f1⟩ := impl_FontOk_ev a ws cs hl
  unfold magazineOk
  cases hf : fontB a ws cs with
  | true =>
    rw [hf] at f1
    obtain ⟨_, l2, _, l4⟩ := fontB_len a ws cs hf
    by_cases hm : m.length = a.size
    · obtain ⟨K2, f2⟩ := impl_mag_loop a ws cs m l4 l2 hm m.length 0 (by omega)
      rw [List.drop_zero] at f2
      rw [decide_eq_true hm, Bool.true_and, Bool.true_and]
      refine ⟨K1 + K2 + 1, fun k hk => ?_⟩
      obtain ⟨k, rfl⟩ : ∃ q, k = q + 1 := ⟨k - 1, by omega⟩
      simp only [impl_MagazineOk.f, f1 (k + 1) (by omega), Option.bind_some, if_true, impl_MagazineOk.j0]
      rw [if_neg (by simp; omega)]
      exact f2 k (by omega)
    · rw [decide_eq_false hm]
      refine ⟨K1 + 1, fun k hk => ?_⟩
      obtain ⟨k, rfl⟩ : ∃ q, k = q + 1 := ⟨k - 1, by omega⟩
      simp only [impl_MagazineOk.f, f1 (k + 1) (by omega), Option.bind_some, if_true, impl_MagazineOk.j0]
      rw [if_pos (by simp; omega)]
      rfl
  | false =>
    rw [hf] at f1
    refine ⟨K1 + 1, fun k hk => ?_⟩
    obtain ⟨k, rfl⟩ : ∃ q, k = q + 1 := ⟨k - 1, by omega⟩
    simp only [impl_MagazineOk.f, f1 (k + 1) (by omega), Option.bind_some, Bool.false_eq_true, if_false, impl_MagazineOk.j0, if_true, Bool.false_and]
theorem spec_MagazineOk_ev (a : ByteArray) (ws cs : List Int) (m : List (List S30)) (hl : cs.length ≤ 1099511627776) : Ev (fun k => spec_MagazineOk.f k a ws cs m) (magazineOk a ws cs m) := by
  obtain ⟨K1, f1⟩ := spec_FontOk_ev a ws cs hl
  unfold magazineOk
  cases hf : fontB a ws cs with
  | true =>
    rw [hf] at f1
    obtain ⟨_, l2, _, l4⟩ := fontB_len a ws cs hf
    by_cases hm : m.length = a.size
    · obtain ⟨K2, f2⟩ := spec_mag_loop a ws cs m l4 l2 hm m.length 0 (by omega)
      rw [List.drop_zero] at f2
      rw [decide_eq_true hm, Bool.true_and, Bool.true_and]
      refine ⟨K1 + K2 + 1, fun k hk => ?_⟩
      obtain ⟨k, rfl⟩ : ∃ q, k = q + 1 := ⟨k - 1, by omega⟩
      simp only [spec_MagazineOk.f, f1 (k + 1) (by omega), Option.bind_some, if_true, spec_MagazineOk.j0]
      rw [if_neg (by simp; omega)]
      exact f2 k (by omega)
    · rw [decide_eq_false hm]
      refine ⟨K1 + 1, fun k hk => ?_⟩
      obtain ⟨k, rfl⟩ : ∃ q, k = q + 1 := ⟨k - 1, by omega⟩
      simp only [spec_MagazineOk.f, f1 (k + 1) (by omega), Option.bind_some, if_true, spec_MagazineOk.j0]
      rw [if_pos (by simp; omega)]
      rfl
  | false =>
    rw [hf] at f1
    refine ⟨K1 + 1, fun k hk => ?_⟩
    obtain ⟨k, rfl⟩ : ∃ q, k = q + 1 := ⟨k - 1, by omega⟩
    simp only [spec_MagazineOk.f, f1 (k + 1) (by omega), Option.bind_some, Bool.false_eq_true, if_false, spec_MagazineOk.j0, if_true, Bool.false_and]
end Go.Proofs.Ytilbngklgjjblaa.Q
