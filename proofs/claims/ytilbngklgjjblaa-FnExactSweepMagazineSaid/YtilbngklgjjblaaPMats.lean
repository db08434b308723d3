/- The statements' helpers over lists of matrices: a copy, equality, the size. Conditions: those that each lemma names. -/
import Derived.Test.YtilbngklgjjblaaP0
import Derived.Test.YtilbngklgjjblaaQ0
import Derived.Test.YtilbngklgjjblaaQ1
import Derived.Test.YtilbngklgjjblaaQ2
import Derived.Test.YtilbngklgjjblaaQ3
import Derived.Test.YtilbngklgjjblaaQ4
namespace Go.Proofs.Ytilbngklgjjblaa.Q
open Go.RowKit Go.Proofs.YtilbngklgjjblaaW.PrintWords Go.Proofs.YtilbngklgjjblaaW.PrintLast Go.Proofs.YtilbngklgjjblaaW.PrintMore
set_option linter.unusedVariables false
set_option linter.unusedSimpArgs false
def conv (x : S48) : S30 := ⟨x.f0, x.f1⟩
theorem rd48_nat (l : List S48) (i : Nat) (h : i < l.length) : rd_T48 l (i : Int) = l[i] := by simp [rd_T48, List.getD_eq_getElem?_getD, h]
theorem rd30_nat (l : List S30) (i : Nat) (h : i < l.length) : rd_T30 l (i : Int) = l[i] := by simp [rd_T30, List.getD_eq_getElem?_getD, h]
theorem rdL9_nat (l : List (List S48)) (i : Nat) (h : i < l.length) : rd_L2 l (i : Int) = l[i] := by simp [rd_L2, List.getD_eq_getElem?_getD, h]
theorem rdL7_nat (l : List (List S30)) (i : Nat) (h : i < l.length) : rd_L4 l (i : Int) = l[i] := by simp [rd_L4, List.getD_eq_getElem?_getD, h]
theorem toMatrixS_ev (l : List S48) (hl : l.length ≤ 1099511627776) : Ev (fun k => laws_toMatrixS.f k l) (l.map conv) := by
  have main : ∀ i (x3 : List S30), i ≤ l.length → (x3.length = l.length ∧ ∀ j (h : j < l.length), j < i → x3[j]? = some (conv l[j])) → Ev (fun k => laws_toMatrixS.l0 k l x3 (i : Int)) (l.map conv) := by
    refine ev_down (fun k x3 i => laws_toMatrixS.l0 k l x3 i) l.length (fun i x3 => x3.length = l.length ∧ ∀ j (h : j < l.length), j < i → x3[j]? = some (conv l[j])) (fun _ _ => l.map conv) ?_ ?_
    · intro x3 ⟨h1, h2⟩
      have : x3 = l.map conv := by
        apply List.ext_getElem (by rw [h1, List.length_map])
        intro j hj1 hj2
        have := h2 j (by omega) (by omega)
        rw [List.getElem?_eq_getElem hj1] at this
        rw [List.getElem_map]
        exact Option.some.inj this
      subst this
      exact ev_step1 (fun k => by simp only [laws_toMatrixS.l0]; rw [if_neg (by omega)])
    · intro i x3 hi ⟨h1, h2⟩ ih
      refine Ev.step (f := fun k => laws_toMatrixS.l0 k l (x3.set (i : Int).toNat (conv l[i])) ((i + 1 : Nat) : Int)) (fun k => ?_) (ih (x3.set (i : Int).toNat (conv l[i])) ⟨by simpa using h1, ?_⟩)
      · simp only [laws_toMatrixS.l0, laws_toMatrix.f, Option.bind_some]
        rw [if_pos (by omega), if_pos (by omega), if_pos (by omega), rd48_nat l i hi, w1 i (by omega)]
        rfl
      · intro j hj hji
        rw [Int.toNat_natCast, List.getElem?_set]
        by_cases e : i = j
        · subst e; rw [if_pos rfl, if_pos (by omega)]
        · rw [if_neg e]; exact h2 j hj (by omega)
  have h := main 0 (List.replicate l.length z30) (by omega) ⟨by simp, fun j _ hj => absurd hj (Nat.not_lt_zero j)⟩
  refine ev_eq h (fun k => ?_)
  simp only [laws_toMatrixS.f]
  rw [if_pos (by omega), if_pos (by omega), Int.toNat_natCast]
  rfl
theorem toMatrixSS_ev (m : List (List S48)) (hl : m.length ≤ 1099511627776) (hr : ∀ r ∈ m, r.length ≤ 1099511627776) : Ev (fun k => laws_toMatrixSS.f k m) (m.map (List.map conv)) := by
  have main : ∀ i (x3 : List (List S30)), i ≤ m.length → (x3.length = m.length ∧ ∀ j (h : j < m.length), j < i → x3[j]? = some (m[j].map conv)) → Ev (fun k => laws_toMatrixSS.l0 k m x3 (i : Int)) (m.map (List.map conv)) := by
    refine ev_down (fun k x3 i => laws_toMatrixSS.l0 k m x3 i) m.length (fun i x3 => x3.length = m.length ∧ ∀ j (h : j < m.length), j < i → x3[j]? = some (m[j].map conv)) (fun _ _ => m.map (List.map conv)) ?_ ?_
    · intro x3 ⟨h1, h2⟩
      have : x3 = m.map (List.map conv) := by
        apply List.ext_getElem (by rw [h1, List.length_map])
        intro j hj1 hj2
        have := h2 j (by omega) (by omega)
        rw [List.getElem?_eq_getElem hj1] at this
        rw [List.getElem_map]
        exact Option.some.inj this
      subst this
      exact ev_step1 (fun k => by simp only [laws_toMatrixSS.l0]; rw [if_neg (by omega)])
    · intro i x3 hi ⟨h1, h2⟩ ih
      have hrow := toMatrixS_ev m[i] (hr m[i] (List.getElem_mem hi))
      refine Ev.step (f := fun k => (laws_toMatrixS.f k m[i]).bind fun t => if (i : Int) < (x3.length : Int) then laws_toMatrixSS.l0 k m (x3.set (i : Int).toNat t) ((i + 1 : Nat) : Int) else none) (fun k => ?_) (Ev.bind (f := fun k t => if (i : Int) < (x3.length : Int) then laws_toMatrixSS.l0 k m (x3.set (i : Int).toNat t) ((i + 1 : Nat) : Int) else none) hrow (ev_eq (ih (x3.set (i : Int).toNat (m[i].map conv)) ⟨by simpa using h1, ?_⟩) (fun k => by rw [if_pos (by omega)])))
      · simp only [laws_toMatrixSS.l0]
        rw [if_pos (by omega), if_pos (by omega), rdL9_nat m i hi, w1 i (by omega)]
      · intro j hj hji
        rw [Int.toNat_natCast, List.getElem?_set]
        by_cases e : i = j
        · subst e; rw [if_pos rfl, if_pos (by omega)]
        · rw [if_neg e]; exact h2 j hj (by omega)
  have h := main 0 (List.replicate m.length []) (by omega) ⟨by simp, fun j _ hj => absurd hj (Nat.not_lt_zero j)⟩
  refine ev_eq h (fun k => ?_)
  simp only [laws_toMatrixSS.f]
  rw [if_pos (by omega), if_pos (by omega), Int.toNat_natCast]
  rfl
theorem eqMatrixS_ev (l : List S30) (hl : l.length ≤ 1099511627776) : Ev (fun k => laws_eqMatrixS.f k l l) true := by
  have main : ∀ d i, i + d = l.length → Ev (fun k => laws_eqMatrixS.l0 k l l (i : Int)) true := by
    intro d
    induction d with
    | zero =>
      intro i hi
      exact ev_step1 (fun k => by simp only [laws_eqMatrixS.l0]; rw [if_neg (by omega)])
    | succ d ih =>
      intro i hi
      refine Ev.step (fun k => ?_) (ih (i + 1) (by omega))
      simp only [laws_eqMatrixS.l0, laws_eqMatrix.f, if_true, Option.bind_some]
      rw [if_pos (by omega), if_pos (by omega), if_pos (by omega), w1 i (by omega)]
  refine ev_eq (main l.length 0 (by omega)) (fun k => ?_)
  simp only [laws_eqMatrixS.f, if_true]
  rfl
theorem eqMatrixSS_ev (m : List (List S30)) (hl : m.length ≤ 1099511627776) (hr : ∀ r ∈ m, r.length ≤ 1099511627776) : Ev (fun k => laws_eqMatrixSS.f k m m) true := by
  have main : ∀ d i, i + d = m.length → Ev (fun k => laws_eqMatrixSS.l0 k m m (i : Int)) true := by
    intro d
    induction d with
    | zero =>
      intro i hi
      exact ev_step1 (fun k => by simp only [laws_eqMatrixSS.l0]; rw [if_neg (by omega)])
    | succ d ih =>
      intro i hi
      have hi' : i < m.length := by omega
      have hrow := eqMatrixS_ev m[i] (hr m[i] (List.getElem_mem hi'))
      refine Ev.step (f := fun k => (laws_eqMatrixS.f k m[i] m[i]).bind fun t => if t = true then laws_eqMatrixSS.l0 k m m ((i + 1 : Nat) : Int) else some false) (fun k => ?_) (Ev.bind (f := fun k t => if t = true then laws_eqMatrixSS.l0 k m m ((i + 1 : Nat) : Int) else some false) hrow (ev_eq (ih (i + 1) (by omega)) (fun k => by rw [if_pos rfl])))
      simp only [laws_eqMatrixSS.l0]
      rw [if_pos (by omega), if_pos (by omega), if_pos (by omega), rdL7_nat m i hi', w1 i (by omega)]
  refine ev_eq (main m.length 0 (by omega)) (fun k => ?_)
  simp only [laws_eqMatrixSS.f, if_true]
  rfl
theorem szMatrixS_ok (l : List S48) (a : Int) (ha : 0 ≤ a) (ha2 : a ≤ 1048576) (hl : l.length ≤ maxLen) : ∃ t, laws_szMatrixS.f l a = some t ∧ t ≤ 1048576 ∧ (¬ t < 0 → l.length ≤ 1048576) := by
  unfold maxLen at hl
  have e : wrap64 (a - (l.length : Int)) = a - (l.length : Int) := wrap_id _ (by omega) (by omega)
  unfold laws_szMatrixS.f
  rw [e]
  by_cases c : a - (l.length : Int) < 0
  · rw [if_pos c]; exact ⟨-1, rfl, by omega, fun h => absurd (by omega) h⟩
  · rw [if_neg c]; exact ⟨_, rfl, by omega, fun _ => by omega⟩
theorem szMatrixSS_ok (m : List (List S48)) (a : Int) (ha : 0 ≤ a) (ha2 : a ≤ 1048576) (hl : m.length ≤ maxLen) (hr : ∀ r ∈ m, r.length ≤ maxLen) : ∃ t, Ev (fun k => laws_szMatrixSS.f k m a) t ∧ (¬ t < 0 → m.length ≤ 1048576 ∧ ∀ r ∈ m, r.length ≤ 1048576) := by
  have hl' := hl
  unfold maxLen at hl'
  have e : wrap64 (a - (m.length : Int)) = a - (m.length : Int) := wrap_id _ (by omega) (by omega)
  by_cases c : a - (m.length : Int) < 0
  · refine ⟨-1, ev_const (fun k => ?_), fun h => absurd (by omega) h⟩
    simp only [laws_szMatrixSS.f, e]
    rw [if_pos c]
  · have main : ∀ d i (s : Int), i + d = m.length → 0 ≤ s → s ≤ 1048576 → ∃ t, Ev (fun k => laws_szMatrixSS.l0 k m s (i : Int)) t ∧ (¬ t < 0 → ∀ j (h : j < m.length), i ≤ j → m[j].length ≤ 1048576) := by
      intro d
      induction d with
      | zero =>
        intro i s hi h0 h1
        exact ⟨s, ev_step1 (fun k => by simp only [laws_szMatrixSS.l0]; rw [if_neg (by omega)]), fun _ j h hij => by omega⟩
      | succ d ih =>
        intro i s hi h0 h1
        have hi' : i < m.length := by omega
        obtain ⟨t, ht, ht1, ht2⟩ := szMatrixS_ok m[i] s h0 h1 (hr m[i] (List.getElem_mem hi'))
        by_cases hn : t < 0
        · refine ⟨-1, ev_step1 (fun k => ?_), fun h => absurd (by omega) h⟩
          simp only [laws_szMatrixSS.l0]
          rw [if_pos (by omega), if_pos (by omega), rdL9_nat m i hi', ht, Option.bind_some, if_pos hn]
        · obtain ⟨u, hu, hu2⟩ := ih (i + 1) t (by omega) (by omega) ht1
          refine ⟨u, Ev.step (fun k => ?_) hu, fun h j hj hij => ?_⟩
          · simp only [laws_szMatrixSS.l0]
            rw [if_pos (by omega), if_pos (by omega), rdL9_nat m i hi', ht, Option.bind_some, if_neg hn, w1 i (by omega)]
          · by_cases e : j = i
            · subst e; exact ht2 hn
            · exact hu2 h j hj (by omega)
    obtain ⟨t, ht, ht2⟩ := main m.length 0 (a - (m.length : Int)) (by omega) (by omega) (by omega)
    refine ⟨t, ev_eq ht (fun k => ?_), fun h => ⟨by omega, fun r hr => ?_⟩⟩
    · simp only [laws_szMatrixSS.f, e]
      rw [if_neg c]
      rfl
    · obtain ⟨j, hj, rfl⟩ := List.getElem_of_mem hr
      exact ht2 h j hj (Nat.zero_le _)
end Go.Proofs.Ytilbngklgjjblaa.Q
