/- The marks of the statements over matrices and over rows of them: they are laid and held. Conditions: those that each lemma names. -/
import Derived.Test.YtilbngklgjjblaaP0
import Derived.Test.YtilbngklgjjblaaPMarks
import Derived.Test.YtilbngklgjjblaaPMats
import Derived.Test.YtilbngklgjjblaaQ0
import Derived.Test.YtilbngklgjjblaaQ9
namespace Go.Proofs.Ytilbngklgjjblaa.Q
open Go.RowKit Go.Proofs.YtilbngklgjjblaaW.PrintWords Go.Proofs.YtilbngklgjjblaaW.PrintLast Go.Proofs.YtilbngklgjjblaaW.PrintMore
set_option linter.unusedVariables false
set_option linter.unusedSimpArgs false
def marks2 : Int → Nat → List S30
  | _, 0 => []
  | a, n + 1 => ⟨a, a + 1⟩ :: marks2 (a + 2) n
theorem marks2_length (n : Nat) : ∀ a, (marks2 a n).length = n := by
  induction n with
  | zero => intro a; rfl
  | succ n ih => intro a; simp [marks2, ih]
theorem marks2_get (n : Nat) : ∀ (a : Int) (i : Nat) (h : i < (marks2 a n).length), (marks2 a n)[i] = ⟨a + 2 * i, a + 2 * i + 1⟩ := by
  induction n with
  | zero => intro a i h; simp [marks2] at h
  | succ n ih =>
    intro a i h
    cases i with
    | zero => simp [marks2]
    | succ i =>
      simp only [marks2, List.getElem_cons_succ]
      rw [ih]
      rw [show a + 2 + 2 * (i : Int) = a + 2 * ((i + 1 : Nat) : Int) by omega]
def sumL : List Nat → Nat
  | [] => 0
  | n :: r => n + sumL r
def marksSS : Int → List Nat → List (List S30)
  | _, [] => []
  | a, n :: r => marks2 a n :: marksSS (a + 2 * n) r
theorem sumL_le (c : Nat) : ∀ l : List Nat, (∀ n ∈ l, n ≤ c) → sumL l ≤ l.length * c
  | [], _ => by simp [sumL]
  | n :: r, h => by
    have h1 := h n List.mem_cons_self
    have h2 := sumL_le c r (fun x hx => h x (List.mem_cons_of_mem _ hx))
    rw [sumL, List.length_cons, Nat.add_mul, Nat.one_mul]
    omega
theorem markMatrixS_ev (l : List S30) (a : Int) (ha : 0 ≤ a) (ha2 : a + 2 * l.length ≤ 1152921504606846976) : Ev (fun k => laws_markMatrixS.f k l a) (a + 2 * l.length, marks2 a l.length) := by
  have main : ∀ i (s : List S30 × Int), i ≤ l.length → (s.1.length = l.length ∧ s.2 = a + 2 * i ∧ ∀ j, j < i → s.1[j]? = some ⟨a + 2 * j, a + 2 * j + 1⟩) → Ev (fun k => laws_markMatrixS.l0 k s.1 s.2 (i : Int)) (a + 2 * l.length, marks2 a l.length) := by
    refine ev_down (fun k (s : List S30 × Int) i => laws_markMatrixS.l0 k s.1 s.2 i) l.length (fun i s => s.1.length = l.length ∧ s.2 = a + 2 * i ∧ ∀ j, j < i → s.1[j]? = some ⟨a + 2 * j, a + 2 * j + 1⟩) (fun _ _ => (a + 2 * l.length, marks2 a l.length)) ?_ ?_
    · rintro ⟨x0, x1⟩ ⟨h1, h2, h3⟩
      simp only at h1 h2 h3
      subst h2
      have : x0 = marks2 a l.length := by
        apply List.ext_getElem (by rw [h1, marks2_length])
        intro j hj1 hj2
        have := h3 j (by omega)
        rw [List.getElem?_eq_getElem hj1] at this
        rw [marks2_get]
        exact Option.some.inj this
      subst this
      exact ev_step1 (fun k => by simp only [laws_markMatrixS.l0]; rw [if_neg (by omega)])
    · rintro i ⟨x0, x1⟩ hi ⟨h1, h2, h3⟩ ih
      simp only at h1 h2 h3
      subst h2
      have e1 : wrap64 (a + 2 * (i : Int) + 1) = a + 2 * i + 1 := wrap_id _ (by omega) (by omega)
      have e2 : wrap64 (a + 2 * (i : Int) + 1 + 1) = a + 2 * ((i + 1 : Nat) : Int) := by rw [wrap_id _ (by omega) (by omega)]; omega
      refine Ev.step (f := fun k => laws_markMatrixS.l0 k (x0.set i ⟨a + 2 * i, a + 2 * i + 1⟩) (a + 2 * ((i + 1 : Nat) : Int)) ((i + 1 : Nat) : Int)) (fun k => ?_) (ih (x0.set i ⟨a + 2 * i, a + 2 * i + 1⟩, a + 2 * ((i + 1 : Nat) : Int)) ⟨by simpa using h1, rfl, ?_⟩)
      · simp only [laws_markMatrixS.l0]
        rw [if_pos (by omega), if_pos (by omega), Option.bind_some, Int.toNat_natCast, rd30_nat (x0.set i ⟨a + 2 * (i : Int), (rd_T30 x0 (i : Int)).f1⟩) i (by rw [List.length_set]; omega), List.getElem_set_self, List.set_set, w1 i (by omega), e1, e2]
      · intro j hji
        rw [List.getElem?_set]
        by_cases e : i = j
        · subst e; simp [h1, hi]
        · rw [if_neg e]; exact h3 j (by omega)
  exact main 0 (l, a) (by omega) ⟨rfl, by simp, fun j h => absurd h (Nat.not_lt_zero j)⟩
theorem heldMatrixS_ev (n : Nat) (a : Int) (ha : 0 ≤ a) (ha2 : a + 2 * n ≤ 1152921504606846976) : Ev (fun k => laws_heldMatrixS.f k (marks2 a n) a) (a + 2 * n) := by
  have hl := marks2_length n a
  have main : ∀ d i, i + d = n → Ev (fun k => laws_heldMatrixS.l0 k (marks2 a n) (a + 2 * (i : Int)) (i : Int)) (a + 2 * n) := by
    intro d
    induction d with
    | zero =>
      intro i hi
      obtain rfl : i = n := by omega
      exact ev_step1 (fun k => by simp only [laws_heldMatrixS.l0]; rw [if_neg (by omega)])
    | succ d ih =>
      intro i hi
      have e1 : wrap64 (a + 2 * (i : Int) + 1) = a + 2 * i + 1 := wrap_id _ (by omega) (by omega)
      have e2 : wrap64 (a + 2 * (i : Int) + 1 + 1) = a + 2 * ((i + 1 : Nat) : Int) := by rw [wrap_id _ (by omega) (by omega)]; omega
      refine Ev.step (fun k => ?_) (ih (i + 1) (by omega))
      simp only [laws_heldMatrixS.l0]
      rw [if_pos (by omega), if_pos (by omega), rd30_nat _ i (by omega), marks2_get, if_pos rfl, e1, if_pos rfl, e2, w1 i (by omega)]
  have h := main n 0 (by omega)
  simp only [Int.natCast_zero, Int.mul_zero, Int.add_zero] at h
  exact h
theorem at_mid {α : Type} (pre : List α) (x : α) (t : List α) (h : pre.length < (pre ++ x :: t).length) : (pre ++ x :: t)[pre.length] = x := by simp
theorem getD_mid {α : Type} (pre : List α) (x : α) (t : List α) (d : α) : (pre ++ x :: t).getD pre.length d = x := by simp [List.getD_eq_getElem?_getD]
theorem set_mid {α : Type} (pre : List α) (x y : α) (t : List α) : (pre ++ x :: t).set pre.length y = (pre ++ [y]) ++ t := by simp [List.set_append]
theorem marksSS_loop (rest : List (List S30)) : ∀ (pre : List (List S30)) (x : Int), 0 ≤ x → x + 2 * sumL (rest.map List.length) ≤ 1152921504606846976 → pre.length + rest.length ≤ 1099511627776 →
    Ev (fun k => laws_markMatrixSS.l0 k (pre ++ rest) x (pre.length : Int)) (x + 2 * sumL (rest.map List.length), pre ++ marksSS x (rest.map List.length)) := by
  induction rest with
  | nil =>
    intro pre x h0 h1 h2
    refine ev_step1 (fun k => ?_)
    simp only [laws_markMatrixSS.l0]
    rw [if_neg (by simp)]
    simp [sumL, marksSS]
  | cons r t ih =>
    intro pre x h0 h1 h2
    simp only [List.map_cons, sumL, List.length_cons] at h1 h2
    have hr := markMatrixS_ev r x h0 (by omega)
    have h := ih (pre ++ [marks2 x r.length]) (x + 2 * r.length) (by omega) (by omega) (by rw [List.length_append, List.length_singleton]; omega)
    rw [List.length_append, List.length_singleton] at h
    have e : (x + 2 * ((sumL ((r :: t).map List.length) : Nat) : Int), pre ++ marksSS x ((r :: t).map List.length)) = (x + 2 * (r.length : Int) + 2 * (sumL (t.map List.length) : Nat), (pre ++ [marks2 x r.length]) ++ marksSS (x + 2 * (r.length : Int)) (t.map List.length)) := by
      simp only [List.map_cons, sumL, marksSS, List.append_assoc, List.singleton_append, Prod.mk.injEq]
      exact ⟨by omega, trivial⟩
    rw [e]
    refine Ev.step (f := fun k => (laws_markMatrixS.f k r x).bind fun t' => laws_markMatrixSS.l0 k ((pre ++ [t'.2]) ++ t) t'.1 ((pre.length + 1 : Nat) : Int)) (fun k => ?_) (Ev.bind (f := fun k t' => laws_markMatrixSS.l0 k ((pre ++ [t'.2]) ++ t) t'.1 ((pre.length + 1 : Nat) : Int)) hr h)
    simp only [laws_markMatrixSS.l0]
    rw [if_pos (by rw [List.length_append, List.length_cons]; omega), if_pos (by omega), Int.toNat_natCast, getD_mid, w1 pre.length (by omega)]
    simp only [set_mid]
theorem markMatrixSS_ev (m : List (List S30)) (a : Int) (ha : 0 ≤ a) (ha2 : a + 2 * sumL (m.map List.length) ≤ 1152921504606846976) (hl : m.length ≤ 1099511627776) : Ev (fun k => laws_markMatrixSS.f k m a) (a + 2 * sumL (m.map List.length), marksSS a (m.map List.length)) := by
  have h := marksSS_loop m [] a ha ha2 (by simpa using hl)
  exact h
theorem heldSS_loop (rest : List Nat) : ∀ (pre : List (List S30)) (x : Int), 0 ≤ x → x + 2 * sumL rest ≤ 1152921504606846976 → pre.length + rest.length ≤ 1099511627776 →
    Ev (fun k => laws_heldMatrixSS.l0 k (pre ++ marksSS x rest) x (pre.length : Int)) (x + 2 * sumL rest) := by
  induction rest with
  | nil =>
    intro pre x h0 h1 h2
    refine ev_step1 (fun k => ?_)
    simp only [laws_heldMatrixSS.l0]
    rw [if_neg (by simp [marksSS])]
    simp [sumL]
  | cons r t ih =>
    intro pre x h0 h1 h2
    simp only [sumL, List.length_cons] at h1 h2
    have hr := heldMatrixS_ev r x h0 (by omega)
    have h := ih (pre ++ [marks2 x r]) (x + 2 * r) (by omega) (by omega) (by rw [List.length_append, List.length_singleton]; omega)
    rw [List.length_append, List.length_singleton, List.append_assoc, List.singleton_append] at h
    have e : x + 2 * ((sumL (r :: t) : Nat) : Int) = x + 2 * (r : Int) + 2 * (sumL t : Nat) := by simp only [sumL]; omega
    have em : marksSS x (r :: t) = marks2 x r :: marksSS (x + 2 * (r : Int)) t := rfl
    rw [e, em]
    refine Ev.step (f := fun k => (laws_heldMatrixS.f k (marks2 x r) x).bind fun t' => if t' < 0 then some (-1) else laws_heldMatrixSS.l0 k (pre ++ marks2 x r :: marksSS (x + 2 * (r : Int)) t) t' ((pre.length + 1 : Nat) : Int)) (fun k => ?_) (Ev.bind (f := fun k t' => if t' < 0 then some (-1) else laws_heldMatrixSS.l0 k (pre ++ marks2 x r :: marksSS (x + 2 * (r : Int)) t) t' ((pre.length + 1 : Nat) : Int)) hr (ev_eq h (fun k => by rw [if_neg (by omega)])))
    simp only [laws_heldMatrixSS.l0]
    have hlt : pre.length < (pre ++ marks2 x r :: marksSS (x + 2 * (r : Int)) t).length := by rw [List.length_append, List.length_cons]; omega
    rw [if_pos (by omega), if_pos (by omega), rdL7_nat _ _ hlt, at_mid, w1 pre.length (by omega)]
theorem heldMatrixSS_ev (l : List Nat) (a : Int) (ha : 0 ≤ a) (ha2 : a + 2 * sumL l ≤ 1152921504606846976) (hl : l.length ≤ 1099511627776) : Ev (fun k => laws_heldMatrixSS.f k (marksSS a l) a) (a + 2 * sumL l) := by
  have h := heldSS_loop l [] a ha ha2 (by simpa using hl)
  exact h
theorem markFont_ev (a : ByteArray) (ws cs : List Int) (x : Int) (hx : 0 ≤ x) (hx2 : x ≤ 1048576) (h2 : ws.length ≤ 1099511627776 - 1048576) (h3 : cs.length ≤ 1099511627776) : Ev (fun k => laws_markFont.f k a ws cs x) (x + ws.length + cs.length, marks x ws.length, marks (x + ws.length) cs.length) := by
  obtain ⟨K1, f1⟩ := markIntS_ev ws x hx (by omega) (by omega)
  obtain ⟨K2, f2⟩ := markIntS_ev cs (x + ws.length) (by omega) (by omega) (by omega)
  refine ⟨K1 + K2, fun k hk => ?_⟩
  replace f1 : laws_markIntS.f k ws x = _ := f1 k (by omega)
  replace f2 : laws_markIntS.f k cs (x + ws.length) = _ := f2 k (by omega)
  simp only [laws_markFont.f, f1, f2, Option.bind_some]
end Go.Proofs.Ytilbngklgjjblaa.Q
