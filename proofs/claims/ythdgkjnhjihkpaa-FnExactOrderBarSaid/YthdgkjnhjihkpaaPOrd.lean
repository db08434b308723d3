/- The order of a bar: the sets that are left, taken one by one. Conditions: those that each lemma names. -/
import Derived.Test.YthdgkjnhjihkpaaP0
import Derived.Test.YthdgkjnhjihkpaaPBar
import Derived.Test.YthdgkjnhjihkpaaPDrawT
import Derived.Test.YthdgkjnhjihkpaaPDup
import Derived.Test.YthdgkjnhjihkpaaPOrders
import Derived.Test.YthdgkjnhjihkpaaQ2
import Derived.Test.YthdgkjnhjihkpaaQ3
namespace Go.Proofs.Ythdgkjnhjihkpaa.Q
open Go.RowKit Go.Proofs.YthdgkjnhjihkpaaW.PrintWords Go.Proofs.YthdgkjnhjihkpaaW.PrintLast Go.Proofs.YthdgkjnhjihkpaaW.PrintMore
set_option linter.unusedVariables false
set_option linter.unusedSimpArgs false
/-- Is no other one of a list part of a set? -/
def minIn (L : List Int) (s : Int) : Bool := !(L.any fun t => !(t == s) && partB t s)
theorem minIn_iff (L : List Int) (s : Int) : minIn L s = true ↔ ∀ t ∈ L, t ≠ s → partB t s = false := by
  unfold minIn
  simp only [Bool.not_eq_true', List.any_eq_false, Bool.and_eq_true, Bool.not_eq_true', beq_eq_false_iff_ne]
  constructor
  · intro h t ht hne
    cases hp : partB t s with
    | false => rfl
    | true => exact absurd ⟨hne, hp⟩ (h t ht)
  · rintro h t ht ⟨hne, hp⟩
    rw [h t ht hne] at hp
    exact absurd hp (by decide)
/-- The sets in order: each time the first one of those that are left. -/
def ordI : Nat → List Int → List Int → Option (List Int)
  | 0, L, out => if L = [] then some out else none
  | c + 1, L, out => if L = [] then some out else if L.findIdx (minIn L) < L.length then ordI c (L.eraseIdx (L.findIdx (minIn L))) (out ++ [L.getD (L.findIdx (minIn L)) 0]) else none
/-- The elements that are marked. -/
def kept : List Int → List Bool → List Int
  | x :: r, t :: q => if t = true then x :: kept r q else kept r q
  | _, _ => []
theorem kept_len : ∀ (l : List Int) (b : List Bool), b.length = l.length → (kept l b).length = b.count true
  | [], [], _ => rfl
  | [], _ :: _, h => absurd h (by simp)
  | _ :: _, [], h => absurd h (by simp)
  | x :: r, t :: q, h => by
    have ih := kept_len r q (by simpa using h)
    rw [kept]
    cases t with
    | true => simp [ih]
    | false => simp [ih]
theorem kept_mem : ∀ (l : List Int) (b : List Bool), b.length = l.length → ∀ t, t ∈ kept l b ↔ ∃ m, ∃ h : m < l.length, b.getD m false = true ∧ l[m] = t
  | [], [], _, t => by simp [kept]
  | [], _ :: _, h, _ => absurd h (by simp)
  | _ :: _, [], h, _ => absurd h (by simp)
  | x :: r, u :: q, h, t => by
    have ih := kept_mem r q (by simpa using h) t
    have key : (∃ m, ∃ h : m < (x :: r).length, (u :: q).getD m false = true ∧ (x :: r)[m] = t) ↔ (u = true ∧ x = t) ∨ (∃ m, ∃ h : m < r.length, q.getD m false = true ∧ r[m] = t) := by
      constructor
      · rintro ⟨m, hm, h1, h2⟩
        cases m with
        | zero => left; exact ⟨by simpa using h1, by simpa using h2⟩
        | succ m => right; exact ⟨m, by simpa using hm, by simpa using h1, by simpa using h2⟩
      · rintro (⟨h1, h2⟩ | ⟨m, hm, h1, h2⟩)
        · exact ⟨0, by simp, by simpa using h1, by simpa using h2⟩
        · exact ⟨m + 1, by simpa using hm, by simpa using h1, by simpa using h2⟩
    rw [key, kept]
    cases u with
    | true =>
      rw [if_pos rfl, List.mem_cons, ih]
      constructor
      · rintro (h | h)
        · exact Or.inl ⟨rfl, h.symm⟩
        · exact Or.inr h
      · rintro (⟨_, h⟩ | h)
        · exact Or.inl h.symm
        · exact Or.inr h
    | false =>
      rw [if_neg (by decide), ih]
      constructor
      · exact Or.inr
      · rintro (⟨h, _⟩ | h)
        · cases h
        · exact h
/-- The first marked element at which something holds, among all and among the marked. -/
theorem kept_first (p : Int → Bool) : ∀ (l : List Int) (b : List Bool) (i : Nat) (hi : i < l.length), b.length = l.length → b.getD i false = true → p l[i] = true → (∀ m (h : m < l.length), m < i → b.getD m false = true → p l[m] = false) →
    (kept l b).findIdx p < (kept l b).length ∧ (kept l b).getD ((kept l b).findIdx p) 0 = l[i] ∧ (kept l b).eraseIdx ((kept l b).findIdx p) = kept l (b.set i false)
  | [], _, i, hi, _, _, _, _ => absurd hi (Nat.not_lt_zero _)
  | _ :: _, [], _, _, h, _, _, _ => absurd h (by simp)
  | x :: r, t :: q, 0, hi, hl, hb, hp, hn => by
    have ht : t = true := by simpa using hb
    have hx : p x = true := by simpa using hp
    subst ht
    rw [kept, if_pos rfl, List.findIdx_cons, hx]
    simp [kept]
  | x :: r, t :: q, i + 1, hi, hl, hb, hp, hn => by
    have ih := kept_first p r q i (by simpa using hi) (by simpa using hl) (by simpa using hb) (by simpa using hp) (fun m h1 h2 h3 => by
      have := hn (m + 1) (by simpa using h1) (by omega) (by simpa using h3)
      simpa using this)
    cases t with
    | true =>
      have hx : p x = false := by
        have := hn 0 (by simp) (by omega) (by simp)
        simpa using this
      rw [kept, if_pos rfl, List.findIdx_cons, hx, List.set_cons_succ, kept, if_pos rfl]
      simp only [cond_false, List.length_cons, List.getElem_cons_succ, List.eraseIdx_cons_succ, List.getD_cons_succ]
      exact ⟨by omega, ih.2.1, by rw [ih.2.2]⟩
    | false =>
      rw [kept, if_neg (by decide), List.set_cons_succ, kept, if_neg (by decide)]
      exact ih
theorem ff_all (l : List Int) (b : Nat → Bool) (j : Nat) : ∀ c i, ff l b j i c = true → ∀ m, i ≤ m → m < i + c → m ≠ j → b m = true → partB (l.getD m 0) (l.getD j 0) = false
  | 0, i, _ => fun m h1 h2 => by omega
  | c + 1, i, h => fun m h1 h2 h3 h4 => by
    rw [ff] at h
    by_cases e : i = j
    · rw [if_pos e] at h
      exact ff_all l b j c (i + 1) h m (by omega) (by omega) h3 h4
    · rw [if_neg e] at h
      by_cases hb : b i = true
      · rw [if_pos hb] at h
        by_cases hp : partB (l.getD i 0) (l.getD j 0) = true
        · rw [if_pos hp] at h; cases h
        · rw [if_neg hp] at h
          by_cases e2 : m = i
          · subst e2; simpa using hp
          · exact ff_all l b j c (i + 1) h m (by omega) (by omega) h3 h4
      · rw [if_neg hb] at h
        by_cases e2 : m = i
        · subst e2; exact absurd h4 hb
        · exact ff_all l b j c (i + 1) h m (by omega) (by omega) h3 h4
theorem min_ff (l : List Int) (hd : dupFrom l 0 l = false) (b : List Bool) (hb : b.length = l.length) (i : Nat) (hi : i < l.length) : minIn (kept l b) l[i] = ff l (fun i => b.getD i false) i 0 l.length := by
  rw [Bool.eq_iff_iff, minIn_iff]
  constructor
  · intro h
    refine ff_true l _ i l.length 0 (fun m _ h2 h3 h4 => ?_)
    have hm : m < l.length := by omega
    rw [getD_nat l m hm, getD_nat l i hi]
    exact h l[m] ((kept_mem l b hb _).2 ⟨m, hm, h4, rfl⟩) (no_two l hd m i hm hi h3)
  · intro h t ht hne
    obtain ⟨m, hm, hbm, rfl⟩ := (kept_mem l b hb t).1 ht
    have := ff_all l _ i l.length 0 h m (Nat.zero_le _) (by omega) (fun e => by subst e; exact hne rfl) hbm
    rw [getD_nat l m hm, getD_nat l i hi] at this
    exact this
theorem order_l2v (l : List Int) (b : List Bool) (out : List Int) (R : List Int × Bool) (hb : b.length = l.length) (hn : l.length ≤ 1000) (ho : out.length ≤ 1000) (j : Nat) (hj : j < l.length)
    (hbj : b.getD j false = true) (hfj : ff l (fun i => b.getD i false) j 0 l.length = true) (hmin : ∀ m, m < j → b.getD m false = true → ff l (fun i => b.getD i false) m 0 l.length = false)
    (hnext : Ev (fun k => spec_OrderBar.l1 k l (b.set j false) (out ++ [l[j]])) R) :
    ∀ d i, j - i = d → i ≤ j → Ev (fun k => spec_OrderBar.l2 k l b out l (l.length : Int) (i : Int)) R := by
  have hr : ∀ i : Nat, rdOf false b (i : Int) = b.getD i false := fun i => by simp [rdOf]
  intro d
  induction d with
  | zero =>
    intro i hd hij
    obtain rfl : i = j := by omega
    have hfree := free_ev l b i hb hn hj
    rw [hfj] at hfree
    refine Ev.step (f := fun k => (spec_l1Free.f k l b (i : Int)).bind fun t => if t = true then spec_OrderBar.l1 k l (b.set i false) (out ++ [l[i]]) else spec_OrderBar.l2 k l b out l (l.length : Int) ((i + 1 : Nat) : Int)) (fun k => ?_) (Ev.bind (f := fun k t => if t = true then spec_OrderBar.l1 k l (b.set i false) (out ++ [l[i]]) else spec_OrderBar.l2 k l b out l (l.length : Int) ((i + 1 : Nat) : Int)) hfree (ev_eq hnext (fun k => by rw [if_pos rfl])))
    simp only [spec_OrderBar.l2]
    rw [if_pos (by omega), if_pos (by omega), if_pos (by omega), if_pos (by omega), hr, if_pos hbj, if_pos (show out.length < 17592186044416 by omega), rd_nat l i hj, w1 i (by omega), Int.toNat_natCast]
  | succ d ih =>
    intro i hd hij
    have hi : i < l.length := by omega
    have h := ih (i + 1) (by omega) (by omega)
    by_cases hbi : b.getD i false = true
    · have hfree := free_ev l b i hb hn hi
      rw [hmin i (by omega) hbi] at hfree
      refine Ev.step (f := fun k => (spec_l1Free.f k l b (i : Int)).bind fun t => if t = true then spec_OrderBar.l1 k l (b.set i false) (out ++ [l[i]]) else spec_OrderBar.l2 k l b out l (l.length : Int) ((i + 1 : Nat) : Int)) (fun k => ?_) (Ev.bind (f := fun k t => if t = true then spec_OrderBar.l1 k l (b.set i false) (out ++ [l[i]]) else spec_OrderBar.l2 k l b out l (l.length : Int) ((i + 1 : Nat) : Int)) hfree (ev_eq h (fun k => by rw [if_neg (by decide)])))
      simp only [spec_OrderBar.l2]
      rw [if_pos (by omega), if_pos (by omega), if_pos (by omega), if_pos (by omega), hr, if_pos hbi, if_pos (show out.length < 17592186044416 by omega), rd_nat l i hi, w1 i (by omega), Int.toNat_natCast]
    · refine Ev.step (fun k => ?_) h
      simp only [spec_OrderBar.l2]
      rw [if_pos (by omega), if_pos (by omega), if_pos (by omega), hr, if_neg hbi, w1 i (by omega), if_pos (by omega)]
theorem order_l1v (l : List Int) (hbar : isBar l = true) (hd : dupFrom l 0 l = false) : ∀ c (b : List Bool) (out : List Int), b.length = l.length → b.count true = c → out.length + c = l.length →
    ∃ r, ordI c (kept l b) out = some r ∧ Ev (fun k => spec_OrderBar.l1 k l b out) (r, true) ∧ r.length = l.length := by
  obtain ⟨l1, l2, _⟩ := (isBar_iff l).1 hbar
  intro c
  induction c with
  | zero =>
    intro b out hb hc ho
    have hk : kept l b = [] := List.length_eq_zero_iff.1 (by rw [kept_len l b hb, hc])
    exact ⟨out, by rw [ordI, if_pos hk], ev_step1 (fun k => by simp only [spec_OrderBar.l1]; rw [if_neg (by omega)]), by omega⟩
  | succ c ih =>
    intro b out hb hc ho
    have hmem : true ∈ b := List.count_pos_iff.1 (by omega)
    obtain ⟨j0, hj0, hbj⟩ := List.getElem_of_mem hmem
    obtain ⟨j1, a1, a2, a3⟩ := some_free l hbar hd b hb j0 (by omega) (by rw [List.getD_eq_getElem?_getD, List.getElem?_eq_getElem hj0, hbj]; rfl)
    obtain ⟨j, ⟨hj, hbj, hfj⟩, hmin⟩ := exists_min (fun j => j < l.length ∧ b.getD j false = true ∧ ff l (fun i => b.getD i false) j 0 l.length = true) j1 ⟨a1, a2, a3⟩
    have hmin' : ∀ m, m < j → b.getD m false = true → ff l (fun i => b.getD i false) m 0 l.length = false := by
      intro m hm hbm
      cases hf : ff l (fun i => b.getD i false) m 0 l.length with
      | false => rfl
      | true => exact absurd ⟨by omega, hbm, hf⟩ (hmin m hm)
    obtain ⟨k1, k2, k3⟩ := kept_first (minIn (kept l b)) l b j hj hb hbj (by rw [min_ff l hd b hb j hj]; exact hfj) (fun m h1 h2 h3 => by rw [min_ff l hd b hb m h1]; exact hmin' m h2 h3)
    have hqb : j < b.length := by omega
    have hbj' : b[j] = true := by
      rw [List.getD_eq_getElem?_getD, List.getElem?_eq_getElem hqb] at hbj
      exact hbj
    obtain ⟨r, r1, r2, r3⟩ := ih (b.set j false) (out ++ [l[j]]) (by rw [List.length_set]; exact hb) (by rw [List.count_set hqb, hbj']; simp; omega) (by simp only [List.length_append, List.length_singleton]; omega)
    have hne : kept l b ≠ [] := fun e => by rw [e] at k1; exact absurd k1 (Nat.not_lt_zero _)
    refine ⟨r, ?_, Ev.step (fun k => ?_) (order_l2v l b out (r, true) hb (by omega) (by omega) j hj hbj hfj hmin' r2 j 0 rfl (Nat.zero_le _)), r3⟩
    · rw [ordI, if_neg hne, if_pos k1, k2, k3]; exact r1
    · simp only [spec_OrderBar.l1]
      rw [if_pos (by omega)]
      rfl
theorem kept_all : ∀ l : List Int, kept l (List.replicate l.length true) = l
  | [] => rfl
  | x :: r => by rw [List.length_cons, List.replicate_succ, kept, if_pos rfl, kept_all r]
theorem order_l0v (l : List Int) (hbar : isBar l = true) (hd : dupFrom l 0 l = false) : ∀ c i (b : List Bool), i + c = l.length → b.length = l.length → (∀ j, j < i → b[j]? = some true) →
    ∃ r, ordI l.length l [] = some r ∧ Ev (fun k => spec_OrderBar.l0 k l b (l.length : Int) (i : Int)) (r, true) ∧ r.length = l.length := by
  obtain ⟨l1, l2, _⟩ := (isBar_iff l).1 hbar
  intro c
  induction c with
  | zero =>
    intro i b hi hb hx
    have e : b = List.replicate l.length true := by
      apply List.ext_getElem (by rw [hb, List.length_replicate])
      intro j h1 h2
      have := hx j (by omega)
      rw [List.getElem?_eq_getElem h1] at this
      rw [Option.some.inj this, List.getElem_replicate]
    subst e
    obtain ⟨r, hr0, hr1, hr2⟩ := order_l1v l hbar hd l.length (List.replicate l.length true) [] (by simp) (by simp) (by simp)
    rw [kept_all] at hr0
    refine ⟨r, hr0, Ev.step (fun k => ?_) hr1, hr2⟩
    simp only [spec_OrderBar.l0]
    rw [if_neg (by omega)]
  | succ c ih =>
    intro i b hi hb hx
    obtain ⟨r, hr0, hr1, hr2⟩ := ih (i + 1) (b.set i true) (by omega) (by rw [List.length_set, hb]) (fun j hj => by
      rw [List.getElem?_set]
      by_cases e : i = j
      · subst e; rw [if_pos rfl, if_pos (by omega)]
      · rw [if_neg e]; exact hx j (by omega))
    refine ⟨r, hr0, Ev.step (fun k => ?_) hr1, hr2⟩
    simp only [spec_OrderBar.l0]
    rw [if_pos (by omega), if_pos (by omega), if_pos (by omega), w1 i (by omega), Int.toNat_natCast]
theorem erase_perm : ∀ (L : List Int) (i : Nat) (h : i < L.length), (L[i] :: L.eraseIdx i).Perm L
  | [], _, h => absurd h (Nat.not_lt_zero _)
  | x :: r, 0, _ => List.Perm.refl _
  | x :: r, i + 1, h => by
    have hi : i < r.length := by simpa using h
    have ih := erase_perm r i hi
    rw [List.getElem_cons_succ, List.eraseIdx_cons_succ]
    exact (List.Perm.swap x r[i] _).trans (ih.cons x)
theorem ordI_perm : ∀ c L out r, ordI c L out = some r → r.Perm (out ++ L)
  | 0, L, out, r, h => by
    rw [ordI] at h
    by_cases e : L = []
    · rw [if_pos e] at h
      rw [e, List.append_nil, Option.some.inj h]
    · rw [if_neg e] at h; cases h
  | c + 1, L, out, r, h => by
    rw [ordI] at h
    by_cases e : L = []
    · rw [if_pos e] at h
      rw [e, List.append_nil, Option.some.inj h]
    · rw [if_neg e] at h
      by_cases q : L.findIdx (minIn L) < L.length
      · rw [if_pos q] at h
        have ih := ordI_perm c _ _ r h
        refine ih.trans ?_
        rw [List.append_assoc]
        refine List.Perm.append_left out ?_
        have hg : L.getD (L.findIdx (minIn L)) 0 = L[L.findIdx (minIn L)] := by simp [List.getD_eq_getElem?_getD, q]
        rw [hg]
        exact erase_perm L _ q
      · rw [if_neg q] at h; cases h
/-- The order of a bar, and whether there is one. -/
def orderR (l : List Int) : List Int × Bool := if isBar l = true ∧ dupFrom l 0 l = false then ((ordI l.length l []).getD [], true) else ([], false)
theorem order_some (l : List Int) (hbar : isBar l = true) (hd : dupFrom l 0 l = false) : ∃ r, ordI l.length l [] = some r ∧ orderR l = (r, true) := by
  obtain ⟨r, hr0, _, _⟩ := order_l0v l hbar hd l.length 0 (List.replicate l.length false) (by omega) (by simp) (fun j hj => absurd hj (Nat.not_lt_zero j))
  refine ⟨r, hr0, ?_⟩
  unfold orderR
  rw [if_pos ⟨hbar, hd⟩, hr0]; rfl
theorem spec_OrderBar_ev (l : List Int) (hl : l.length ≤ 1099511627776) : Ev (fun k => spec_OrderBar.f k l) (orderR l) := by
  have hs := spec_l1Sets_ev l hl
  by_cases hbar : isBar l = true
  · cases hd : dupFrom l 0 l with
    | false =>
      obtain ⟨l1, l2, _⟩ := (isBar_iff l).1 hbar
      rw [hd, hbar] at hs
      obtain ⟨r, hr0, hr1, hr2⟩ := order_l0v l hbar hd l.length 0 (List.replicate l.length false) (by omega) (by simp) (fun j hj => absurd hj (Nat.not_lt_zero j))
      have e : orderR l = (r, true) := by
        unfold orderR
        rw [if_pos ⟨hbar, hd⟩, hr0]; rfl
      rw [e]
      refine Ev.bind (f := fun k t => if t = true then (if 0 ≤ (l.length : Int) then (if ((l.length : Int) : Int).toNat ≤ 281474976710656 then ((some (List.replicate ((l.length : Int) : Int).toNat false : List Bool)).bind fun y155 => (spec_OrderBar.l0 k l y155 (y155.length : Int) 0)) else (none)) else (none)) else (some (([] : List Int), false))) hs ?_
      refine ev_eq hr1 (fun k => ?_)
      rw [if_pos (by decide), if_pos (by omega), Int.toNat_natCast, if_pos (by omega), Option.bind_some, List.length_replicate]
      rfl
    | true =>
      have e : orderR l = ([], false) := by
        unfold orderR
        rw [if_neg (fun h => by rw [hd] at h; cases h.2)]
      rw [hd] at hs
      rw [e]
      refine Ev.bind (f := fun k t => if t = true then (if 0 ≤ (l.length : Int) then (if ((l.length : Int) : Int).toNat ≤ 281474976710656 then ((some (List.replicate ((l.length : Int) : Int).toNat false : List Bool)).bind fun y155 => (spec_OrderBar.l0 k l y155 (y155.length : Int) 0)) else (none)) else (none)) else (some (([] : List Int), false))) hs ?_
      exact ev_const (fun k => by rw [if_neg (by simp)])
  · have e : orderR l = ([], false) := by
      unfold orderR
      rw [if_neg (fun h => hbar h.1)]
    have hb : isBar l = false := by simpa using hbar
    rw [hb] at hs
    rw [e]
    refine Ev.bind (f := fun k t => if t = true then (if 0 ≤ (l.length : Int) then (if ((l.length : Int) : Int).toNat ≤ 281474976710656 then ((some (List.replicate ((l.length : Int) : Int).toNat false : List Bool)).bind fun y155 => (spec_OrderBar.l0 k l y155 (y155.length : Int) 0)) else (none)) else (none)) else (some (([] : List Int), false))) hs ?_
    exact ev_const (fun k => by rw [if_neg (by simp)])
end Go.Proofs.Ythdgkjnhjihkpaa.Q
