/- The order of a bar: the sets that are left, taken one by one. Conditions: those that each lemma names. -/
import Derived.Test.YthdgkjnhjihkpaaP0
import Derived.Test.YthdgkjnhjihkpaaPBar
import Derived.Test.YthdgkjnhjihkpaaPDrawT
import Derived.Test.YthdgkjnhjihkpaaPDup
import Derived.Test.YthdgkjnhjihkpaaPOrders
import Derived.Test.YthdgkjnhjihkpaaPReach
import Derived.Test.YthdgkjnhjihkpaaPSorts
import Derived.Test.YthdgkjnhjihkpaaQ1
import Derived.Test.YthdgkjnhjihkpaaQ5
import Derived.Test.YthdgkjnhjihkpaaQ6
namespace Go.Proofs.Ythdgkjnhjihkpaa.Q
open Go.RowKit Go.Proofs.YthdgkjnhjihkpaaW.PrintWords Go.Proofs.YthdgkjnhjihkpaaW.PrintLast Go.Proofs.YthdgkjnhjihkpaaW.PrintMore
set_option linter.unusedVariables false
set_option linter.unusedSimpArgs false
/-- Is no other one of a list part of a set? -/
def minIn (L : List Int) (s : Int) : Bool := !(L.any fun t => !(t == s) && partB t s)
theorem minIn_iff (L : List Int) (s : Int) : minIn L s = true ↔ ∀ t ∈ L, t ≠ s → partB t s = false := by
  unfold minIn
  simp only [Bool.not_eq_true', List.any_eq_false, Bool.and_eq_true, Bool.not_eq_true', beq_eq_false_iff_ne]
  constructor
  · intro h t ht hne
    cases hp : partB t s with
    | false => rfl
    | true => exact absurd ⟨hne, hp⟩ (h t ht)
  · rintro h t ht ⟨hne, hp⟩
    rw [h t ht hne] at hp
    exact absurd hp (by decide)
/-- The sets in order: each time the first one of those that are left. -/
def ordI : Nat → List Int → List Int → Option (List Int)
  | 0, L, out => if L = [] then some out else none
  | c + 1, L, out => if L = [] then some out else if L.findIdx (minIn L) < L.length then ordI c (L.eraseIdx (L.findIdx (minIn L))) (out ++ [L.getD (L.findIdx (minIn L)) 0]) else none
/-- The elements that are marked. -/
def kept : List Int → List Bool → List Int
  | x :: r, t :: q => if t = true then x :: kept r q else kept r q
  | _, _ => []
theorem kept_len : ∀ (l : List Int) (b : List Bool), b.length = l.length → (kept l b).length = b.count true
  | [], [], _ => rfl
  | [], _ :: _, h => absurd h (by simp)
  | _ :: _, [], h => absurd h (by simp)
  | x :: r, t :: q, h => by
    have ih := kept_len r q (by simpa using h)
    rw [kept]
    cases t with
    | true => simp [ih]
    | false => simp [ih]
theorem kept_mem : ∀ (l : List Int) (b : List Bool), b.length = l.length → ∀ t, t ∈ kept l b ↔ ∃ m, ∃ h : m < l.length, b.getD m false = true ∧ l[m] = t
  | [], [], _, t => by simp [kept]
  | [], _ :: _, h, _ => absurd h (by simp)
  | _ :: _, [], h, _ => absurd h (by simp)
  | x :: r, u :: q, h, t => by
    have ih := kept_mem r q (by simpa using h) t
    have key : (∃ m, ∃ h : m < (x :: r).length, (u :: q).getD m false = true ∧ (x :: r)[m] = t) ↔ (u = true ∧ x = t) ∨ (∃ m, ∃ h : m < r.length, q.getD m false = true ∧ r[m] = t) := by
      constructor
      · rintro ⟨m, hm, h1, h2⟩
        cases m with
        | zero => left; exact ⟨by simpa using h1, by simpa using h2⟩
        | succ m => right; exact ⟨m, by simpa using hm, by simpa using h1, by simpa using h2⟩
      · rintro (⟨h1, h2⟩ | ⟨m, hm, h1, h2⟩)
        · exact ⟨0, by simp, by simpa using h1, by simpa using h2⟩
        · exact ⟨m + 1, by simpa using hm, by simpa using h1, by simpa using h2⟩
    rw [key, kept]
    cases u with
    | true =>
      rw [if_pos rfl, List.mem_cons, ih]
      constructor
      · rintro (h | h)
        · exact Or.inl ⟨rfl, h.symm⟩
        · exact Or.inr h
      · rintro (⟨_, h⟩ | h)
        · exact Or.inl h.symm
        · exact Or.inr h
    | false =>
      rw [if_neg (by decide), ih]
      constructor
      · exact Or.inr
      · rintro (⟨h, _⟩ | h)
        · cases h
        · exact h
/-- The first marked element at which something holds, among all and among the marked. -/
theorem kept_first (p : Int → Bool) : ∀ (l : List Int) (b : List Bool) (i : Nat) (hi : i < l.length), b.length = l.length → b.getD i false = true → p l[i] = true → (∀ m (h : m < l.length), m < i → b.getD m false = true → p l[m] = false) →
    (kept l b).findIdx p < (kept l b).length ∧ (kept l b).getD ((kept l b).findIdx p) 0 = l[i] ∧ (kept l b).eraseIdx ((kept l b).findIdx p) = kept l (b.set i false)
  | [], _, i, hi, _, _, _, _ => absurd hi (Nat.not_lt_zero _)
  | _ :: _, [], _, _, h, _, _, _ => absurd h (by simp)
  | x :: r, t :: q, 0, hi, hl, hb, hp, hn => by
    have ht : t = true := by simpa using hb
    have hx : p x = true := by simpa using hp
    subst ht
    rw [kept, if_pos rfl, List.findIdx_cons, hx]
    simp [kept]
  | x :: r, t :: q, i + 1, hi, hl, hb, hp, hn => by
    have ih := kept_first p r q i (by simpa using hi) (by simpa using hl) (by simpa using hb) (by simpa using hp) (fun m h1 h2 h3 => by
      have := hn (m + 1) (by simpa using h1) (by omega) (by simpa using h3)
      simpa using this)
    cases t with
    | true =>
      have hx : p x = false := by
        have := hn 0 (by simp) (by omega) (by simp)
        simpa using this
      rw [kept, if_pos rfl, List.findIdx_cons, hx, List.set_cons_succ, kept, if_pos rfl]
      simp only [cond_false, List.length_cons, List.getElem_cons_succ, List.eraseIdx_cons_succ, List.getD_cons_succ]
      exact ⟨by omega, ih.2.1, by rw [ih.2.2]⟩
    | false =>
      rw [kept, if_neg (by decide), List.set_cons_succ, kept, if_neg (by decide)]
      exact ih
theorem ff_all (l : List Int) (b : Nat → Bool) (j : Nat) : ∀ c i, ff l b j i c = true → ∀ m, i ≤ m → m < i + c → m ≠ j → b m = true → partB (l.getD m 0) (l.getD j 0) = false
  | 0, i, _ => fun m h1 h2 => by omega
  | c + 1, i, h => fun m h1 h2 h3 h4 => by
    rw [ff] at h
    by_cases e : i = j
    · rw [if_pos e] at h
      exact ff_all l b j c (i + 1) h m (by omega) (by omega) h3 h4
    · rw [if_neg e] at h
      by_cases hb : b i = true
      · rw [if_pos hb] at h
        by_cases hp : partB (l.getD i 0) (l.getD j 0) = true
        · rw [if_pos hp] at h; cases h
        · rw [if_neg hp] at h
          by_cases e2 : m = i
          · subst e2; simpa using hp
          · exact ff_all l b j c (i + 1) h m (by omega) (by omega) h3 h4
      · rw [if_neg hb] at h
        by_cases e2 : m = i
        · subst e2; exact absurd h4 hb
        · exact ff_all l b j c (i + 1) h m (by omega) (by omega) h3 h4
theorem min_ff (l : List Int) (hd : dupFrom l 0 l = false) (b : List Bool) (hb : b.length = l.length) (i : Nat) (hi : i < l.length) : minIn (kept l b) l[i] = ff l (fun i => b.getD i false) i 0 l.length := by
  rw [Bool.eq_iff_iff, minIn_iff]
  constructor
  · intro h
    refine ff_true l _ i l.length 0 (fun m _ h2 h3 h4 => ?_)
    have hm : m < l.length := by omega
    rw [getD_nat l m hm, getD_nat l i hi]
    exact h l[m] ((kept_mem l b hb _).2 ⟨m, hm, h4, rfl⟩) (no_two l hd m i hm hi h3)
  · intro h t ht hne
    obtain ⟨m, hm, hbm, rfl⟩ := (kept_mem l b hb t).1 ht
    have := ff_all l _ i l.length 0 h m (Nat.zero_le _) (by omega) (fun e => by subst e; exact hne rfl) hbm
    rw [getD_nat l m hm, getD_nat l i hi] at this
    exact this
theorem order_l2v (l : List Int) (b : List Bool) (out : List Int) (R : List Int × Bool) (hb : b.length = l.length) (hn : l.length ≤ 1000) (ho : out.length ≤ 1000) (j : Nat) (hj : j < l.length)
    (hbj : b.getD j false = true) (hfj : ff l (fun i => b.getD i false) j 0 l.length = true) (hmin : ∀ m, m < j → b.getD m false = true → ff l (fun i => b.getD i false) m 0 l.length = false)
    (hnext : Ev (fun k => spec_OrderBar.l1 k l (b.set j false) (out ++ [l[j]])) R) :
    ∀ d i, j - i = d → i ≤ j → Ev (fun k => spec_OrderBar.l2 k l b out l (l.length : Int) (i : Int)) R := by
  have hr : ∀ i : Nat, rdOf false b (i : Int) = b.getD i false := fun i => by simp [rdOf]
  intro d
  induction d with
  | zero =>
    intro i hd hij
    obtain rfl : i = j := by omega
    have hfree := free_ev l b i hb hn hj
    rw [hfj] at hfree
    refine Ev.step (f := fun k => (spec_l1Free.f k l b (i : Int)).bind fun t => if t = true then spec_OrderBar.l1 k l (b.set i false) (out ++ [l[i]]) else spec_OrderBar.l2 k l b out l (l.length : Int) ((i + 1 : Nat) : Int)) (fun k => ?_) (Ev.bind (f := fun k t => if t = true then spec_OrderBar.l1 k l (b.set i false) (out ++ [l[i]]) else spec_OrderBar.l2 k l b out l (l.length : Int) ((i + 1 : Nat) : Int)) hfree (ev_eq hnext (fun k => by rw [if_pos rfl])))
    simp only [spec_OrderBar.l2]
    rw [if_pos (by omega), if_pos (by omega), if_pos (by omega), if_pos (by omega), hr, if_pos hbj, if_pos (show out.length < 17592186044416 by omega), rd_nat l i hj, w1 i (by omega), Int.toNat_natCast]
  | succ d ih =>
    intro i hd hij
    have hi : i < l.length := by omega
    have h := ih (i + 1) (by omega) (by omega)
    by_cases hbi : b.getD i false = true
    · have hfree := free_ev l b i hb hn hi
      rw [hmin i (by omega) hbi] at hfree
      refine Ev.step (f := fun k => (spec_l1Free.f k l b (i : Int)).bind fun t => if t = true then spec_OrderBar.l1 k l (b.set i false) (out ++ [l[i]]) else spec_OrderBar.l2 k l b out l (l.length : Int) ((i + 1 : Nat) : Int)) (fun k => ?_) (Ev.bind (f := fun k t => if t = true then spec_OrderBar.l1 k l (b.set i false) (out ++ [l[i]]) else spec_OrderBar.l2 k l b out l (l.length : Int) ((i + 1 : Nat) : Int)) hfree (ev_eq h (fun k => by rw [if_neg (by decide)])))
      simp only [spec_OrderBar.l2]
      rw [if_pos (by omega), if_pos (by omega), if_pos (by omega), if_pos (by omega), hr, if_pos hbi, if_pos (show out.length < 17592186044416 by omega), rd_nat l i hi, w1 i (by omega), Int.toNat_natCast]
    · refine Ev.step (fun k => ?_) h
      simp only [spec_OrderBar.l2]
      rw [if_pos (by omega), if_pos (by omega), if_pos (by omega), hr, if_neg hbi, w1 i (by omega), if_pos (by omega)]
theorem order_l1v (l : List Int) (hbar : isBar l = true) (hd : dupFrom l 0 l = false) : ∀ c (b : List Bool) (out : List Int), b.length = l.length → b.count true = c → out.length + c = l.length →
    ∃ r, ordI c (kept l b) out = some r ∧ Ev (fun k => spec_OrderBar.l1 k l b out) (r, true) ∧ r.length = l.length := by
  obtain ⟨l1, l2, _⟩ := (isBar_iff l).1 hbar
  intro c
  induction c with
  | zero =>
    intro b out hb hc ho
    have hk : kept l b = [] := List.length_eq_zero_iff.1 (by rw [kept_len l b hb, hc])
    exact ⟨out, by rw [ordI, if_pos hk], ev_step1 (fun k => by simp only [spec_OrderBar.l1]; rw [if_neg (by omega)]), by omega⟩
  | succ c ih =>
    intro b out hb hc ho
    have hmem : true ∈ b := List.count_pos_iff.1 (by omega)
    obtain ⟨j0, hj0, hbj⟩ := List.getElem_of_mem hmem
    obtain ⟨j1, a1, a2, a3⟩ := some_free l hbar hd b hb j0 (by omega) (by rw [List.getD_eq_getElem?_getD, List.getElem?_eq_getElem hj0, hbj]; rfl)
    obtain ⟨j, ⟨hj, hbj, hfj⟩, hmin⟩ := exists_min (fun j => j < l.length ∧ b.getD j false = true ∧ ff l (fun i => b.getD i false) j 0 l.length = true) j1 ⟨a1, a2, a3⟩
    have hmin' : ∀ m, m < j → b.getD m false = true → ff l (fun i => b.getD i false) m 0 l.length = false := by
      intro m hm hbm
      cases hf : ff l (fun i => b.getD i false) m 0 l.length with
      | false => rfl
      | true => exact absurd ⟨by omega, hbm, hf⟩ (hmin m hm)
    obtain ⟨k1, k2, k3⟩ := kept_first (minIn (kept l b)) l b j hj hb hbj (by rw [min_ff l hd b hb j hj]; exact hfj) (fun m h1 h2 h3 => by rw [min_ff l hd b hb m h1]; exact hmin' m h2 h3)
    have hqb : j < b.length := by omega
    have hbj' : b[j] = true := by
      rw [List.getD_eq_getElem?_getD, List.getElem?_eq_getElem hqb] at hbj
      exact hbj
    obtain ⟨r, r1, r2, r3⟩ := ih (b.set j false) (out ++ [l[j]]) (by rw [List.length_set]; exact hb) (by rw [List.count_set hqb, hbj']; simp; omega) (by simp only [List.length_append, List.length_singleton]; omega)
    have hne : kept l b ≠ [] := fun e => by rw [e] at k1; exact absurd k1 (Nat.not_lt_zero _)
    refine ⟨r, ?_, Ev.step (fun k => ?_) (order_l2v l b out (r, true) hb (by omega) (by omega) j hj hbj hfj hmin' r2 j 0 rfl (Nat.zero_le _)), r3⟩
    · rw [ordI, if_neg hne, if_pos k1, k2, k3]; exact r1
    · simp only [spec_OrderBar.l1]
      rw [if_pos (by omega)]
      rfl
theorem kept_all : ∀ l : List Int, kept l (List.replicate l.length true) = l
  | [] => rfl
  | x :: r => by rw [List.length_cons, List.replicate_succ, kept, if_pos rfl, kept_all r]
theorem order_l0v (l : List Int) (hbar : isBar l = true) (hd : dupFrom l 0 l = false) : ∀ c i (b : List Bool), i + c = l.length → b.length = l.length → (∀ j, j < i → b[j]? = some true) →
    ∃ r, ordI l.length l [] = some r ∧ Ev (fun k => spec_OrderBar.l0 k l b (l.length : Int) (i : Int)) (r, true) ∧ r.length = l.length := by
  obtain ⟨l1, l2, _⟩ := (isBar_iff l).1 hbar
  intro c
  induction c with
  | zero =>
    intro i b hi hb hx
    have e : b = List.replicate l.length true := by
      apply List.ext_getElem (by rw [hb, List.length_replicate])
      intro j h1 h2
      have := hx j (by omega)
      rw [List.getElem?_eq_getElem h1] at this
      rw [Option.some.inj this, List.getElem_replicate]
    subst e
    obtain ⟨r, hr0, hr1, hr2⟩ := order_l1v l hbar hd l.length (List.replicate l.length true) [] (by simp) (by simp) (by simp)
    rw [kept_all] at hr0
    refine ⟨r, hr0, Ev.step (fun k => ?_) hr1, hr2⟩
    simp only [spec_OrderBar.l0]
    rw [if_neg (by omega)]
  | succ c ih =>
    intro i b hi hb hx
    obtain ⟨r, hr0, hr1, hr2⟩ := ih (i + 1) (b.set i true) (by omega) (by rw [List.length_set, hb]) (fun j hj => by
      rw [List.getElem?_set]
      by_cases e : i = j
      · subst e; rw [if_pos rfl, if_pos (by omega)]
      · rw [if_neg e]; exact hx j (by omega))
    refine ⟨r, hr0, Ev.step (fun k => ?_) hr1, hr2⟩
    simp only [spec_OrderBar.l0]
    rw [if_pos (by omega), if_pos (by omega), if_pos (by omega), w1 i (by omega), Int.toNat_natCast]
theorem erase_perm : ∀ (L : List Int) (i : Nat) (h : i < L.length), (L[i] :: L.eraseIdx i).Perm L
  | [], _, h => absurd h (Nat.not_lt_zero _)
  | x :: r, 0, _ => List.Perm.refl _
  | x :: r, i + 1, h => by
    have hi : i < r.length := by simpa using h
    have ih := erase_perm r i hi
    rw [List.getElem_cons_succ, List.eraseIdx_cons_succ]
    exact (List.Perm.swap x r[i] _).trans (ih.cons x)
theorem ordI_perm : ∀ c L out r, ordI c L out = some r → r.Perm (out ++ L)
  | 0, L, out, r, h => by
    rw [ordI] at h
    by_cases e : L = []
    · rw [if_pos e] at h
      rw [e, List.append_nil, Option.some.inj h]
    · rw [if_neg e] at h; cases h
  | c + 1, L, out, r, h => by
    rw [ordI] at h
    by_cases e : L = []
    · rw [if_pos e] at h
      rw [e, List.append_nil, Option.some.inj h]
    · rw [if_neg e] at h
      by_cases q : L.findIdx (minIn L) < L.length
      · rw [if_pos q] at h
        have ih := ordI_perm c _ _ r h
        refine ih.trans ?_
        rw [List.append_assoc]
        refine List.Perm.append_left out ?_
        have hg : L.getD (L.findIdx (minIn L)) 0 = L[L.findIdx (minIn L)] := by simp [List.getD_eq_getElem?_getD, q]
        rw [hg]
        exact erase_perm L _ q
      · rw [if_neg q] at h; cases h
theorem ordI_sorts : ∀ c L out r, ordI c L out = some r → L.Nodup → out.Pairwise (fun a b => partB b a = false) → (∀ a ∈ out, ∀ b ∈ L, partB b a = false) → r.Pairwise (fun a b => partB b a = false)
  | 0, L, out, r, h, _, ho, _ => by
    rw [ordI] at h
    by_cases e : L = []
    · rw [if_pos e] at h
      rw [← Option.some.inj h]; exact ho
    · rw [if_neg e] at h; cases h
  | c + 1, L, out, r, h, hn, ho, hx => by
    rw [ordI] at h
    by_cases e : L = []
    · rw [if_pos e] at h
      rw [← Option.some.inj h]; exact ho
    · rw [if_neg e] at h
      by_cases q : L.findIdx (minIn L) < L.length
      · rw [if_pos q] at h
        have hg : L.getD (L.findIdx (minIn L)) 0 = L[L.findIdx (minIn L)] := by simp [List.getD_eq_getElem?_getD, q]
        rw [hg] at h
        have hmin : minIn L L[L.findIdx (minIn L)] = true := List.findIdx_getElem (w := q)
        have hm := (minIn_iff L _).1 hmin
        have hmem : L[L.findIdx (minIn L)] ∈ L := List.getElem_mem q
        have hp := erase_perm L _ q
        have hnd := hp.symm.nodup hn
        rw [List.nodup_cons] at hnd
        refine ordI_sorts c _ _ r h hnd.2 ?_ ?_
        · rw [List.pairwise_append]
          refine ⟨ho, by simp, fun a ha b hb => ?_⟩
          rw [List.mem_singleton] at hb
          rw [hb]
          exact hx a ha _ hmem
        · intro a ha b hb
          have hbL : b ∈ L := List.mem_of_mem_eraseIdx hb
          rcases List.mem_append.1 ha with ha | ha
          · exact hx a ha b hbL
          · rw [List.mem_singleton] at ha
            rw [ha]
            exact hm b hbL (fun e => hnd.1 (e ▸ hb))
      · rw [if_neg q] at h; cases h
theorem sorts_of (r : List Int) (hb : isBar r = true) (h : r.Pairwise (fun a b => partB b a = false)) : sortsAll r = true := by
  unfold sortsAll
  rw [hb, Bool.true_and, sortsFrom_iff]
  intro j hj
  obtain ⟨_, _, hall⟩ := (isBar_iff r).1 hb
  have hself : partB r[j] r[j] = true := by
    have hx := hall r[j] (List.getElem_mem hj)
    have := (part_nat r[j].toNat (by omega) r[j].toNat (by omega)).2 (Nat.and_self _)
    rw [show ((r[j].toNat : Nat) : Int) = r[j] by omega] at this
    exact this
  have hle := fallN_upto r r[j] j hj hself
  rw [Nat.zero_add]
  apply Nat.le_antisymm hle
  apply Nat.le_of_not_lt
  intro hlt
  have h2 := fallN_hit r r[j] (by omega)
  have h3 := List.pairwise_iff_getElem.1 h (fallN r r[j]) j (by omega) hj hlt
  rw [h2] at h3
  cases h3
theorem asc_part (r : List Int) (hb : isBar r = true) (h : r.Pairwise (fun a b => a < b)) : r.Pairwise (fun a b => partB b a = false) := by
  obtain ⟨_, _, hall⟩ := (isBar_iff r).1 hb
  rw [List.pairwise_iff_getElem] at h ⊢
  intro i j hi hj hij
  have h1 := h i j hi hj hij
  have hx := hall r[i] (List.getElem_mem hi)
  have hy := hall r[j] (List.getElem_mem hj)
  cases hp : partB r[j] r[i] with
  | false => rfl
  | true =>
    have h3 := (part_nat r[j].toNat (by omega) r[i].toNat (by omega)).1
    rw [show ((r[j].toNat : Nat) : Int) = r[j] by omega, show ((r[i].toNat : Nat) : Int) = r[i] by omega] at h3
    have h4 := h3 hp
    have : r[j].toNat &&& r[i].toNat ≤ r[i].toNat := Nat.and_le_right
    omega
/-- A number put into an ascending list, ahead of the first that is not less. -/
def insI (x : Int) (out : List Int) : List Int := out.take (out.findIdx fun y => decide (x ≤ y)) ++ x :: out.drop (out.findIdx fun y => decide (x ≤ y))
def insAll : List Int → List Int → List Int
  | [], out => out
  | x :: r, out => insAll r (insI x out)
theorem insI_perm (x : Int) (out : List Int) : (insI x out).Perm (x :: out) := by
  unfold insI
  refine List.perm_middle.trans ?_
  rw [List.take_append_drop]
theorem insAll_perm : ∀ l out, (insAll l out).Perm (l ++ out)
  | [], out => List.Perm.refl _
  | x :: r, out => by
    rw [insAll]
    refine (insAll_perm r _).trans ?_
    refine (List.Perm.append_left r (insI_perm x out)).trans ?_
    exact List.perm_middle
theorem insI_asc (x : Int) (out : List Int) (h : out.Pairwise (fun a b => a ≤ b)) : (insI x out).Pairwise (fun a b => a ≤ b) := by
  unfold insI
  have hlt : ∀ a ∈ out.take (out.findIdx fun y => decide (x ≤ y)), a < x := by
    intro a ha
    obtain ⟨j, hj, rfl⟩ := List.getElem_of_mem ha
    rw [List.length_take] at hj
    rw [List.getElem_take]
    have := List.not_of_lt_findIdx (p := fun y => decide (x ≤ y)) (xs := out) (i := j) (by omega)
    simp only [decide_eq_true_eq, Bool.not_eq_true, decide_eq_false_iff_not] at this
    omega
  have hge : ∀ a ∈ out.drop (out.findIdx fun y => decide (x ≤ y)), x ≤ a := by
    intro a ha
    obtain ⟨j, hj, rfl⟩ := List.getElem_of_mem ha
    rw [List.length_drop] at hj
    rw [List.getElem_drop]
    have h0 : (out.findIdx fun y => decide (x ≤ y)) < out.length := by omega
    have h1 := List.findIdx_getElem (p := fun y => decide (x ≤ y)) (xs := out) (w := h0)
    simp only [decide_eq_true_eq] at h1
    cases j with
    | zero => simpa using h1
    | succ j =>
      have h2 := List.pairwise_iff_getElem.1 h (out.findIdx fun y => decide (x ≤ y)) ((out.findIdx fun y => decide (x ≤ y)) + (j + 1)) h0 (by omega) (by omega)
      omega
  rw [List.pairwise_append]
  refine ⟨h.sublist (List.take_sublist _ _), ?_, ?_⟩
  · rw [List.pairwise_cons]
    exact ⟨hge, h.sublist (List.drop_sublist _ _)⟩
  · intro a ha b hb
    have h1 := hlt a ha
    rcases List.mem_cons.1 hb with e | e
    · omega
    · have := hge b e; omega
theorem insAll_asc : ∀ l out, out.Pairwise (fun a b => a ≤ b) → (insAll l out).Pairwise (fun a b => a ≤ b)
  | [], out, h => h
  | x :: r, out, h => insAll_asc r _ (insI_asc x out h)
theorem insAll_same (a b : List Int) (h : a.Perm b) : insAll a [] = insAll b [] := by
  refine List.Perm.eq_of_pairwise (le := fun x y : Int => x ≤ y) (fun x y _ _ h1 h2 => Int.le_antisymm h1 h2) (insAll_asc a [] List.Pairwise.nil) (insAll_asc b [] List.Pairwise.nil) ?_
  exact ((insAll_perm a []).trans (by rw [List.append_nil, List.append_nil]; exact h)).trans (insAll_perm b []).symm
theorem insAll_strict (l : List Int) (h : l.Nodup) : (insAll l []).Pairwise (fun a b => a < b) := by
  have hp := insAll_perm l []
  rw [List.append_nil] at hp
  have hn := hp.symm.nodup h
  have ha := insAll_asc l [] List.Pairwise.nil
  rw [List.pairwise_iff_getElem] at ha ⊢
  intro i j hi hj hij
  have h1 := ha i j hi hj hij
  have h2 := (List.nodup_iff_pairwise_ne.1 hn)
  have h3 := List.pairwise_iff_getElem.1 h2 i j hi hj hij
  omega
theorem bar_perm (a b : List Int) (h : a.Perm b) (hb : isBar b = true) : isBar a = true := by
  obtain ⟨h1, h2, h3⟩ := (isBar_iff b).1 hb
  exact (isBar_iff a).2 ⟨by rw [h.length_eq]; exact h1, by rw [h.length_eq]; exact h2, fun s hs => h3 s (h.mem_iff.1 hs)⟩
/-- The order of a bar, and whether there is one. -/
def orderR (l : List Int) : List Int × Bool := if isBar l = true ∧ dupFrom l 0 l = false then ((ordI l.length l []).getD [], true) else ([], false)
theorem order_some (l : List Int) (hbar : isBar l = true) (hd : dupFrom l 0 l = false) : ∃ r, ordI l.length l [] = some r ∧ orderR l = (r, true) := by
  obtain ⟨r, hr0, _, _⟩ := order_l0v l hbar hd l.length 0 (List.replicate l.length false) (by omega) (by simp) (fun j hj => absurd hj (Nat.not_lt_zero j))
  refine ⟨r, hr0, ?_⟩
  unfold orderR
  rw [if_pos ⟨hbar, hd⟩, hr0]; rfl
end Go.Proofs.Ythdgkjnhjihkpaa.Q
