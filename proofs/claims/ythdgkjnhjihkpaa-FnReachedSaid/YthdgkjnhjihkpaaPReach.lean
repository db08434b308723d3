/- Where the parts of a set fall: what the program's and the reference's ReachOf give. Conditions: those that each lemma names. -/
import Derived.Test.YthdgkjnhjihkpaaPBar
import Derived.Test.YthdgkjnhjihkpaaQ1
namespace Go.Proofs.Ythdgkjnhjihkpaa.Q
open Go.RowKit Go.Proofs.YthdgkjnhjihkpaaW.PrintWords Go.Proofs.YthdgkjnhjihkpaaW.PrintLast Go.Proofs.YthdgkjnhjihkpaaW.PrintMore
set_option linter.unusedVariables false
set_option linter.unusedSimpArgs false
theorem part_nat : ∀ s : Nat, s < 128 → ∀ t : Nat, t < 128 → (partB (s : Int) (t : Int) = true ↔ s &&& t = s) := by decide +kernel
theorem and_nat : ∀ s : Nat, s < 128 → ∀ t : Nat, t < 128 → Go.bits .and .i64 (s : Int) (t : Int) = ((s &&& t : Nat) : Int) := by decide +kernel
theorem fallN_hit (l : List Int) (s : Int) (h : fallN l s < l.length) : partB s l[fallN l s] = true := List.findIdx_getElem (w := h)
theorem fallN_upto (l : List Int) (s : Int) (j : Nat) (hj : j < l.length) (h : partB s l[j] = true) : fallN l s ≤ j := by
  apply Nat.le_of_not_lt
  intro hlt
  exact absurd h (by simpa using List.not_of_lt_findIdx (p := partB s) (xs := l) hlt)
theorem bar_nat (l : List Int) (hb : isBar l = true) (i : Nat) (hi : i < l.length) : ∃ u : Nat, u < 128 ∧ l[i] = (u : Int) := by
  obtain ⟨_, _, hall⟩ := (isBar_iff l).1 hb
  have := hall l[i] (List.getElem_mem hi)
  exact ⟨l[i].toNat, by omega, by omega⟩
/-- The places at which parts of a set fall. -/
theorem reach_iff (l : List Int) (hb : isBar l = true) (s : Nat) (hs : s < 128) (i : Nat) :
    (∃ t : Nat, t < 128 ∧ partB (t : Int) (s : Int) = true ∧ fallN l (t : Int) = i) ↔ ((∃ h : i < l.length, fallN l (Go.bits .and .i64 (s : Int) l[i]) = i) ∨ (i = l.length ∧ fallN l (s : Int) = l.length)) := by
  constructor
  · rintro ⟨t, ht, hp, rfl⟩
    have hts := (part_nat t ht s hs).1 hp
    by_cases h : fallN l (t : Int) < l.length
    · left
      refine ⟨h, ?_⟩
      have h1 := fallN_hit l (t : Int) h
      generalize hi : fallN l (t : Int) = i at h h1
      obtain ⟨u, hu, eu⟩ := bar_nat l hb i h
      rw [eu] at h1 ⊢
      have htu := (part_nat t ht u hu).1 h1
      rw [and_nat s hs u hu]
      have hsu : s &&& u < 128 := Nat.lt_of_le_of_lt Nat.and_le_left hs
      have hle : fallN l ((s &&& u : Nat) : Int) ≤ i := fallN_upto l _ i h (by rw [eu]; exact (part_nat _ hsu u hu).2 (by rw [Nat.and_assoc, Nat.and_self]))
      apply Nat.le_antisymm hle
      apply Nat.le_of_not_lt
      intro hlt
      have hlt2 : fallN l ((s &&& u : Nat) : Int) < l.length := by omega
      have h2 := fallN_hit l _ hlt2
      generalize fallN l ((s &&& u : Nat) : Int) = j at hlt hlt2 h2
      obtain ⟨v, hv, ev⟩ := bar_nat l hb j hlt2
      rw [ev] at h2
      have h3 := (part_nat _ hsu v hv).1 h2
      have h4 : t &&& v = t := by
        have e : t &&& (s &&& u) = t := by rw [← Nat.and_assoc, hts, htu]
        rw [← e, Nat.and_assoc, h3]
      have h5 := fallN_upto l (t : Int) j hlt2 (by rw [ev]; exact (part_nat t ht v hv).2 h4)
      omega
    · right
      have hle := fallN_le l (t : Int)
      refine ⟨by omega, ?_⟩
      have hle2 := fallN_le l (s : Int)
      apply Nat.le_antisymm hle2
      apply Nat.le_of_not_lt
      intro hlt
      have h2 := fallN_hit l _ hlt
      generalize fallN l (s : Int) = j at hlt h2
      obtain ⟨v, hv, ev⟩ := bar_nat l hb j hlt
      rw [ev] at h2
      have h3 := (part_nat s hs v hv).1 h2
      have h4 : t &&& v = t := by
        rw [← hts, Nat.and_assoc, h3]
      have h5 := fallN_upto l (t : Int) j hlt (by rw [ev]; exact (part_nat t ht v hv).2 h4)
      omega
  · rintro (⟨h, e⟩ | ⟨e, e2⟩)
    · obtain ⟨u, hu, eu⟩ := bar_nat l hb i h
      rw [eu, and_nat s hs u hu] at e
      have hsu : s &&& u < 128 := Nat.lt_of_le_of_lt Nat.and_le_left hs
      exact ⟨s &&& u, hsu, (part_nat _ hsu s hs).2 (by rw [Nat.and_comm s u, Nat.and_assoc, Nat.and_self]), e⟩
    · exact ⟨s, hs, (part_nat s hs s hs).2 (Nat.and_self s), by rw [e2, e]⟩
/-- Places that are met, each once, in the order in which they are met. -/
def metF (l : List Int) (s : Int) : List Int → Nat → Nat → List Int
  | out, _, 0 => out
  | out, t, c + 1 => metF l s (if partB (t : Int) s = true ∧ ((fallN l (t : Int) : Nat) : Int) ∉ out then out ++ [((fallN l (t : Int) : Nat) : Int)] else out) (t + 1) c
theorem metF_mem (l : List Int) (s : Int) : ∀ c t out x, x ∈ metF l s out t c ↔ x ∈ out ∨ ∃ u : Nat, t ≤ u ∧ u < t + c ∧ partB (u : Int) s = true ∧ ((fallN l (u : Int) : Nat) : Int) = x
  | 0, t, out, x => by
    rw [metF]
    constructor
    · exact Or.inl
    · rintro (h | ⟨u, h1, h2, _⟩)
      · exact h
      · omega
  | c + 1, t, out, x => by
    rw [metF, metF_mem l s c (t + 1)]
    constructor
    · rintro (h | ⟨u, h1, h2, h3⟩)
      · split at h
        · rename_i e
          rcases List.mem_append.1 h with h | h
          · exact Or.inl h
          · exact Or.inr ⟨t, by omega, by omega, e.1, (List.mem_singleton.1 h).symm⟩
        · exact Or.inl h
      · exact Or.inr ⟨u, by omega, by omega, h3⟩
    · rintro (h | ⟨u, h1, h2, h3, h4⟩)
      · left
        split
        · exact List.mem_append_left _ h
        · exact h
      · by_cases e : u = t
        · subst e
          left
          split
          · rw [← h4]; exact List.mem_append_right _ (List.mem_singleton.2 rfl)
          · rename_i e
            rw [← h4]
            exact Classical.byContradiction fun hn => e ⟨h3, hn⟩
        · right; exact ⟨u, by omega, by omega, h3, h4⟩
theorem metF_nodup (l : List Int) (s : Int) : ∀ c t out, out.Nodup → (metF l s out t c).Nodup
  | 0, _, _, h => h
  | c + 1, t, out, h => by
    rw [metF]
    refine metF_nodup l s c (t + 1) _ ?_
    split
    · rename_i e
      rw [List.nodup_append]
      refine ⟨h, by simp, fun a ha b hb => ?_⟩
      rw [List.mem_singleton] at hb
      subst hb
      intro e2; subst e2; exact e.2 ha
    · exact h
/-- The places up to the end at which something holds. -/
def heldF (p : Nat → Bool) (n : Nat) : List Int := ((List.range n).filter p).map (fun i : Nat => (i : Int))
theorem heldF_succ (p : Nat → Bool) (n : Nat) : heldF p (n + 1) = heldF p n ++ if p n = true then [(n : Int)] else [] := by
  unfold heldF
  rw [List.range_succ, List.filter_append, List.map_append]
  by_cases h : p n = true
  · simp [h]
  · simp [h]
theorem heldF_mem (p : Nat → Bool) (n : Nat) (x : Int) : x ∈ heldF p n ↔ ∃ i : Nat, i < n ∧ p i = true ∧ (i : Int) = x := by
  unfold heldF
  simp [List.mem_filter, and_assoc]
theorem heldF_sorted (p : Nat → Bool) (n : Nat) : (heldF p n).Pairwise (fun a b => a < b) := by
  unfold heldF
  rw [List.pairwise_map]
  refine ((List.pairwise_lt_range (n := n)).filter p).imp ?_
  intro a b h
  omega
theorem sorted_is (a b : List Int) (ha : a.Nodup) (hb : b.Pairwise (fun a b => a < b)) (h : ∀ x, x ∈ a ↔ x ∈ b) : (a.mergeSort fun x y => decide (x ≤ y)) = b := by
  have tr : ∀ x y z : Int, decide (x ≤ y) = true → decide (y ≤ z) = true → decide (x ≤ z) = true := by
    intro x y z h1 h2; simp only [decide_eq_true_eq] at *; omega
  have tot : ∀ x y : Int, (decide (x ≤ y) || decide (y ≤ x)) = true := by
    intro x y; simp only [Bool.or_eq_true, decide_eq_true_eq]; omega
  have hbn : b.Nodup := hb.imp fun {x y} h e => by omega
  refine List.Perm.eq_of_pairwise (le := fun x y => decide (x ≤ y) = true) (fun x y _ _ h1 h2 => by simp only [decide_eq_true_eq] at h1 h2; omega) (List.pairwise_mergeSort tr tot a) (hb.imp fun {x y} h => by simp only [decide_eq_true_eq]; omega) ((List.mergeSort_perm a _).trans ?_)
  exact (List.perm_ext_iff_of_nodup ha hbn).2 h
/-- Whether some part of the set falls at a place. -/
def reachB (l : List Int) (s : Int) (i : Nat) : Bool := if i < l.length then fallN l (Go.bits .and .i64 s (l.getD i 0)) == i else fallN l s == l.length
theorem reachB_iff (l : List Int) (hb : isBar l = true) (s : Nat) (hs : s < 128) (i : Nat) (hi : i < l.length + 1) : reachB l (s : Int) i = true ↔ ∃ t : Nat, t < 128 ∧ partB (t : Int) (s : Int) = true ∧ fallN l (t : Int) = i := by
  rw [reach_iff l hb s hs i]
  unfold reachB
  by_cases h : i < l.length
  · rw [if_pos h, show l.getD i 0 = l[i] by simp [List.getD_eq_getElem?_getD, h], beq_iff_eq]
    constructor
    · exact fun e => Or.inl ⟨h, e⟩
    · rintro (⟨_, e⟩ | ⟨e, _⟩)
      · exact e
      · omega
  · rw [if_neg h, beq_iff_eq]
    constructor
    · exact fun e => Or.inr ⟨by omega, e⟩
    · rintro (⟨e, _⟩ | ⟨_, e⟩)
      · exact absurd e h
      · exact e
/-- What the two give is one. -/
theorem reach_same (l : List Int) (hb : isBar l = true) (s : Nat) (hs : s < 128) : ((metF l (s : Int) [] 0 128).mergeSort fun x y => decide (x ≤ y)) = heldF (reachB l (s : Int)) (l.length + 1) := by
  refine sorted_is _ _ (metF_nodup l _ 128 0 [] List.nodup_nil) (heldF_sorted _ _) (fun x => ?_)
  rw [metF_mem, heldF_mem]
  constructor
  · rintro (h | ⟨u, _, h2, h3, rfl⟩)
    · exact absurd h (by simp)
    · have := fallN_le l (u : Int)
      exact ⟨fallN l (u : Int), by omega, (reachB_iff l hb s hs _ (by omega)).2 ⟨u, by omega, h3, rfl⟩, rfl⟩
  · rintro ⟨i, h1, h2, rfl⟩
    obtain ⟨t, ht, hp, e⟩ := (reachB_iff l hb s hs i h1).1 h2
    exact Or.inr ⟨t, Nat.zero_le _, by omega, hp, by rw [e]⟩
end Go.Proofs.Ythdgkjnhjihkpaa.Q
