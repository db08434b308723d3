/- Drawn bars: that the reference's draws give something. Conditions: the cursor stands within its list. -/
import Derived.Test.YthdgkjnhjihkpaaP0
import Derived.Test.YthdgkjnhjihkpaaPBar
import Derived.Test.YthdgkjnhjihkpaaPDup
import Derived.Test.YthdgkjnhjihkpaaPOrders
import Derived.Test.YthdgkjnhjihkpaaQ1
import Derived.Test.YthdgkjnhjihkpaaQ5
namespace Go.Proofs.Ythdgkjnhjihkpaa.Q
open Go.RowKit Go.Proofs.YthdgkjnhjihkpaaW.PrintWords Go.Proofs.YthdgkjnhjihkpaaW.PrintLast Go.Proofs.YthdgkjnhjihkpaaW.PrintMore
set_option linter.unusedVariables false
set_option linter.unusedSimpArgs false
theorem part_le_all : ∀ s : Nat, s < 128 → ∀ t : Nat, t < 128 → partB (s : Int) (t : Int) = true → s ≤ t := by decide +kernel
theorem exists_min (P : Nat → Prop) : ∀ v, P v → ∃ m, P m ∧ ∀ u, u < m → ¬ P u := by
  intro v
  induction v using Nat.strongRecOn with
  | ind v ih =>
    intro hv
    by_cases h : ∃ u, u < v ∧ P u
    · obtain ⟨u, hu, hpu⟩ := h
      exact ih u hu hpu
    · exact ⟨v, hv, fun u hu hpu => h ⟨u, hu, hpu⟩⟩
theorem dup_no (l : List Int) : ∀ d i, l.length - i = d → dupFrom l i (l.drop i) = false → ∀ j (hj : j < l.length), i ≤ j → l[j] ∉ l.take j := by
  intro d
  induction d with
  | zero => intro i hd _ j hj hij; omega
  | succ d ih =>
    intro i hd hf j hj hij
    have hi : i < l.length := by omega
    rw [List.drop_eq_getElem_cons hi, dupFrom, Bool.or_eq_false_iff, decide_eq_false_iff_not] at hf
    by_cases e : j = i
    · subst e; exact hf.1
    · exact ih (i + 1) (by omega) hf.2 j hj (by omega)
theorem no_two (l : List Int) (h : dupFrom l 0 l = false) (i j : Nat) (hi : i < l.length) (hj : j < l.length) (hne : i ≠ j) : l[i] ≠ l[j] := by
  have key : ∀ i j (hi : i < l.length) (hj : j < l.length), i < j → l[i] ≠ l[j] := by
    intro i j hi hj hlt e
    have := dup_no l l.length 0 rfl (by rw [List.drop_zero]; exact h) j hj (by omega)
    apply this
    rw [← e]
    rw [List.mem_take_iff_getElem]
    exact ⟨i, by omega, rfl⟩
  rcases Nat.lt_or_gt_of_ne hne with h' | h'
  · exact key i j hi hj h'
  · exact fun e => key j i hj hi h' e.symm
theorem ff_true (l : List Int) (b : Nat → Bool) (j : Nat) : ∀ c i, (∀ m, i ≤ m → m < i + c → m ≠ j → b m = true → partB (l.getD m 0) (l.getD j 0) = false) → ff l b j i c = true
  | 0, i, _ => rfl
  | c + 1, i, h => by
    have ih := ff_true l b j c (i + 1) (fun m h1 h2 => h m (by omega) (by omega))
    rw [ff]
    by_cases e : i = j
    · rw [if_pos e]; exact ih
    · rw [if_neg e]
      by_cases hb : b i = true
      · rw [if_pos hb, h i (Nat.le_refl _) (by omega) e hb, if_neg (by decide)]; exact ih
      · rw [if_neg hb]; exact ih
theorem free_ev (l : List Int) (b : List Bool) (j : Nat) (hb : b.length = l.length) (hn : l.length ≤ 1000) (hj : j < l.length) : Ev (fun k => spec_l1Free.f k l b (j : Int)) (ff l (fun i => b.getD i false) j 0 l.length) := by
  have main : ∀ c i, i + c = l.length → Ev (fun k => spec_l1Free.l0 k l b (j : Int) l (l.length : Int) (i : Int)) (ff l (fun i => b.getD i false) j i c) := by
    intro c
    induction c with
    | zero =>
      intro i hi
      refine ev_step1 (fun k => ?_)
      simp only [spec_l1Free.l0]
      rw [if_neg (by omega), ff]
    | succ c ih =>
      intro i hi
      have h := ih (i + 1) (by omega)
      have hr : rdOf false b (i : Int) = b.getD i false := by simp [rdOf]
      rw [ff]
      by_cases e : i = j
      · rw [if_pos e]
        refine Ev.step (fun k => ?_) h
        simp only [spec_l1Free.l0]
        rw [if_pos (by omega), if_pos (by omega), if_pos (by omega), if_pos (by omega), w1 i (by omega)]
      · rw [if_neg e]
        by_cases hbi : b.getD i false = true
        · rw [if_pos hbi]
          by_cases hp : partB (l.getD i 0) (l.getD j 0) = true
          · rw [if_pos hp]
            refine ev_step1 (fun k => ?_)
            simp only [spec_l1Free.l0]
            rw [if_pos (by omega), if_pos (by omega), if_pos (by omega), if_neg (by omega), if_pos (by omega), hr, if_pos hbi, if_pos (by omega), if_pos (by omega), rd_getD, rd_getD, spec_part_eq, Option.bind_some, if_pos hp]
          · rw [if_neg hp]
            refine Ev.step (fun k => ?_) h
            simp only [spec_l1Free.l0]
            rw [if_pos (by omega), if_pos (by omega), if_pos (by omega), if_neg (by omega), if_pos (by omega), hr, if_pos hbi, if_pos (by omega), if_pos (by omega), rd_getD, rd_getD, spec_part_eq, Option.bind_some, if_neg hp, w1 i (by omega)]
        · rw [if_neg hbi]
          refine Ev.step (fun k => ?_) h
          simp only [spec_l1Free.l0]
          rw [if_pos (by omega), if_pos (by omega), if_pos (by omega), if_neg (by omega), if_pos (by omega), hr, if_neg hbi, w1 i (by omega)]
  exact main l.length 0 (by omega)
/-- Of distinct sets that are left, one is free. -/
theorem some_free (l : List Int) (hbar : isBar l = true) (hd : dupFrom l 0 l = false) (b : List Bool) (hb : b.length = l.length) (j0 : Nat) (h0 : j0 < l.length) (ht : b.getD j0 false = true) :
    ∃ j, j < l.length ∧ b.getD j false = true ∧ ff l (fun i => b.getD i false) j 0 l.length = true := by
  obtain ⟨_, _, hs⟩ := (isBar_iff l).1 hbar
  obtain ⟨m, ⟨j, hj, hbj, hm⟩, hmin⟩ := exists_min (fun v => ∃ j, ∃ _ : j < l.length, b.getD j false = true ∧ (l.getD j 0).toNat = v) _ ⟨j0, h0, ht, rfl⟩
  refine ⟨j, hj, hbj, ff_true l _ j l.length 0 (fun i _ h2 hne hbi => ?_)⟩
  have hi : i < l.length := by omega
  have hsi := hs l[i] (List.getElem_mem hi)
  have hsj := hs l[j] (List.getElem_mem hj)
  have hne2 := no_two l hd i j hi hj hne
  rw [getD_nat l j hj] at hm ⊢
  rw [getD_nat l i hi]
  by_cases hp : partB l[i] l[j] = true
  · exfalso
    have h3 := part_le_all l[i].toNat (by omega) l[j].toNat (by omega)
    rw [show ((l[i].toNat : Nat) : Int) = l[i] by omega, show ((l[j].toNat : Nat) : Int) = l[j] by omega] at h3
    have h4 := h3 hp
    exact hmin l[i].toNat (by omega) ⟨i, hi, hbi, by rw [getD_nat l i hi]⟩
  · simpa using hp
end Go.Proofs.Ythdgkjnhjihkpaa.Q
