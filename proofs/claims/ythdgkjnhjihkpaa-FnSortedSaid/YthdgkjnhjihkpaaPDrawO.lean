/- The order of a drawn bar: that the reference gives one. Conditions: those that each lemma names. -/
import Derived.Test.YthdgkjnhjihkpaaP0
import Derived.Test.YthdgkjnhjihkpaaPBar
import Derived.Test.YthdgkjnhjihkpaaPDrawT
import Derived.Test.YthdgkjnhjihkpaaPDup
import Derived.Test.YthdgkjnhjihkpaaPOrders
import Derived.Test.YthdgkjnhjihkpaaQ1
import Derived.Test.YthdgkjnhjihkpaaQ5
import Derived.Test.YthdgkjnhjihkpaaQ6
namespace Go.Proofs.Ythdgkjnhjihkpaa.Q
open Go.RowKit Go.Proofs.YthdgkjnhjihkpaaW.PrintWords Go.Proofs.YthdgkjnhjihkpaaW.PrintLast Go.Proofs.YthdgkjnhjihkpaaW.PrintMore
set_option linter.unusedVariables false
set_option linter.unusedSimpArgs false
theorem order_l2 (l : List Int) (b : List Bool) (out : List Int) (hb : b.length = l.length) (hn : l.length ≤ 1000) (ho : out.length ≤ 1000)
    (hnext : ∀ j (hj : j < l.length), b.getD j false = true → ∃ r, Ev (fun k => spec_OrderBar.l1 k l (b.set j false) (out ++ [l[j]])) (r, true) ∧ r.length = l.length) :
    ∀ d i, l.length - i = d → (∃ j, i ≤ j ∧ j < l.length ∧ b.getD j false = true ∧ ff l (fun i => b.getD i false) j 0 l.length = true) →
      ∃ r, Ev (fun k => spec_OrderBar.l2 k l b out l (l.length : Int) (i : Int)) (r, true) ∧ r.length = l.length := by
  intro d
  induction d with
  | zero => rintro i hd ⟨j, h1, h2, _⟩; omega
  | succ d ih =>
    rintro i hd ⟨j, h1, h2, h3, h4⟩
    have hi : i < l.length := by omega
    have hr : rdOf false b (i : Int) = b.getD i false := by simp [rdOf]
    by_cases hbi : b.getD i false = true
    · have hfree := free_ev l b i hb hn hi
      by_cases hf : ff l (fun i => b.getD i false) i 0 l.length = true
      · rw [hf] at hfree
        obtain ⟨r, hr1, hr2⟩ := hnext i hi hbi
        refine ⟨r, ?_, hr2⟩
        refine Ev.step (f := fun k => (spec_l1Free.f k l b (i : Int)).bind fun t => if t = true then spec_OrderBar.l1 k l (b.set i false) (out ++ [l[i]]) else spec_OrderBar.l2 k l b out l (l.length : Int) ((i + 1 : Nat) : Int)) (fun k => ?_) (Ev.bind (f := fun k t => if t = true then spec_OrderBar.l1 k l (b.set i false) (out ++ [l[i]]) else spec_OrderBar.l2 k l b out l (l.length : Int) ((i + 1 : Nat) : Int)) hfree (by simp only [if_true]; exact hr1))
        simp only [spec_OrderBar.l2]
        rw [if_pos (by omega), if_pos (by omega), if_pos (by omega), if_pos (by omega), hr, if_pos hbi, if_pos (show out.length < 17592186044416 by omega), rd_nat l i hi, w1 i (by omega), Int.toNat_natCast]
      · have hf' : ff l (fun i => b.getD i false) i 0 l.length = false := by simpa using hf
        rw [hf'] at hfree
        have hne : i ≠ j := fun e => by subst e; exact hf h4
        obtain ⟨r, hr1, hr2⟩ := ih (i + 1) (by omega) ⟨j, by omega, h2, h3, h4⟩
        refine ⟨r, ?_, hr2⟩
        refine Ev.step (f := fun k => (spec_l1Free.f k l b (i : Int)).bind fun t => if t = true then spec_OrderBar.l1 k l (b.set i false) (out ++ [l[i]]) else spec_OrderBar.l2 k l b out l (l.length : Int) ((i + 1 : Nat) : Int)) (fun k => ?_) (Ev.bind (f := fun k t => if t = true then spec_OrderBar.l1 k l (b.set i false) (out ++ [l[i]]) else spec_OrderBar.l2 k l b out l (l.length : Int) ((i + 1 : Nat) : Int)) hfree (by simp only [Bool.false_eq_true, if_false]; exact hr1))
        simp only [spec_OrderBar.l2]
        rw [if_pos (by omega), if_pos (by omega), if_pos (by omega), if_pos (by omega), hr, if_pos hbi, if_pos (show out.length < 17592186044416 by omega), rd_nat l i hi, w1 i (by omega), Int.toNat_natCast]
    · have hne : i ≠ j := fun e => by subst e; exact hbi h3
      obtain ⟨r, hr1, hr2⟩ := ih (i + 1) (by omega) ⟨j, by omega, h2, h3, h4⟩
      refine ⟨r, Ev.step (fun k => ?_) hr1, hr2⟩
      simp only [spec_OrderBar.l2]
      rw [if_pos (by omega), if_pos (by omega), if_pos (by omega), if_pos (by omega), hr, if_neg hbi, w1 i (by omega)]
theorem order_l1 (l : List Int) (hbar : isBar l = true) (hd : dupFrom l 0 l = false) : ∀ c (b : List Bool) (out : List Int), b.length = l.length → b.count true = c → out.length + c = l.length →
    ∃ r, Ev (fun k => spec_OrderBar.l1 k l b out) (r, true) ∧ r.length = l.length := by
  obtain ⟨l1, l2, _⟩ := (isBar_iff l).1 hbar
  intro c
  induction c with
  | zero =>
    intro b out hb hc ho
    exact ⟨out, ev_step1 (fun k => by simp only [spec_OrderBar.l1]; rw [if_neg (by omega)]), by omega⟩
  | succ c ih =>
    intro b out hb hc ho
    have hmem : true ∈ b := List.count_pos_iff.1 (by omega)
    obtain ⟨j0, hj0, hbj⟩ := List.getElem_of_mem hmem
    obtain ⟨j, h1, h2, h3⟩ := some_free l hbar hd b hb j0 (by omega) (by rw [List.getD_eq_getElem?_getD, List.getElem?_eq_getElem hj0, hbj]; rfl)
    obtain ⟨r, hr1, hr2⟩ := order_l2 l b out hb (by omega) (by omega) (fun q hq hbq => by
      have hqb : q < b.length := by omega
      rw [List.getD_eq_getElem?_getD, List.getElem?_eq_getElem hqb] at hbq
      simp only [Option.getD_some] at hbq
      refine ih (b.set q false) (out ++ [l[q]]) (by rw [List.length_set]; exact hb) ?_ (by simp only [List.length_append, List.length_singleton]; omega)
      rw [List.count_set hqb, hbq]
      simp
      omega) l.length 0 rfl ⟨j, by omega, h1, h2, h3⟩
    refine ⟨r, Ev.step (fun k => ?_) hr1, hr2⟩
    simp only [spec_OrderBar.l1]
    rw [if_pos (by omega)]
    rfl
theorem order_l0 (l : List Int) (hbar : isBar l = true) (hd : dupFrom l 0 l = false) : ∀ c i (b : List Bool), i + c = l.length → b.length = l.length → (∀ j, j < i → b[j]? = some true) →
    ∃ r, Ev (fun k => spec_OrderBar.l0 k l b (l.length : Int) (i : Int)) (r, true) ∧ r.length = l.length := by
  obtain ⟨l1, l2, _⟩ := (isBar_iff l).1 hbar
  intro c
  induction c with
  | zero =>
    intro i b hi hb hx
    have e : b = List.replicate l.length true := by
      apply List.ext_getElem (by rw [hb, List.length_replicate])
      intro j h1 h2
      have := hx j (by omega)
      rw [List.getElem?_eq_getElem h1] at this
      rw [Option.some.inj this, List.getElem_replicate]
    subst e
    obtain ⟨r, hr1, hr2⟩ := order_l1 l hbar hd l.length (List.replicate l.length true) [] (by simp) (by simp) (by simp)
    refine ⟨r, Ev.step (fun k => ?_) hr1, hr2⟩
    simp only [spec_OrderBar.l0]
    rw [if_neg (by omega)]
  | succ c ih =>
    intro i b hi hb hx
    obtain ⟨r, hr1, hr2⟩ := ih (i + 1) (b.set i true) (by omega) (by rw [List.length_set, hb]) (fun j hj => by
      rw [List.getElem?_set]
      by_cases e : i = j
      · subst e; rw [if_pos rfl, if_pos (by omega)]
      · rw [if_neg e]; exact hx j (by omega))
    refine ⟨r, Ev.step (fun k => ?_) hr1, hr2⟩
    simp only [spec_OrderBar.l0]
    rw [if_pos (by omega), if_pos (by omega), if_pos (by omega), w1 i (by omega), Int.toNat_natCast]
theorem orderBar_ok (l : List Int) (hbar : isBar l = true) (hd : dupFrom l 0 l = false) : ∃ r, Ev (fun k => spec_OrderBar.f k l) (r, true) ∧ r.length = l.length := by
  obtain ⟨l1, l2, _⟩ := (isBar_iff l).1 hbar
  have hs := spec_l1Sets_ev l (by omega)
  rw [hd, hbar] at hs
  obtain ⟨r, hr1, hr2⟩ := order_l0 l hbar hd l.length 0 (List.replicate l.length false) (by omega) (by simp) (fun j hj => absurd hj (Nat.not_lt_zero j))
  refine ⟨r, Ev.bind (f := fun k t => if t = true then (if 0 ≤ (l.length : Int) then (if ((l.length : Int) : Int).toNat ≤ 281474976710656 then ((some (List.replicate ((l.length : Int) : Int).toNat false : List Bool)).bind fun y155 => (spec_OrderBar.l0 k l y155 (y155.length : Int) 0)) else (none)) else (none)) else (some (([] : List Int), false))) hs ?_, hr2⟩
  refine ev_eq hr1 (fun k => ?_)
  rw [if_pos (by decide), if_pos (by omega), Int.toNat_natCast, if_pos (by omega), Option.bind_some, List.length_replicate]
  rfl
end Go.Proofs.Ythdgkjnhjihkpaa.Q
