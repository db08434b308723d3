/- The least loss: what the program's and the reference's functions give. Conditions: none beyond those each lemma names. -/
import Derived.Test.YthdgkjnhjihkpaaP0
import Derived.Test.YthdgkjnhjihkpaaPBar
import Derived.Test.YthdgkjnhjihkpaaPTeeth
import Derived.Test.YthdgkjnhjihkpaaQ6
import Derived.Test.YthdgkjnhjihkpaaQ7
namespace Go.Proofs.Ythdgkjnhjihkpaa.Q
open Go.RowKit Go.Proofs.YthdgkjnhjihkpaaW.PrintWords Go.Proofs.YthdgkjnhjihkpaaW.PrintLast Go.Proofs.YthdgkjnhjihkpaaW.PrintMore
set_option linter.unusedVariables false
set_option linter.unusedSimpArgs false
theorem andNot_all : ∀ s : Nat, s < 128 → ∀ t : Nat, t < 128 → (0 ≤ Go.bits .andNot .i64 (s : Int) (t : Int) ∧ Go.bits .andNot .i64 (s : Int) (t : Int) ≤ (s : Int)) ∧ popc (Go.bits .andNot .i64 (s : Int) (t : Int)).toNat ≤ popc s := by decide +kernel
theorem popc_le (n : Nat) : popc n ≤ 7 := by unfold popc; omega
theorem andNot_facts (s t : Int) (hs : isSetB s = true) (ht : isSetB t = true) : 0 ≤ Go.bits .andNot .i64 s t ∧ Go.bits .andNot .i64 s t ≤ s ∧ Go.bits .andNot .i64 s t ≤ 127 ∧ popc (Go.bits .andNot .i64 s t).toNat ≤ popc s.toNat := by
  obtain ⟨h0, h1⟩ := (isSetB_iff s).1 hs
  obtain ⟨g0, g1⟩ := (isSetB_iff t).1 ht
  have h := andNot_all s.toNat (by omega) t.toNat (by omega)
  rw [Int.toNat_of_nonneg h0, Int.toNat_of_nonneg g0] at h
  exact ⟨h.1.1, h.1.2, by omega, h.2⟩
def lossOf (s t : Int) : Int := (popc (Go.bits .andNot .i64 s t).toNat : Int)
/-- The least loss over a list, from a number on. -/
def lossFold (s : Int) : Int → List Int → Int
  | a, [] => a
  | a, t :: rest => lossFold s (mn a (lossOf s t)) rest
theorem mn_right (a b : Int) (h : b ≤ a) : mn a b = b := by unfold mn; split <;> omega
theorem lossFold_seven (s : Int) (l : List Int) (h : l ≠ []) (hs : isSetB s = true) (ht : ∀ t ∈ l, isSetB t = true) : lossFold s 7 l = lossFold s (popc s.toNat : Int) l := by
  cases l with
  | nil => exact absurd rfl h
  | cons t rest =>
    have hf := (andNot_facts s t hs (ht t List.mem_cons_self)).2.2.2
    have h7 := popc_le s.toNat
    rw [lossFold, lossFold, mn_right 7 _ (by unfold lossOf; omega), mn_right (popc s.toNat : Int) _ (by unfold lossOf; omega)]
theorem impl_loss_loop (l : List Int) (hb : isBar l = true) (p : Nat) (hp : p < l.length) : ∀ i (a : Int), i ≤ p → True → Ev (fun k => impl_LossBefore.l0 k l (p : Int) a (l.take p) (p : Int) (i : Int)) (lossFold l[p] a ((l.take p).drop i)) := by
  obtain ⟨_, hl40, hall⟩ := (isBar_iff l).1 hb
  have hlen : (l.take p).length = p := by simp; omega
  refine ev_down (fun k a i => impl_LossBefore.l0 k l (p : Int) a (l.take p) (p : Int) i) p (fun _ _ => True) (fun i a => lossFold l[p] a ((l.take p).drop i)) ?_ ?_
  · intro a _
    refine ev_step1 (fun k => ?_)
    simp only [impl_LossBefore.l0]
    rw [if_neg (by omega), List.drop_eq_nil_of_le (by omega), lossFold]
  · intro i a hi _ ih
    have hi' : i < (l.take p).length := by omega
    have hs := hall l[p] (List.getElem_mem hp)
    have ht := hall l[i] (List.getElem_mem (by omega))
    have hf := andNot_facts l[p] l[i] ((isSetB_iff _).2 hs) ((isSetB_iff _).2 ht)
    have hg : (l.take p)[i] = l[i] := by simp
    rw [List.drop_eq_getElem_cons hi', lossFold, hg]
    refine Ev.step (f := fun k => impl_LossBefore.l0 k l (p : Int) (mn a (lossOf l[p] l[i])) (l.take p) (p : Int) ((i + 1 : Nat) : Int)) (fun k => ?_) (ih _ trivial)
    simp only [impl_LossBefore.l0]
    rw [if_pos (by omega), if_pos (by omega), if_pos (by omega), if_pos (by omega), if_pos (by omega), rd_nat l p hp, rd_nat _ i hi', hg, onesCount_eq _ hf.1 hf.2.2.1, Option.bind_some, w1 i (by omega)]
    rfl
/-- LossBefore; -1 where there is none. -/
def lossBefore (l : List Int) (p : Int) : Int := if isBar l = true ∧ 1 ≤ p ∧ p < l.length then lossFold (l.getD p.toNat 0) 7 (l.take p.toNat) else -1
theorem impl_LossBefore_ev (l : List Int) (p : Int) : Ev (fun k => impl_LossBefore.f k l p) (lossBefore l p) := by
  by_cases hb : isBar l = true
  · by_cases h1 : p < 1
    · rw [show lossBefore l p = -1 from if_neg (by omega)]
      refine Ev.step (f := fun _ => some (-1)) (fun k => ?_) (Ev.now _)
      simp only [impl_LossBefore.f, isBar_eq, hb, Option.bind_some, if_true, if_pos h1, impl_LossBefore.j0]
    · by_cases h2 : p ≥ (l.length : Int)
      · rw [show lossBefore l p = -1 from if_neg (by omega)]
        refine Ev.step (f := fun _ => some (-1)) (fun k => ?_) (Ev.now _)
        simp only [impl_LossBefore.f, isBar_eq, hb, Option.bind_some, if_true, if_neg h1, impl_LossBefore.j0, decide_eq_true h2]
      · obtain ⟨n, rfl⟩ := Int.eq_ofNat_of_zero_le (show 0 ≤ p by omega)
        have hn : n < l.length := by omega
        have h := impl_loss_loop l hb n hn 0 7 (by omega) trivial
        rw [List.drop_zero] at h
        rw [show lossBefore l (n : Int) = lossFold l[n] 7 (l.take n) from by
          unfold lossBefore
          rw [if_pos ⟨hb, by omega, by omega⟩, Int.toNat_natCast, List.getD_eq_getElem?_getD, List.getElem?_eq_getElem hn]; rfl]
        refine Ev.step (fun k => ?_) h
        simp only [impl_LossBefore.f, isBar_eq, hb, Option.bind_some, if_true, if_neg h1, impl_LossBefore.j0, decide_eq_false h2]
        rw [if_neg (by decide), if_pos (by omega), if_pos (by omega), Int.toNat_natCast, show max (n : Int) 0 = (n : Int) from by omega]
        rfl
  · rw [show lossBefore l p = -1 from if_neg (fun h => hb h.1)]
    refine Ev.step (f := fun _ => some (-1)) (fun k => ?_) (Ev.now _)
    simp [impl_LossBefore.f, isBar_eq, hb, impl_LossBefore.j0]
end Go.Proofs.Ythdgkjnhjihkpaa.Q
