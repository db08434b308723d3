/- What the program's and the reference's ReachOf give, by running. Conditions: the list is no longer than 2^40. -/
import Derived.Test.YthdgkjnhjihkpaaP0
import Derived.Test.YthdgkjnhjihkpaaPBar
import Derived.Test.YthdgkjnhjihkpaaPDup
import Derived.Test.YthdgkjnhjihkpaaPReach
import Derived.Test.YthdgkjnhjihkpaaQ1
import Derived.Test.YthdgkjnhjihkpaaQ8
namespace Go.Proofs.Ythdgkjnhjihkpaa.Q
open Go.RowKit Go.Proofs.YthdgkjnhjihkpaaW.PrintWords Go.Proofs.YthdgkjnhjihkpaaW.PrintLast Go.Proofs.YthdgkjnhjihkpaaW.PrintMore
set_option linter.unusedVariables false
set_option linter.unusedSimpArgs false
def reachL (l : List Int) (s : Int) : List Int := if isBar l = true ∧ isSetB s = true then heldF (reachB l s) (l.length + 1) else []
theorem heldF_len (p : Nat → Bool) (n : Nat) : (heldF p n).length ≤ n := by
  unfold heldF
  rw [List.length_map]
  have := List.length_filter_le p (List.range n)
  rw [List.length_range] at this
  exact this
theorem impl_reach_loop (l : List Int) (s : Int) (hl : l.length ≤ 1000) : ∀ c t (out : List Int), t + c = 128 → out.length ≤ t → Ev (fun k => impl_ReachOf.l0 k l s out (t : Int)) ((metF l s out t c).mergeSort fun x y => decide (x ≤ y)) := by
  intro c
  induction c with
  | zero =>
    intro t out ht ho
    refine ev_step1 (fun k => ?_)
    simp only [impl_ReachOf.l0, slices_Sort_int_int.f, metF]
    rw [if_neg (by omega), if_pos (by omega), Option.bind_some]
  | succ c ih =>
    intro t out ht ho
    rw [metF]
    obtain ⟨K1, f1⟩ := impl_fall_ev l (t : Int) (by omega)
    obtain ⟨K2, f2⟩ := contains_ev out ((fallN l (t : Int) : Nat) : Int) (by omega)
    by_cases hp : partB (t : Int) s = true
    · by_cases hm : ((fallN l (t : Int) : Nat) : Int) ∈ out
      · rw [if_neg (fun h => h.2 hm)]
        obtain ⟨K3, f3⟩ := ih (t + 1) out (by omega) (by omega)
        refine ⟨K1 + K2 + K3 + 1, fun k hk => ?_⟩
        obtain ⟨k, rfl⟩ : ∃ m, k = m + 1 := ⟨k - 1, by omega⟩
        simp only [impl_ReachOf.l0, f1 k (by omega), impl_part_eq, hp, f2 k (by omega), decide_eq_true hm, Option.bind_some, if_true, w1 t (show t ≤ 4611686018427387904 by omega)]
        rw [if_pos (by omega)]
        exact f3 k (by omega)
      · rw [if_pos ⟨hp, hm⟩]
        obtain ⟨K3, f3⟩ := ih (t + 1) (out ++ [((fallN l (t : Int) : Nat) : Int)]) (by omega) (by simp only [List.length_append, List.length_singleton]; omega)
        refine ⟨K1 + K2 + K3 + 1, fun k hk => ?_⟩
        obtain ⟨k, rfl⟩ : ∃ m, k = m + 1 := ⟨k - 1, by omega⟩
        simp only [impl_ReachOf.l0, f1 k (by omega), impl_part_eq, hp, f2 k (by omega), decide_eq_false hm, Option.bind_some, if_true, Bool.false_eq_true, if_false, w1 t (show t ≤ 4611686018427387904 by omega)]
        rw [if_pos (by omega), if_pos (by omega)]
        exact f3 k (by omega)
    · rw [if_neg (fun h => hp h.1)]
      obtain ⟨K3, f3⟩ := ih (t + 1) out (by omega) (by omega)
      refine ⟨K1 + K2 + K3 + 1, fun k hk => ?_⟩
      obtain ⟨k, rfl⟩ : ∃ m, k = m + 1 := ⟨k - 1, by omega⟩
      simp only [impl_ReachOf.l0, f1 k (by omega), impl_part_eq, show partB (t : Int) s = false by simpa using hp, Option.bind_some, Bool.false_eq_true, if_false, w1 t (show t ≤ 4611686018427387904 by omega)]
      rw [if_pos (by omega)]
      exact f3 k (by omega)
theorem impl_ReachOf_ev (l : List Int) (s : Int) : Ev (fun k => impl_ReachOf.f k l s) (reachL l s) := by
  unfold reachL
  by_cases hb : isBar l = true
  · have h40 := ((isBar_iff l).1 hb).2.1
    by_cases hs : isSetB s = true
    · obtain ⟨s0, s1⟩ := (isSetB_iff s).1 hs
      obtain ⟨n, rfl⟩ : ∃ n : Nat, s = n := ⟨s.toNat, by omega⟩
      obtain ⟨K2, f2⟩ := impl_reach_loop l (n : Int) (by omega) 128 0 [] (by omega) (by simp)
      rw [reach_same l hb n (by omega)] at f2
      rw [if_pos ⟨hb, hs⟩]
      refine ⟨K2 + 1, fun k hk => ?_⟩
      obtain ⟨k, rfl⟩ : ∃ m, k = m + 1 := ⟨k - 1, by omega⟩
      simp only [impl_ReachOf.f, isBar_eq, hb, isSet_eq, hs, Option.bind_some, if_true, Bool.not_true, impl_ReachOf.j0, Bool.false_eq_true, if_false]
      exact f2 k (by omega)
    · rw [if_neg (fun h => hs h.2)]
      refine ev_step1 (fun k => ?_)
      simp only [impl_ReachOf.f, isBar_eq, hb, isSet_eq, show isSetB s = false by simpa using hs, Option.bind_some, if_true, Bool.not_false, impl_ReachOf.j0]
  · rw [if_neg (fun h => hb h.1)]
    refine ev_step1 (fun k => ?_)
    simp only [impl_ReachOf.f, isBar_eq, show isBar l = false by simpa using hb, Option.bind_some, Bool.false_eq_true, if_false, impl_ReachOf.j0, if_true]
end Go.Proofs.Ythdgkjnhjihkpaa.Q
