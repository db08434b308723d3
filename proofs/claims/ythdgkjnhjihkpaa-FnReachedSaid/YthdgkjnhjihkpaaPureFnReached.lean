/- The places that are reached are those at which parts fall. No conditions beyond those of the statement's reading. -/
import Derived.Test.YthdgkjnhjihkpaaP0
import Derived.Test.YthdgkjnhjihkpaaPBar
import Derived.Test.YthdgkjnhjihkpaaPDrawF
import Derived.Test.YthdgkjnhjihkpaaPFallOf
import Derived.Test.YthdgkjnhjihkpaaPIntsL
import Derived.Test.YthdgkjnhjihkpaaPReach
import Derived.Test.YthdgkjnhjihkpaaPReachE
import Derived.Test.YthdgkjnhjihkpaaPTeeth
import Derived.Test.YthdgkjnhjihkpaaQ1
import Derived.Test.YthdgkjnhjihkpaaQ7
import Derived.Test.YthdgkjnhjihkpaaQ9
namespace Go.Proofs.Ythdgkjnhjihkpaa.Pure
open Go.RowKit Go.Proofs.Ythdgkjnhjihkpaa.Q Go.Proofs.YthdgkjnhjihkpaaW.PrintWords Go.Proofs.YthdgkjnhjihkpaaW.PrintLast Go.Proofs.YthdgkjnhjihkpaaW.PrintMore
set_option linter.unusedVariables false
set_option linter.unusedSimpArgs false
theorem want_loop (L x6 : List Int) (n : Nat) (hn : x6.length = n) (hn2 : n ≤ 1000) (p : Nat → Bool) (hp : ∀ i, i < n → (p i = true ↔ 0 < x6.getD i 0)) (hL : L = heldF p n) : ∀ d i, i + d = n → Ev (fun k => laws_FnReached.l1 k L (heldF p i) x6 (x6.length : Int) (i : Int)) true := by
  intro d
  induction d with
  | zero =>
    intro i hi
    obtain rfl : i = n := by omega
    have h := ints_ev L (heldF p i) (by rw [hL]; have := heldF_len p i; omega)
    rw [decide_eq_true hL] at h
    refine Ev.step (f := fun k => (laws_ints.f k L (heldF p i)).bind fun t => some t) (fun k => ?_) (Ev.bind (f := fun _ t => some t) h (Ev.now _))
    simp only [laws_FnReached.l1]
    rw [if_neg (by omega)]
  | succ d ih =>
    intro i hi
    have hi' : i < x6.length := by omega
    have h := ih (i + 1) (by omega)
    have hlen := heldF_len p i
    rw [heldF_succ] at h
    have hr : rd x6 (i : Int) = x6.getD i 0 := by simp [rd]
    by_cases c : p i = true
    · rw [if_pos c] at h
      refine Ev.step (fun k => ?_) h
      have := (hp i (by omega)).1 c
      simp only [laws_FnReached.l1]
      rw [if_pos (by omega), if_pos (by omega), if_pos (by omega), hr, if_pos this, if_pos (by omega), w1 i (by omega)]
    · rw [if_neg c, List.append_nil] at h
      refine Ev.step (fun k => ?_) h
      have : ¬ 0 < x6.getD i 0 := fun h => c ((hp i (by omega)).2 h)
      simp only [laws_FnReached.l1]
      rw [if_pos (by omega), if_pos (by omega), if_pos (by omega), hr, if_neg this, w1 i (by omega)]
theorem hit_loop (l : List Int) (hb : isBar l = true) (s : Nat) (hs : s < 128) : ∀ c t (x6 : List Int), t + c = s + 1 → x6.length = l.length + 1 → (∀ i, i < l.length + 1 → 0 ≤ x6.getD i 0 ∧ x6.getD i 0 ≤ t ∧ (0 < x6.getD i 0 ↔ ∃ u : Nat, u < t ∧ partB (u : Int) (s : Int) = true ∧ fallN l (u : Int) = i)) →
    Ev (fun k => laws_FnReached.l0 k l (s : Int) (heldF (reachB l (s : Int)) (l.length + 1)) x6 (t : Int)) true := by
  obtain ⟨_, h40, _⟩ := (isBar_iff l).1 hb
  intro c
  induction c with
  | zero =>
    intro t x6 ht hx hI
    have hw := want_loop (heldF (reachB l (s : Int)) (l.length + 1)) x6 (l.length + 1) hx (by omega) (reachB l (s : Int)) (fun i hi => by
      rw [reachB_iff l hb s hs i hi, (hI i hi).2.2]
      constructor
      · rintro ⟨u, h1, h2, h3⟩
        have := (part_nat u h1 s hs).1 h2
        have h4 : u &&& s ≤ s := Nat.and_le_right
        exact ⟨u, by omega, h2, h3⟩
      · rintro ⟨u, h1, h2, h3⟩
        exact ⟨u, by omega, h2, h3⟩) rfl (l.length + 1) 0 (by omega)
    refine Ev.step (fun k => ?_) hw
    simp only [laws_FnReached.l0]
    rw [if_neg (by omega)]
    rfl
  | succ c ih =>
    intro t x6 ht hx hI
    have hst : isSetB (t : Int) = true := (isSetB_iff _).2 ⟨by omega, by omega⟩
    obtain ⟨K1, f1⟩ := impl_FallOf_ev l (t : Int) (by omega)
    rw [fallOf, if_pos hb, if_pos hst] at f1
    have hle := fallN_le l (t : Int)
    by_cases hp : partB (t : Int) (s : Int) = true
    · have hz : Go.bits .andNot .i64 (t : Int) (s : Int) = 0 := by
        unfold partB at hp
        exact beq_iff_eq.1 hp
      have hn : fallN l (t : Int) < x6.length := by omega
      obtain ⟨a1, a2, a3⟩ := hI (fallN l (t : Int)) (by omega)
      have hr : rd x6 ((fallN l (t : Int) : Nat) : Int) = x6.getD (fallN l (t : Int)) 0 := by simp [rd]
      have hw : wrap64 (x6.getD (fallN l (t : Int)) 0 + 1) = x6.getD (fallN l (t : Int)) 0 + 1 := wrap_id _ (by omega) (by omega)
      obtain ⟨K2, f2⟩ := ih (t + 1) (x6.set (fallN l (t : Int)) (x6.getD (fallN l (t : Int)) 0 + 1)) (by omega) (by rw [List.length_set]; exact hx) (fun i hi => by
        obtain ⟨b1, b2, b3⟩ := hI i hi
        by_cases e : fallN l (t : Int) = i
        · subst e
          rw [List.getD_eq_getElem?_getD, List.getElem?_set_self hn, Option.getD_some]
          refine ⟨by omega, by omega, fun _ => ⟨t, by omega, hp, rfl⟩, fun _ => by omega⟩
        · rw [List.getD_eq_getElem?_getD, List.getElem?_set_ne e, ← List.getD_eq_getElem?_getD]
          refine ⟨b1, by omega, fun h => ?_, ?_⟩
          · obtain ⟨u, h1, h2, h3⟩ := b3.1 h
            exact ⟨u, by omega, h2, h3⟩
          · rintro ⟨u, h1, h2, h3⟩
            by_cases eu : u = t
            · subst eu; exact absurd h3 e
            · exact b3.2 ⟨u, by omega, h2, h3⟩)
      refine ⟨K1 + K2 + 1, fun k hk => ?_⟩
      obtain ⟨k, rfl⟩ : ∃ m, k = m + 1 := ⟨k - 1, by omega⟩
      have g2 := f2 k (by omega)
      simp only [laws_FnReached.l0, f1 k (by omega), Option.bind_some, hr, hw, w1 t (show t ≤ 4611686018427387904 by omega)]
      rw [if_pos (by omega), if_pos hz, if_pos (by omega), if_pos (by omega), if_pos (by omega), if_pos (by omega), Int.toNat_natCast]
      exact g2
    · have hz : ¬ Go.bits .andNot .i64 (t : Int) (s : Int) = 0 := fun h => hp (by unfold partB; exact beq_iff_eq.2 h)
      obtain ⟨K2, f2⟩ := ih (t + 1) x6 (by omega) hx (fun i hi => by
        obtain ⟨b1, b2, b3⟩ := hI i hi
        refine ⟨b1, by omega, fun h => ?_, ?_⟩
        · obtain ⟨u, h1, h2, h3⟩ := b3.1 h
          exact ⟨u, by omega, h2, h3⟩
        · rintro ⟨u, h1, h2, h3⟩
          by_cases eu : u = t
          · subst eu; exact absurd h2 hp
          · exact b3.2 ⟨u, by omega, h2, h3⟩)
      refine ⟨K1 + K2 + 1, fun k hk => ?_⟩
      obtain ⟨k, rfl⟩ : ∃ m, k = m + 1 := ⟨k - 1, by omega⟩
      simp only [laws_FnReached.l0, f1 k (by omega), Option.bind_some, w1 t (show t ≤ 4611686018427387904 by omega)]
      rw [if_pos (by omega), if_neg hz]
      exact f2 k (by omega)
theorem FnReached : laws_FnReached.Pure := by
  intro l hm hm2 hw
  by_cases hlen : (l.length : Int) > 1048576
  · exact ⟨0, by simp only [laws_FnReached.f, if_pos hlen]⟩
  obtain ⟨r, s, ⟨K1, h1⟩, hr⟩ := drawFallOf_ok l (by omega)
  obtain ⟨K2, h2⟩ := impl_ReachOf_ev r s
  obtain ⟨K3, h3⟩ := spec_IsBar_ev r (by omega)
  obtain ⟨K4, h4⟩ := spec_CountTeeth_ev s
  by_cases hb : isBar r = true
  · by_cases hs : isSetB s = true
    · obtain ⟨s0, s1⟩ := (isSetB_iff s).1 hs
      obtain ⟨n, rfl⟩ : ∃ n : Nat, s = n := ⟨s.toNat, by omega⟩
      have hL : reachL r (n : Int) = heldF (reachB r (n : Int)) (r.length + 1) := if_pos ⟨hb, hs⟩
      obtain ⟨K5, h5⟩ := hit_loop r hb n (by omega) (n + 1) 0 (List.replicate (r.length + 1) 0) (by omega) (by simp) (fun i hi => by
        have : (List.replicate (r.length + 1) (0 : Int)).getD i 0 = 0 := by
          rw [List.getD_eq_getElem?_getD, List.getElem?_replicate]
          split <;> rfl
        rw [this]
        exact ⟨by omega, by omega, fun h => absurd h (by omega), fun ⟨u, h1, _⟩ => absurd h1 (Nat.not_lt_zero u)⟩)
      have hw : wrap64 ((r.length : Int) + 1) = ((r.length + 1 : Nat) : Int) := w1 r.length (by omega)
      have hc : ¬ (countT (n : Int) < 0) := by unfold countT; rw [if_pos hs]; omega
      generalize hK : K1 + K2 + K3 + K4 + K5 = K
      have g1 := fun j => h1 (K + j) (by omega)
      have g2 := fun j => h2 (K + j) (by omega)
      have g3 := fun j => h3 (K + j) (by omega)
      have g4 := fun j => h4 (K + j) (by omega)
      have g5 := fun j => h5 (K + j) (by omega)
      refine ⟨K + 9, ?_⟩
      simp only [laws_FnReached.f, spec_DrawReachOf.f, if_neg hlen, g1, g2, g3, g4, Option.bind_some, hb, if_true]
      rw [decide_eq_false hc]
      simp only [laws_FnReached.j0, Bool.false_eq_true, if_false, hw, hL]
      rw [if_pos (by omega), Int.toNat_natCast, if_pos (by omega)]
      exact g5 8
    · have hL : reachL r s = [] := if_neg (fun h => hs h.2)
      have hc : countT s < 0 := by unfold countT; rw [if_neg hs]; omega
      generalize hK : K1 + K2 + K3 + K4 = K
      have g1 := fun j => h1 (K + j) (by omega)
      have g2 := fun j => h2 (K + j) (by omega)
      have g3 := fun j => h3 (K + j) (by omega)
      have g4 := fun j => h4 (K + j) (by omega)
      refine ⟨K + 9, ?_⟩
      simp only [laws_FnReached.f, spec_DrawReachOf.f, if_neg hlen, g1, g2, g3, g4, Option.bind_some, hb, if_true]
      rw [decide_eq_true hc]
      simp only [laws_FnReached.j0, if_true, hL]
      rfl
  · have hL : reachL r s = [] := if_neg (fun h => hb h.1)
    generalize hK : K1 + K2 + K3 = K
    have g1 := fun j => h1 (K + j) (by omega)
    have g2 := fun j => h2 (K + j) (by omega)
    have g3 := fun j => h3 (K + j) (by omega)
    refine ⟨K + 9, ?_⟩
    simp only [laws_FnReached.f, spec_DrawReachOf.f, if_neg hlen, g1, g2, g3, Option.bind_some, show isBar r = false by simpa using hb, Bool.false_eq_true, if_false]
    simp only [laws_FnReached.j0, if_true, hL]
    rfl
end Go.Proofs.Ythdgkjnhjihkpaa.Pure
