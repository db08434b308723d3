/- The least loss is the least one of all parts that fall before the place. No conditions beyond those of the statement's reading. -/
import Derived.Test.YthdgkjnhjihkpaaP0
import Derived.Test.YthdgkjnhjihkpaaPBar
import Derived.Test.YthdgkjnhjihkpaaPDraw
import Derived.Test.YthdgkjnhjihkpaaPDrawA
import Derived.Test.YthdgkjnhjihkpaaPFallOf
import Derived.Test.YthdgkjnhjihkpaaPLoss
import Derived.Test.YthdgkjnhjihkpaaPTeeth
import Derived.Test.YthdgkjnhjihkpaaQ1
import Derived.Test.YthdgkjnhjihkpaaQ6
import Derived.Test.YthdgkjnhjihkpaaQ8
namespace Go.Proofs.Ythdgkjnhjihkpaa.Pure
open Go.RowKit Go.Proofs.Ythdgkjnhjihkpaa.Q Go.Proofs.YthdgkjnhjihkpaaW.PrintWords Go.Proofs.YthdgkjnhjihkpaaW.PrintLast Go.Proofs.YthdgkjnhjihkpaaW.PrintMore
set_option linter.unusedVariables false
set_option linter.unusedSimpArgs false
theorem mn_min (a b : Int) : mn a b ≤ a ∧ mn a b ≤ b := by unfold mn; split <;> omega
theorem mn_is (a b : Int) : mn a b = a ∨ mn a b = b := by unfold mn; split <;> omega
theorem andNot_count : ∀ b : Nat, b < 128 → ∀ t : Nat, t < 128 → popc (Go.bits .andNot .i64 (b : Int) (t : Int)).toNat + popc (b &&& t) = popc b := by decide +kernel
theorem popc_mono : ∀ s : Nat, s < 128 → ∀ u : Nat, u < 128 → s &&& u = s → popc s ≤ popc u := by decide +kernel
theorem part_and : ∀ s : Nat, s < 128 → ∀ t : Nat, t < 128 → (partB (s : Int) (t : Int) = true ↔ s &&& t = s) := by decide +kernel
theorem part_zero : ∀ s : Nat, s < 128 → ∀ t : Nat, t < 128 → (Go.bits .andNot .i64 (s : Int) (t : Int) = 0 ↔ s &&& t = s) := by decide +kernel
theorem and_part (b t s : Nat) (h1 : s &&& b = s) (h2 : s &&& t = s) : s &&& (b &&& t) = s := by rw [← Nat.and_assoc, h1, h2]
theorem and_self_l (b t : Nat) : (b &&& t) &&& b = b &&& t := by rw [Nat.and_comm b t, Nat.and_assoc, Nat.and_self]
theorem and_self_r (b t : Nat) : (b &&& t) &&& t = b &&& t := by rw [Nat.and_assoc, Nat.and_self]
/-- The least over the numbers from s on. -/
def leastF (cond : Nat → Bool) (val : Nat → Int) : Int → Nat → Nat → Int
  | x, _, 0 => x
  | x, s, c + 1 => leastF cond val (if cond s = true then mn x (val s) else x) (s + 1) c
theorem leastF_le (cond : Nat → Bool) (val : Nat → Int) : ∀ c s x, leastF cond val x s c ≤ x
  | 0, s, x => Int.le_refl _
  | c + 1, s, x => by
    rw [leastF]
    have h := leastF_le cond val c (s + 1) (if cond s = true then mn x (val s) else x)
    have := mn_min x (val s)
    split at h
    · rename_i e; rw [if_pos e]; omega
    · rename_i e; rw [if_neg e]; exact h
theorem leastF_le_val (cond : Nat → Bool) (val : Nat → Int) : ∀ c s x m, s ≤ m → m < s + c → cond m = true → leastF cond val x s c ≤ val m
  | 0, s, x, m, h1, h2, _ => by omega
  | c + 1, s, x, m, h1, h2, h3 => by
    rw [leastF]
    by_cases e : m = s
    · subst e
      rw [if_pos h3]
      have h := leastF_le cond val c (m + 1) (mn x (val m))
      have := mn_min x (val m)
      omega
    · exact leastF_le_val cond val c (s + 1) _ m (by omega) (by omega) h3
theorem leastF_is (cond : Nat → Bool) (val : Nat → Int) : ∀ c s x, leastF cond val x s c = x ∨ ∃ m, s ≤ m ∧ m < s + c ∧ cond m = true ∧ leastF cond val x s c = val m
  | 0, s, x => Or.inl rfl
  | c + 1, s, x => by
    rw [leastF]
    by_cases e : cond s = true
    · rw [if_pos e]
      rcases leastF_is cond val c (s + 1) (mn x (val s)) with h | ⟨m, h1, h2, h3, h4⟩
      · rcases mn_is x (val s) with h' | h'
        · left; rw [h, h']
        · right; exact ⟨s, Nat.le_refl _, by omega, e, by rw [h, h']⟩
      · right; exact ⟨m, by omega, by omega, h3, h4⟩
    · rw [if_neg e]
      rcases leastF_is cond val c (s + 1) x with h | ⟨m, h1, h2, h3, h4⟩
      · exact Or.inl h
      · right; exact ⟨m, by omega, by omega, h3, h4⟩
theorem lossFold_le (s : Int) : ∀ (L : List Int) (a : Int), lossFold s a L ≤ a
  | [], a => Int.le_refl _
  | t :: r, a => by
    rw [lossFold]
    have h := lossFold_le s r (mn a (lossOf s t))
    have := mn_min a (lossOf s t)
    omega
theorem lossFold_le_each (s : Int) : ∀ (L : List Int) (a t : Int), t ∈ L → lossFold s a L ≤ lossOf s t
  | [], a, t, h => absurd h (by simp)
  | x :: r, a, t, h => by
    rw [lossFold]
    rcases List.mem_cons.1 h with e | e
    · subst e
      have h := lossFold_le s r (mn a (lossOf s t))
      have := mn_min a (lossOf s t)
      omega
    · exact lossFold_le_each s r _ t e
theorem lossFold_is (s : Int) : ∀ (L : List Int) (a : Int), lossFold s a L = a ∨ ∃ t ∈ L, lossFold s a L = lossOf s t
  | [], a => Or.inl rfl
  | x :: r, a => by
    rw [lossFold]
    rcases lossFold_is s r (mn a (lossOf s x)) with h | ⟨t, h1, h2⟩
    · rcases mn_is a (lossOf s x) with e | e
      · left; rw [h, e]
      · right; exact ⟨x, List.mem_cons_self, by rw [h, e]⟩
    · right; exact ⟨t, List.mem_cons_of_mem _ h1, h2⟩
/-- Which numbers are tried, and what each gives. -/
def tryB (l : List Int) (b p : Nat) (s : Nat) : Bool := (s &&& b == s) && decide (fallN l (s : Int) < p)
def tryV (b : Nat) (s : Nat) : Int := (popc b : Int) - (popc s : Int)
theorem fallN_part (l : List Int) (s : Int) (h : fallN l s < l.length) : partB s l[fallN l s] = true := List.findIdx_getElem (w := h)
theorem fallN_before (l : List Int) (s : Int) (j : Nat) (hj : j < l.length) (h : partB s l[j] = true) : fallN l s ≤ j := by
  apply Nat.le_of_not_lt
  intro hlt
  exact absurd h (by simpa using List.not_of_lt_findIdx (p := partB s) (xs := l) hlt)
theorem lossOf_nat (b t : Nat) (hb : b < 128) (ht : t < 128) : lossOf (b : Int) (t : Int) = (popc b : Int) - (popc (b &&& t) : Int) := by
  have h := andNot_count b hb t ht
  unfold lossOf
  omega
theorem loss_law (l : List Int) (hbar : isBar l = true) (p b : Nat) (hp1 : 1 ≤ p) (hp : p < l.length) (eb : l[p] = (b : Int)) :
    leastF (tryB l b p) (tryV b) 8 0 (b + 1) = lossFold (b : Int) 7 (l.take p) := by
  obtain ⟨_, _, hall⟩ := (isBar_iff l).1 hbar
  have hb0 := hall l[p] (List.getElem_mem hp)
  rw [eb] at hb0
  have hb : b < 128 := by omega
  have h7 : lossFold (b : Int) 7 (l.take p) = lossFold (b : Int) (popc b : Int) (l.take p) := by
    have h := lossFold_seven (b : Int) (l.take p) (fun e => ?_) ((isSetB_iff _).2 hb0) (fun t ht => (isSetB_iff _).2 (hall t (List.mem_of_mem_take ht)))
    · rw [Int.toNat_natCast] at h; exact h
    · have : (l.take p).length = 0 := by rw [e]; rfl
      rw [List.length_take] at this
      omega
  apply Int.le_antisymm
  · rw [h7]
    rcases lossFold_is (b : Int) (l.take p) (popc b : Int) with h | ⟨t, h1, h2⟩
    · rw [h]
      have hz : tryB l b p 0 = true := by
        have : fallN l ((0 : Nat) : Int) ≤ 0 := fallN_before l _ 0 (by omega) (by
          have hx := hall l[0] (List.getElem_mem (by omega))
          have h := part_zero_all l[0].toNat (by omega)
          rw [Int.toNat_of_nonneg hx.1] at h
          exact h)
        unfold tryB
        rw [Bool.and_eq_true, beq_iff_eq, decide_eq_true_eq]
        exact ⟨Nat.zero_and _, by omega⟩
      have h9 := leastF_le_val (tryB l b p) (tryV b) (b + 1) 0 8 0 (Nat.le_refl _) (by omega) hz
      have hv : tryV b 0 = (popc b : Int) := by
        unfold tryV
        have e0 : popc 0 = 0 := rfl
        rw [e0]; omega
      rw [hv] at h9
      exact h9
    · rw [h2]
      obtain ⟨j, hj, ej⟩ := List.getElem_of_mem h1
      rw [List.length_take] at hj
      rw [List.getElem_take] at ej
      have hx := hall l[j] (List.getElem_mem (by omega))
      obtain ⟨u, hu⟩ : ∃ u : Nat, l[j] = (u : Int) := ⟨l[j].toNat, by omega⟩
      rw [hu] at hx
      rw [← ej, hu, lossOf_nat b u hb (by omega)]
      have hle : b &&& u ≤ b := Nat.and_le_left
      have hc : tryB l b p (b &&& u) = true := by
        have hf : fallN l ((b &&& u : Nat) : Int) ≤ j := fallN_before l _ j (by omega) (by rw [hu]; exact (part_and _ (by omega) u (by omega)).2 (and_self_r b u))
        unfold tryB
        rw [and_self_l]
        simp; omega
      exact leastF_le_val (tryB l b p) (tryV b) (b + 1) 0 8 (b &&& u) (Nat.zero_le _) (by omega) hc
  · rcases leastF_is (tryB l b p) (tryV b) (b + 1) 0 8 with h | ⟨m, _, hm, hc, hv⟩
    · rw [h]
      have := lossFold_le (b : Int) (l.take p) 7
      omega
    · rw [hv]
      unfold tryB at hc
      rw [Bool.and_eq_true, beq_iff_eq, decide_eq_true_eq] at hc
      obtain ⟨hc1, hc2⟩ := hc
      have hpt := fallN_part l (m : Int) (by omega)
      have hmem : l[fallN l (m : Int)]'(by omega) ∈ l.take p := by
        rw [List.mem_take_iff_getElem]
        exact ⟨fallN l (m : Int), by omega, rfl⟩
      have hx := hall _ (List.getElem_mem (show fallN l (m : Int) < l.length by omega))
      have hle := lossFold_le_each (b : Int) (l.take p) 7 _ hmem
      generalize l[fallN l (m : Int)]'(by omega) = x at hpt hx hle
      obtain ⟨u, rfl⟩ : ∃ u : Nat, x = (u : Int) := ⟨x.toNat, by omega⟩
      rw [lossOf_nat b u hb (by omega)] at hle
      have hmu := (part_and m (by omega) u (by omega)).1 hpt
      have := popc_mono m (by omega) (b &&& u) (by have : b &&& u ≤ b := Nat.and_le_left; omega) (and_part b u m hc1 hmu)
      unfold tryV
      omega
theorem drawLoss_ok (l : List Int) (hl : l.length ≤ 1099511627776) : ∃ r p, Ev (fun k => spec_DrawLossBefore.f k l) (r, p) ∧ r.length ≤ 42 := by
  obtain ⟨h, ⟨K, hn⟩⟩ := new_ok l hl
  obtain ⟨r, i1, h1, ⟨K1, hr⟩, q1, c1⟩ := anyBar_ok l 0 h ⟨by omega, by omega, hl⟩
  obtain ⟨n, hn2, hn3⟩ : ∃ n : Int, wrap64 ((r.length : Int) + 2) = n ∧ n = (r.length : Int) + 2 := ⟨_, rfl, wrap_id _ (by omega) (by omega)⟩
  obtain ⟨x, i2, h2, f2, _, _, c2⟩ := below_ok l i1 h1 n c1 (by omega) (by omega)
  refine ⟨r, wrap64 (x - 1), ?_, q1⟩
  refine Ev.bind (f := fun k (bt : List Int × Int × Int) => (spec_l1Any.f k bt.1 bt.2.1 bt.2.2).bind fun bt296 => (spec_l01Below.f bt.1 bt296.2.1 bt296.2.2 (wrap64 ((bt296.1.length : Int) + 2))).bind fun bt301 => some (bt296.1, wrap64 (bt301.1 - 1))) ⟨K, hn⟩ ?_
  refine Ev.bind (f := fun k (bt296 : List Int × Int × Int) => (spec_l01Below.f l bt296.2.1 bt296.2.2 (wrap64 ((bt296.1.length : Int) + 2))).bind fun bt301 => some (bt296.1, wrap64 (bt301.1 - 1))) ⟨K1, hr⟩ ?_
  refine ev_const (fun k => ?_)
  show (spec_l01Below.f l i1 h1 (wrap64 ((r.length : Int) + 2))).bind _ = _
  rw [hn2, f2, Option.bind_some]
theorem loss_rounds (l : List Int) (hb : isBar l = true) (p b : Nat) (hp : p < l.length) (eb : l[p] = (b : Int)) (hb7 : b < 128) (kk : Int) :
    ∀ d s (x : Int), s + d = b + 1 → Ev (fun k => laws_FnLoss.l0 k l (p : Int) kk x (s : Int)) (kk == leastF (tryB l b p) (tryV b) x s d) := by
  obtain ⟨_, hl40, _⟩ := (isBar_iff l).1 hb
  have er : rd l (p : Int) = (b : Int) := by rw [rd_nat l p hp, eb]
  intro d
  induction d with
  | zero =>
    intro s x hs
    refine ev_step1 (fun k => ?_)
    simp only [laws_FnLoss.l0, er, leastF]
    rw [if_pos (by omega), if_pos (by omega), if_neg (by omega)]
  | succ d ih =>
    intro s x hs
    have hs7 : isSetB (s : Int) = true := (isSetB_iff _).2 ⟨by omega, by omega⟩
    rw [leastF]
    by_cases hpart : s &&& b = s
    · have hz := (part_zero s (by omega) b hb7).2 hpart
      obtain ⟨K1, f1⟩ := impl_FallOf_ev l (s : Int) (by omega)
      rw [fallOf, if_pos hb, if_pos hs7] at f1
      by_cases hf : fallN l (s : Int) < p
      · have ht : tryB l b p s = true := by
          unfold tryB
          rw [hpart]
          simp [hf]
        rw [if_pos ht]
        obtain ⟨K2, f2⟩ := teeth_ev (b : Int) (by omega) (by omega)
        obtain ⟨K3, f3⟩ := teeth_ev (s : Int) (by omega) (by omega)
        rw [Int.toNat_natCast] at f2 f3
        obtain ⟨K4, f4⟩ := ih (s + 1) (mn x (tryV b s)) (by omega)
        have hv : wrap64 ((popc b : Int) - (popc s : Int)) = tryV b s := by
          have := popc_le b
          have := popc_le s
          unfold tryV
          exact wrap_id _ (by omega) (by omega)
        refine ⟨K1 + K2 + K3 + K4 + 2, fun k hk => ?_⟩
        obtain ⟨k, rfl⟩ : ∃ m, k = m + 2 := ⟨k - 2, by omega⟩
        simp only [laws_FnLoss.l0, laws_FnLoss.j2, er, f1 (k + 1) (by omega), f2 k (by omega), f3 k (by omega), Option.bind_some, hv, w1 s (show s ≤ 4611686018427387904 by omega)]
        rw [if_pos (by omega), if_pos (by omega), if_pos (by omega), if_pos hz, decide_eq_true (show ((fallN l (s : Int) : Nat) : Int) < (p : Int) by omega), if_pos rfl, if_pos (by omega), if_pos (by omega)]
        exact f4 k (by omega)
      · have ht : ¬ tryB l b p s = true := by
          unfold tryB
          simp [hf]
        rw [if_neg ht]
        obtain ⟨K4, f4⟩ := ih (s + 1) x (by omega)
        refine ⟨K1 + K4 + 2, fun k hk => ?_⟩
        obtain ⟨k, rfl⟩ : ∃ m, k = m + 2 := ⟨k - 2, by omega⟩
        simp only [laws_FnLoss.l0, laws_FnLoss.j2, er, f1 (k + 1) (by omega), Option.bind_some, w1 s (show s ≤ 4611686018427387904 by omega)]
        rw [if_pos (by omega), if_pos (by omega), if_pos (by omega), if_pos hz, decide_eq_false (show ¬ ((fallN l (s : Int) : Nat) : Int) < (p : Int) by omega), if_neg (by decide)]
        exact f4 k (by omega)
    · have hz : ¬ Go.bits .andNot .i64 (s : Int) (b : Int) = 0 := fun h => hpart ((part_zero s (by omega) b hb7).1 h)
      have ht : ¬ tryB l b p s = true := by
        unfold tryB
        simp [hpart]
      rw [if_neg ht]
      obtain ⟨K4, f4⟩ := ih (s + 1) x (by omega)
      refine ⟨K4 + 2, fun k hk => ?_⟩
      obtain ⟨k, rfl⟩ : ∃ m, k = m + 2 := ⟨k - 2, by omega⟩
      simp only [laws_FnLoss.l0, laws_FnLoss.j2, er, w1 s (show s ≤ 4611686018427387904 by omega)]
      rw [if_pos (by omega), if_pos (by omega), if_pos (by omega), if_neg hz, if_neg (by decide)]
      exact f4 k (by omega)
theorem FnLoss : laws_FnLoss.Pure := by
  intro l hm hm2 hw
  by_cases hlen : (l.length : Int) > 1048576
  · exact ⟨0, by simp only [laws_FnLoss.f, if_pos hlen]⟩
  obtain ⟨r, p, ⟨K1, h1⟩, hr⟩ := drawLoss_ok l (by omega)
  obtain ⟨K2, h2⟩ := impl_LossBefore_ev r p
  obtain ⟨K3, h3⟩ := spec_IsBar_ev r (by omega)
  by_cases hg : isBar r = true ∧ 1 ≤ p ∧ p < (r.length : Int)
  · obtain ⟨hb, hp1, hp2⟩ := hg
    obtain ⟨n, rfl⟩ : ∃ n : Nat, p = n := ⟨p.toNat, by omega⟩
    have hn : n < r.length := by omega
    obtain ⟨_, _, hall⟩ := (isBar_iff r).1 hb
    have hx := hall r[n] (List.getElem_mem hn)
    obtain ⟨b, eb⟩ : ∃ b : Nat, r[n] = (b : Int) := ⟨r[n].toNat, by omega⟩
    have hb7 : b < 128 := by omega
    have hlaw := loss_law r hb n b (by omega) hn eb
    have hval : lossBefore r (n : Int) = lossFold (b : Int) 7 (r.take n) := by
      unfold lossBefore
      rw [if_pos ⟨hb, by omega, by omega⟩, Int.toNat_natCast, List.getD_eq_getElem?_getD, List.getElem?_eq_getElem hn, Option.getD_some, eb]
    obtain ⟨K4, h4⟩ := loss_rounds r hb n b hn eb hb7 (lossBefore r (n : Int)) (b + 1) 0 8 (by omega)
    rw [hlaw, hval] at h4
    generalize hK : K1 + K2 + K3 + K4 = K
    have g1 := fun j => h1 (K + j) (by omega)
    have g2 := fun j => h2 (K + j) (by omega)
    have g3 := fun j => h3 (K + j) (by omega)
    have g4 := fun j => h4 (K + j) (by omega)
    refine ⟨K + 9, ?_⟩
    simp only [laws_FnLoss.f, if_neg hlen, g1, g2, g3, Option.bind_some, hb, if_true]
    rw [if_neg (by omega), decide_eq_false (by omega)]
    simp only [laws_FnLoss.j0, Bool.false_eq_true, if_false, hval]
    refine (g4 8).trans ?_
    rw [beq_self_eq_true]
  · have hval : lossBefore r p = -1 := if_neg hg
    rw [hval] at h2
    generalize hK : K1 + K2 + K3 = K
    have g1 := fun j => h1 (K + j) (by omega)
    have g2 := fun j => h2 (K + j) (by omega)
    have g3 := fun j => h3 (K + j) (by omega)
    refine ⟨K + 9, ?_⟩
    simp only [laws_FnLoss.f, if_neg hlen, g1, g2, g3, Option.bind_some]
    by_cases hb : isBar r = true
    · rw [if_pos hb]
      by_cases hp1 : p < 1
      · rw [if_pos hp1]
        simp only [laws_FnLoss.j0, if_true]
        rfl
      · rw [if_neg hp1, decide_eq_true (show p ≥ (r.length : Int) by
          apply Int.not_lt.1
          intro h
          exact hg ⟨hb, by omega, h⟩)]
        simp only [laws_FnLoss.j0, if_true]
        rfl
    · rw [if_neg hb]
      simp only [laws_FnLoss.j0, if_true]
      rfl
end Go.Proofs.Ythdgkjnhjihkpaa.Pure
