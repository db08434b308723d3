/- Orders of a chart: what the program's table and the reference's give. Conditions: those that each lemma names. -/
import Derived.Test.YthdgkjnhjihkpaaP0
import Derived.Test.YthdgkjnhjihkpaaPBar
import Derived.Test.YthdgkjnhjihkpaaPDup
import Derived.Test.YthdgkjnhjihkpaaPTab
import Derived.Test.YthdgkjnhjihkpaaQ1
import Derived.Test.YthdgkjnhjihkpaaQ4
import Derived.Test.YthdgkjnhjihkpaaQ5
namespace Go.Proofs.Ythdgkjnhjihkpaa.Q
open Go.RowKit Go.Proofs.YthdgkjnhjihkpaaW.PrintWords Go.Proofs.YthdgkjnhjihkpaaW.PrintLast Go.Proofs.YthdgkjnhjihkpaaW.PrintMore
set_option linter.unusedVariables false
set_option linter.unusedSimpArgs false
theorem bit_all : ∀ m : Nat, m < 256 → ∀ j : Nat, j < 8 → (Go.bits .and .i64 (shr .i64 (m : Int) (j : Int)) 1 == 1) = m.testBit j := by decide +kernel
theorem or_all : ∀ m : Nat, m < 256 → ∀ j : Nat, j < 8 → m.testBit j = false → Go.bits .or .i64 (m : Int) (shl .i64 1 (j : Int)) = ((m + 2 ^ j : Nat) : Int) := by decide +kernel
theorem lt_all : ∀ n : Nat, n < 9 → ∀ m : Nat, m < 2 ^ n → ∀ j : Nat, j < n → m.testBit j = false → m + 2 ^ j < 2 ^ n := by decide +kernel
theorem le_all : ∀ m : Nat, m < 256 → ∀ j : Nat, j < 8 → m.testBit j = true → 2 ^ j ≤ m := by decide +kernel
theorem shl_all : ∀ n : Nat, n < 9 → shl .i64 1 (n : Int) = ((2 ^ n : Nat) : Int) := by decide +kernel
theorem full_all : ∀ n : Nat, n < 9 → ∀ j : Nat, j < n → (2 ^ n - 1).testBit j = true := by decide +kernel
theorem comp_bit (n m j : Nat) (hm : m < 2 ^ n) (hj : j < n) : (2 ^ n - 1 - m).testBit j = !m.testBit j := by
  rw [show 2 ^ n - 1 - m = 2 ^ n - (m + 1) by omega, Nat.testBit_two_pow_sub_succ hm]
  simp [hj]
theorem pow_le_256 (n : Nat) (h : n ≤ 8) : 2 ^ n ≤ 256 := Nat.pow_le_pow_right (by decide) h
theorem bit_iff (m j : Nat) (hm : m < 256) (hj : j < 8) : (Go.bits .and .i64 (shr .i64 (m : Int) (j : Int)) 1 = 1) ↔ m.testBit j = true := by
  rw [← bit_all m hm j hj, beq_iff_eq]
/-- Is tooth j free of the teeth b? From tooth i on. -/
def ff (l : List Int) (b : Nat → Bool) (j : Nat) : Nat → Nat → Bool
  | _, 0 => true
  | i, c + 1 => if i = j then ff l b j (i + 1) c else if b i = true then (if partB (l.getD i 0) (l.getD j 0) = true then false else ff l b j (i + 1) c) else ff l b j (i + 1) c
theorem ff_congr (l : List Int) (b b' : Nat → Bool) (j : Nat) : ∀ c i, (∀ m, i ≤ m → m < i + c → b m = b' m) → ff l b j i c = ff l b' j i c
  | 0, i, _ => rfl
  | c + 1, i, h => by rw [ff, ff, h i (Nat.le_refl _) (by omega), ff_congr l b b' j c (i + 1) (fun m h1 h2 => h m (by omega) (by omega))]
theorem rd_getD (l : List Int) (i : Nat) : rd l (i : Int) = l.getD i 0 := by simp [rd]
def thereL (n : Nat) (m : Nat) : List Bool := (List.range n).map (fun i => m.testBit i)
theorem thereL_length (n m : Nat) : (thereL n m).length = n := by simp [thereL]
theorem thereL_rd (n m i : Nat) (h : i < n) : rdOf false (thereL n m) (i : Int) = m.testBit i := by
  rw [rdOf_nat false _ i (by rw [thereL_length]; exact h)]
  simp [thereL]
theorem spec_free_ev (l : List Int) (m j : Nat) (hn : l.length ≤ 8) (hj : j < l.length) : Ev (fun k => spec_l1Free.f k l (thereL l.length m) (j : Int)) (ff l m.testBit j 0 l.length) := by
  have main : ∀ c i, i + c = l.length → Ev (fun k => spec_l1Free.l0 k l (thereL l.length m) (j : Int) l (l.length : Int) (i : Int)) (ff l m.testBit j i c) := by
    intro c
    induction c with
    | zero =>
      intro i hi
      refine ev_step1 (fun k => ?_)
      simp only [spec_l1Free.l0]
      rw [if_neg (by omega), ff]
    | succ c ih =>
      intro i hi
      have h := ih (i + 1) (by omega)
      rw [ff]
      by_cases e : i = j
      · rw [if_pos e]
        refine Ev.step (fun k => ?_) h
        simp only [spec_l1Free.l0]
        rw [if_pos (by omega), if_pos (by omega), if_pos (by omega), if_pos (by omega), w1 i (by omega)]
      · rw [if_neg e]
        by_cases hb : m.testBit i = true
        · rw [if_pos hb]
          by_cases hp : partB (l.getD i 0) (l.getD j 0) = true
          · rw [if_pos hp]
            refine ev_step1 (fun k => ?_)
            simp only [spec_l1Free.l0]
            rw [if_pos (by omega), if_pos (by omega), if_pos (by omega), if_neg (by omega), if_pos (by rw [thereL_length]; omega), thereL_rd _ _ i (by omega), if_pos hb, if_pos (by omega), if_pos (by omega), rd_getD, rd_getD, spec_part_eq, Option.bind_some, if_pos hp]
          · rw [if_neg hp]
            refine Ev.step (fun k => ?_) h
            simp only [spec_l1Free.l0]
            rw [if_pos (by omega), if_pos (by omega), if_pos (by omega), if_neg (by omega), if_pos (by rw [thereL_length]; omega), thereL_rd _ _ i (by omega), if_pos hb, if_pos (by omega), if_pos (by omega), rd_getD, rd_getD, spec_part_eq, Option.bind_some, if_neg hp, w1 i (by omega)]
        · rw [if_neg hb]
          refine Ev.step (fun k => ?_) h
          simp only [spec_l1Free.l0]
          rw [if_pos (by omega), if_pos (by omega), if_pos (by omega), if_neg (by omega), if_pos (by rw [thereL_length]; omega), thereL_rd _ _ i (by omega), if_neg hb, w1 i (by omega)]
  exact main l.length 0 (by omega)
/-- May tooth j go from the teeth m? -/
def alS (l : List Int) (m j : Nat) : Bool := m.testBit j && ff l m.testBit j 0 l.length
def gTab (l : List Int) : Nat → List Int
  | 0 => []
  | m + 1 => gTab l m ++ [if m = 0 then 1 else rs (alS l m) (fun j => rd (gTab l m) ((m - 2 ^ j : Nat) : Int)) 0 0 l.length]
theorem gTab_length (l : List Int) : ∀ m, (gTab l m).length = m
  | 0 => rfl
  | m + 1 => by rw [gTab, List.length_append, gTab_length l m]; rfl
/-- The orders of the teeth m. -/
def gO (l : List Int) (m : Nat) : Int := if m = 0 then 1 else rs (alS l m) (fun j => rd (gTab l m) ((m - 2 ^ j : Nat) : Int)) 0 0 l.length
theorem gTab_rd (l : List Int) : ∀ N q, q < N → rd (gTab l N) (q : Int) = gO l q
  | 0, q, h => absurd h (Nat.not_lt_zero _)
  | N + 1, q, h => by
    rw [rd_getD, gTab]
    by_cases e : q = N
    · subst e
      rw [List.getD_eq_getElem?_getD, List.getElem?_append_right (by rw [gTab_length]; omega), gTab_length, Nat.sub_self]
      rfl
    · have := gTab_rd l N q (by omega)
      rw [rd_getD] at this
      rw [List.getD_eq_getElem?_getD, List.getElem?_append_left (by rw [gTab_length]; omega), ← List.getD_eq_getElem?_getD]
      exact this
theorem gO_zero (l : List Int) : gO l 0 = 1 := rfl
theorem gO_pos (l : List Int) (m : Nat) (h : 0 < m) : gO l m = rs (alS l m) (fun j => gO l (m - 2 ^ j)) 0 0 l.length := by
  rw [gO, if_neg (by omega)]
  refine rs_congr _ _ _ _ _ _ _ (fun j _ _ => ⟨rfl, ?_⟩)
  have : 0 < 2 ^ j := Nat.pow_pos (by decide)
  exact gTab_rd l m (m - 2 ^ j) (by omega)
/-- The reference's loops. -/
theorem spec_there (l : List Int) (x3 : List Int) (V : Int) (m : Nat) (hm : m < 256) (hn : l.length ≤ 8) (hend : Ev (fun k => spec_CountOrders.l2 k l x3 (m : Int) (thereL l.length m) 0 (l.length : Int) 0) V) :
    ∀ c i (x5 : List Bool), i + c = l.length → x5.length = l.length → (∀ j, j < i → x5[j]? = some (m.testBit j)) → Ev (fun k => spec_CountOrders.l1 k l x3 (m : Int) x5 (l.length : Int) (i : Int)) V
  | 0, i, x5, hi, hl, hx => by
    have e : x5 = thereL l.length m := by
      apply List.ext_getElem (by rw [hl, thereL_length])
      intro j h1 h2
      have := hx j (by omega)
      rw [List.getElem?_eq_getElem h1] at this
      rw [Option.some.inj this]
      simp [thereL]
    subst e
    refine Ev.step (fun k => ?_) hend
    simp only [spec_CountOrders.l1]
    rw [if_neg (by omega)]
  | c + 1, i, x5, hi, hl, hx => by
    have ih := spec_there l x3 V m hm hn hend c (i + 1) (x5.set i (m.testBit i)) (by omega) (by rw [List.length_set, hl]) (fun j hj => by
      rw [List.getElem?_set]
      by_cases e : i = j
      · subst e; rw [if_pos rfl, if_pos (by omega)]
      · rw [if_neg e]; exact hx j (by omega))
    refine Ev.step (fun k => ?_) ih
    simp only [spec_CountOrders.l1]
    rw [if_pos (by omega), if_pos (by omega), if_pos (by omega), bit_all m hm i (by omega), w1 i (by omega), Int.toNat_natCast]
theorem spec_row (l : List Int) (V : Int) (m : Nat) (h0 : 0 < m) (hm : m < 256) (hn : l.length ≤ 8) :
    ∀ c i (x : Int), i + c = l.length → Ev (fun k => spec_CountOrders.l0 k l (gTab l m ++ [rs (alS l m) (fun j => gO l (m - 2 ^ j)) x i c]) ((m + 1 : Nat) : Int)) V →
      Ev (fun k => spec_CountOrders.l2 k l (gTab l m) (m : Int) (thereL l.length m) x (l.length : Int) (i : Int)) V
  | 0, i, x, hi, hend => by
    refine Ev.step (fun k => ?_) hend
    simp only [spec_CountOrders.l2]
    rw [if_neg (by omega), if_pos (by rw [gTab_length]; omega), w1 m (by omega)]
    rfl
  | c + 1, i, x, hi, hend => by
    have ih := spec_row l V m h0 hm hn c (i + 1) (if alS l m i = true then wrap64 (x + gO l (m - 2 ^ i)) else x) (by omega) hend
    have hth : ((thereL l.length m).length : Int) = l.length := by rw [thereL_length]
    by_cases hb : m.testBit i = true
    · have hle := le_all m hm i (by omega) hb
      have hp : 0 < 2 ^ i := Nat.pow_pos (by decide)
      have hfree := spec_free_ev l m i hn (by omega)
      have e2 : wrap64 ((m : Int) - shl .i64 1 (i : Int)) = ((m - 2 ^ i : Nat) : Int) := by
        rw [shl_all i (by omega), wrap_id _ (by omega) (by omega)]; omega
      refine Ev.step (f := fun k => (spec_l1Free.f k l (thereL l.length m) (i : Int)).bind fun t => if t = true then spec_CountOrders.l2 k l (gTab l m) (m : Int) (thereL l.length m) (wrap64 (x + gO l (m - 2 ^ i))) (l.length : Int) ((i + 1 : Nat) : Int) else spec_CountOrders.l2 k l (gTab l m) (m : Int) (thereL l.length m) x (l.length : Int) ((i + 1 : Nat) : Int)) (fun k => ?_)
        (Ev.bind (f := fun k t => if t = true then spec_CountOrders.l2 k l (gTab l m) (m : Int) (thereL l.length m) (wrap64 (x + gO l (m - 2 ^ i))) (l.length : Int) ((i + 1 : Nat) : Int) else spec_CountOrders.l2 k l (gTab l m) (m : Int) (thereL l.length m) x (l.length : Int) ((i + 1 : Nat) : Int)) hfree ?_)
      · simp only [spec_CountOrders.l2, e2]
        rw [if_pos (by omega), if_pos (by omega), if_pos (by omega), thereL_rd _ _ i (by omega), if_pos hb, if_pos (by omega), if_pos (by rw [gTab_length]; omega), gTab_rd l m _ (by omega), w1 i (by omega)]
      · have ha : alS l m i = ff l m.testBit i 0 l.length := by rw [alS, hb, Bool.true_and]
        rw [ha] at ih
        by_cases hf : ff l m.testBit i 0 l.length = true
        · simp only [if_pos hf] at ih ⊢; exact ih
        · simp only [if_neg hf] at ih ⊢; exact ih
    · have ha : alS l m i = false := by rw [alS, show m.testBit i = false from by simpa using hb, Bool.false_and]
      rw [ha, if_neg (by decide)] at ih
      refine Ev.step (fun k => ?_) ih
      simp only [spec_CountOrders.l2]
      rw [if_pos (by omega), if_pos (by omega), if_pos (by omega), thereL_rd _ _ i (by omega), if_neg hb, w1 i (by omega)]
theorem spec_orders_loop (l : List Int) (h1 : 1 ≤ l.length) (hn : l.length ≤ 8) :
    ∀ c m, 0 < m → m + c = 2 ^ l.length → Ev (fun k => spec_CountOrders.l0 k l (gTab l m) (m : Int)) (gO l (2 ^ l.length - 1))
  | 0, m, h0, hm => by
    have hle := pow_le_256 l.length hn
    have e : wrap64 (((gTab l m).length : Int) - 1) = ((2 ^ l.length - 1 : Nat) : Int) := by
      rw [gTab_length, wrap_id _ (by omega) (by omega)]; omega
    refine ev_step1 (fun k => ?_)
    simp only [spec_CountOrders.l0, e]
    rw [shl_all l.length (by omega), if_neg (by omega), if_pos (by omega), if_pos (by rw [gTab_length]; omega), gTab_rd l m _ (by omega)]
  | c + 1, m, h0, hm => by
    have hle := pow_le_256 l.length hn
    have ih := spec_orders_loop l h1 hn c (m + 1) (by omega) (by omega)
    rw [gTab, if_neg (by omega)] at ih
    have hr := gO_pos l m h0
    rw [gO, if_neg (by omega)] at hr
    rw [hr] at ih
    have h2 := spec_row l _ m h0 (by omega) hn l.length 0 0 (by omega) ih
    have h3 := spec_there l (gTab l m) _ m (by omega) hn h2 l.length 0 (List.replicate l.length false) (by omega) (by simp) (fun j hj => absurd hj (Nat.not_lt_zero j))
    refine Ev.step (fun k => ?_) h3
    simp only [spec_CountOrders.l0]
    rw [shl_all l.length (by omega), if_pos (by omega), if_pos (by omega), Int.toNat_natCast, if_pos (by omega), Option.bind_some, List.length_replicate]
    rfl
/-- CountOrders. -/
def countO (l : List Int) : Int := if (isBar l && !dupFrom l 0 l) = true ∧ l.length ≤ 8 then gO l (2 ^ l.length - 1) else -1
theorem spec_CountOrders_ev (l : List Int) (hl : l.length ≤ 1099511627776) : Ev (fun k => spec_CountOrders.f k l) (countO l) := by
  have hs := spec_l1Sets_ev l hl
  unfold countO
  refine Ev.bind (f := fun k t => if t = true then spec_CountOrders.j0 k l (decide ((l.length : Int) > 8)) else spec_CountOrders.j0 k l true) hs ?_
  rw [Bool.and_comm (!dupFrom l 0 l)]
  by_cases hb : (isBar l && !dupFrom l 0 l) = true
  · obtain ⟨b1, b2⟩ : isBar l = true ∧ (!dupFrom l 0 l) = true := by simpa using hb
    obtain ⟨h1, h2, h3⟩ := (isBar_iff l).1 b1
    simp only [if_pos hb]
    by_cases h8 : l.length ≤ 8
    · rw [if_pos ⟨hb, h8⟩, decide_eq_false (by omega)]
      have hle := Nat.pow_pos (n := l.length) (show 0 < 2 by decide)
      have h := spec_orders_loop l h1 h8 (2 ^ l.length - 1) 1 (by omega) (by omega)
      refine Ev.step (fun k => ?_) h
      simp only [spec_CountOrders.j0, Bool.false_eq_true, if_false]
      rfl
    · rw [if_neg (fun h => h8 h.2), decide_eq_true (by omega)]
      exact ev_step1 (fun k => by simp only [spec_CountOrders.j0, if_true])
  · simp only [if_neg hb]
    rw [if_neg (fun h => hb h.1)]
    exact ev_step1 (fun k => by simp only [spec_CountOrders.j0, if_true])
end Go.Proofs.Ythdgkjnhjihkpaa.Q
