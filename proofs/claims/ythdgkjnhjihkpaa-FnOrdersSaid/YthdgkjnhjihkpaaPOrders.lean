/- Orders of a chart: what the program's table and the reference's give. Conditions: those that each lemma names. -/
import Derived.Test.YthdgkjnhjihkpaaPBar
import Derived.Test.YthdgkjnhjihkpaaPDup
import Derived.Test.YthdgkjnhjihkpaaPTab
import Derived.Test.YthdgkjnhjihkpaaQ1
namespace Go.Proofs.Ythdgkjnhjihkpaa.Q
open Go.RowKit Go.Proofs.YthdgkjnhjihkpaaW.PrintWords Go.Proofs.YthdgkjnhjihkpaaW.PrintLast Go.Proofs.YthdgkjnhjihkpaaW.PrintMore
set_option linter.unusedVariables false
set_option linter.unusedSimpArgs false
theorem bit_all : ∀ m : Nat, m < 256 → ∀ j : Nat, j < 8 → (Go.bits .and .i64 (shr .i64 (m : Int) (j : Int)) 1 == 1) = m.testBit j := by decide +kernel
theorem or_all : ∀ m : Nat, m < 256 → ∀ j : Nat, j < 8 → m.testBit j = false → Go.bits .or .i64 (m : Int) (shl .i64 1 (j : Int)) = ((m + 2 ^ j : Nat) : Int) := by decide +kernel
theorem lt_all : ∀ n : Nat, n < 9 → ∀ m : Nat, m < 2 ^ n → ∀ j : Nat, j < n → m.testBit j = false → m + 2 ^ j < 2 ^ n := by decide +kernel
theorem shl_all : ∀ n : Nat, n < 9 → shl .i64 1 (n : Int) = ((2 ^ n : Nat) : Int) := by decide +kernel
theorem full_all : ∀ n : Nat, n < 9 → ∀ j : Nat, j < n → (2 ^ n - 1).testBit j = true := by decide +kernel
theorem comp_bit (n m j : Nat) (hm : m < 2 ^ n) (hj : j < n) : (2 ^ n - 1 - m).testBit j = !m.testBit j := by
  rw [show 2 ^ n - 1 - m = 2 ^ n - (m + 1) by omega, Nat.testBit_two_pow_sub_succ hm]
  simp [hj]
theorem pow_le_256 (n : Nat) (h : n ≤ 8) : 2 ^ n ≤ 256 := Nat.pow_le_pow_right (by decide) h
theorem bit_iff (m j : Nat) (hm : m < 256) (hj : j < 8) : (Go.bits .and .i64 (shr .i64 (m : Int) (j : Int)) 1 = 1) ↔ m.testBit j = true := by
  rw [← bit_all m hm j hj, beq_iff_eq]
/-- Is tooth j free of the teeth b? From tooth i on. -/
def ff (l : List Int) (b : Nat → Bool) (j : Nat) : Nat → Nat → Bool
  | _, 0 => true
  | i, c + 1 => if i = j then ff l b j (i + 1) c else if b i = true then (if partB (l.getD i 0) (l.getD j 0) = true then false else ff l b j (i + 1) c) else ff l b j (i + 1) c
theorem ff_congr (l : List Int) (b b' : Nat → Bool) (j : Nat) : ∀ c i, (∀ m, i ≤ m → m < i + c → b m = b' m) → ff l b j i c = ff l b' j i c
  | 0, i, _ => rfl
  | c + 1, i, h => by rw [ff, ff, h i (Nat.le_refl _) (by omega), ff_congr l b b' j c (i + 1) (fun m h1 h2 => h m (by omega) (by omega))]
theorem rd_getD (l : List Int) (i : Nat) : rd l (i : Int) = l.getD i 0 := by simp [rd]
/-- May tooth j go from the teeth m? -/
def alS (l : List Int) (m j : Nat) : Bool := m.testBit j && ff l m.testBit j 0 l.length
def gTab (l : List Int) : Nat → List Int
  | 0 => []
  | m + 1 => gTab l m ++ [if m = 0 then 1 else rs (alS l m) (fun j => rd (gTab l m) ((m - 2 ^ j : Nat) : Int)) 0 0 l.length]
theorem gTab_length (l : List Int) : ∀ m, (gTab l m).length = m
  | 0 => rfl
  | m + 1 => by rw [gTab, List.length_append, gTab_length l m]; rfl
/-- The orders of the teeth m. -/
def gO (l : List Int) (m : Nat) : Int := if m = 0 then 1 else rs (alS l m) (fun j => rd (gTab l m) ((m - 2 ^ j : Nat) : Int)) 0 0 l.length
theorem gTab_rd (l : List Int) : ∀ N q, q < N → rd (gTab l N) (q : Int) = gO l q
  | 0, q, h => absurd h (Nat.not_lt_zero _)
  | N + 1, q, h => by
    rw [rd_getD, gTab]
    by_cases e : q = N
    · subst e
      rw [List.getD_eq_getElem?_getD, List.getElem?_append_right (by rw [gTab_length]; omega), gTab_length, Nat.sub_self]
      rfl
    · have := gTab_rd l N q (by omega)
      rw [rd_getD] at this
      rw [List.getD_eq_getElem?_getD, List.getElem?_append_left (by rw [gTab_length]; omega), ← List.getD_eq_getElem?_getD]
      exact this
theorem gO_zero (l : List Int) : gO l 0 = 1 := rfl
theorem gO_pos (l : List Int) (m : Nat) (h : 0 < m) : gO l m = rs (alS l m) (fun j => gO l (m - 2 ^ j)) 0 0 l.length := by
  rw [gO, if_neg (by omega)]
  refine rs_congr _ _ _ _ _ _ _ (fun j _ _ => ⟨rfl, ?_⟩)
  have : 0 < 2 ^ j := Nat.pow_pos (by decide)
  exact gTab_rd l m (m - 2 ^ j) (by omega)
/-- CountOrders. -/
def countO (l : List Int) : Int := if (isBar l && !dupFrom l 0 l) = true ∧ l.length ≤ 8 then gO l (2 ^ l.length - 1) else -1
end Go.Proofs.Ythdgkjnhjihkpaa.Q
