/- Tables of places, and sums over them. Conditions: those that each lemma names. -/
import Derived.Test.YthdgkjnhjihkpaaP0
namespace Go.Proofs.Ythdgkjnhjihkpaa.Q
open Go.RowKit Go.Proofs.YthdgkjnhjihkpaaW.PrintWords Go.Proofs.YthdgkjnhjihkpaaW.PrintLast Go.Proofs.YthdgkjnhjihkpaaW.PrintMore
set_option linter.unusedVariables false
set_option linter.unusedSimpArgs false
/-- A table of n + 1 places. -/
def arrT (n : Nat) (f : Nat → Int) : List Int := (List.range (n + 1)).map f
def upd (f : Nat → Int) (i : Nat) (v : Int) : Nat → Int := fun j => if j = i then v else f j
theorem arrT_length (n : Nat) (f : Nat → Int) : (arrT n f).length = n + 1 := by simp [arrT]
theorem arrT_len (n : Nat) (f : Nat → Int) : ((arrT n f).length : Int) = (n : Int) + 1 := by rw [arrT_length]; omega
theorem arrT_rd (n : Nat) (f : Nat → Int) (i : Nat) (h : i ≤ n) : rd (arrT n f) (i : Int) = f i := by
  rw [rd_nat _ i (by rw [arrT_length]; omega)]
  simp [arrT]
theorem arrT_set (n : Nat) (f : Nat → Int) (i : Nat) (v : Int) : (arrT n f).set i v = arrT n (upd f i v) := by
  apply List.ext_getElem
  · simp [arrT]
  · intro j h1 h2
    simp only [arrT, List.getElem_set, List.getElem_map, List.getElem_range, upd]
    by_cases e : i = j
    · rw [if_pos e, if_pos e.symm]
    · rw [if_neg e, if_neg (fun h => e h.symm)]
theorem arrT_rep (n : Nat) : List.replicate (n + 1) (0 : Int) = arrT n (fun _ => 0) := by
  apply List.ext_getElem
  · simp [arrT]
  · intro j h1 h2; simp [arrT]
theorem upd_ne (f : Nat → Int) (i j : Nat) (v : Int) (h : j ≠ i) : upd f i v j = f j := by simp [upd, h]
theorem upd_at (f : Nat → Int) (i : Nat) (v : Int) : upd f i v i = v := by simp [upd]
/-- One place's ways: from those behind it. -/
def rs (g : Nat → Bool) (f : Nat → Int) : Int → Nat → Nat → Int
  | x, _, 0 => x
  | x, j, c + 1 => rs g f (if g j = true then wrap64 (x + f j) else x) (j + 1) c
theorem rs_congr (g g' : Nat → Bool) (f f' : Nat → Int) : ∀ (c : Nat) (x : Int) (j : Nat), (∀ m, j ≤ m → m < j + c → g m = g' m ∧ f m = f' m) → rs g f x j c = rs g' f' x j c
  | 0, x, j, _ => rfl
  | c + 1, x, j, h => by
    rw [rs, rs, (h j (by omega) (by omega)).1, (h j (by omega) (by omega)).2]
    exact rs_congr g g' f f' c _ (j + 1) (fun m h1 h2 => h m (by omega) (by omega))
end Go.Proofs.Ythdgkjnhjihkpaa.Q
