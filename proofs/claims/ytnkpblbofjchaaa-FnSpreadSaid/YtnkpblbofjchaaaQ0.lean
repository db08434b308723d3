/- Contracts of Go functions over this translation: each call returns what the Lean function of the same name gives, and writes into no memory that was there. Written by a program of this claim's author (mp.py) over the kit's print. Conditions: those that each theorem names. -/
import Derived.Test.YtnkpblbofjchaaaProg
import Derived.Below
import Derived.Deep.Draws
import Derived.Deep.AppendLies
import Derived.Maps.AppendAt
import Derived.OwnWalk
import Derived.Laws.BytesArg
import Derived.Laws.MakeOwn
import Derived.Laws.OwnMore
import Derived.Deep.OwnRows
import Derived.Tactics
import Derived.Lib.ConvBytes
import Derived.Laws.Slices
import Derived.WalkKit
import Derived.KernelRfl
import Derived.RowKit3
import Derived.Deep.LoopGhost
import Derived.Deep.QuietTactic
import Derived.BigQuiet
import Derived.WideLaws
import Derived.Deep.DeepCutAuto
import Derived.Deep.CutBlock
import Derived.Deep.RegionHeld3
import Derived.Laws.Rows
import Derived.Lib.AppendStr
import Derived.ArgAppend
import Derived.Laws.IdiomCopy
import Derived.OrdersHeld
import Derived.Laws.BitsLemmas
import Derived.RowKit
import Derived.Shelf.Abstract
import Derived.Lib.SliceRun
import Derived.Lib.AsciiSet
import Derived.Test.YtnkpblbofjchaaaWWords
import Derived.Test.YtnkpblbofjchaaaWLast
import Derived.Test.YtnkpblbofjchaaaWTab
import Derived.Test.YtnkpblbofjchaaaWFour
import Derived.Test.YtnkpblbofjchaaaWQPut
import Derived.Test.YtnkpblbofjchaaaWApart
import Derived.Test.YtnkpblbofjchaaaWArr
import Derived.Test.YtnkpblbofjchaaaWZeros
import Derived.Test.YtnkpblbofjchaaaWFoot
import Derived.Test.YtnkpblbofjchaaaWKept
import Derived.Test.YtnkpblbofjchaaaWShare
import Derived.Test.YtnkpblbofjchaaaWN
import Derived.Test.YtnkpblbofjchaaaWFootNe
import Derived.Test.YtnkpblbofjchaaaWAt
import Derived.Test.YtnkpblbofjchaaaWEqStruct
import Derived.Test.YtnkpblbofjchaaaWRepsOne
import Derived.Test.YtnkpblbofjchaaaWInv
import Derived.Test.YtnkpblbofjchaaaWInvWords
import Derived.Test.YtnkpblbofjchaaaWGuard
import Derived.Test.YtnkpblbofjchaaaWNEv
import Derived.Test.YtnkpblbofjchaaaWMore
namespace Go.Proofs.Ytnkpblbofjchaaa.Q
open Go.RowKit Go.Proofs.YtnkpblbofjchaaaW.PrintWords Go.Proofs.YtnkpblbofjchaaaW.PrintLast Go.Proofs.YtnkpblbofjchaaaW.PrintMore
attribute [local go_sem] max2_int min2_int max_two min_two max_three min_three max_four min_four   -- for this text's walks alone
set_option linter.unusedVariables false
set_option linter.unusedSimpArgs false



def errW : Option Int → Value
  | none => .nilIface
  | some c => .iface 0 (.int .i64 c)
theorem errW_none : errW none = .nilIface := rfl
theorem errW_some (c : Int) : errW (some c) = .iface 0 (.int .i64 c) := rfl

theorem info3 : (Try.prog.info? 3).map (fun i => (i.zero, i.size, i.bytes)) = some (some (.int .i64 0), 1, 8) := by kernel_rfl
theorem readsRow_len {α : Type} {R : α → List Value → Prop} {sz : Nat} {w : World} {A : Option Addr} {m n : Nat} {ps : List α} (e : m = n) (h : ReadsRow R sz w A m ps) : ReadsRow R sz w A n ps := by subst e; exact h
theorem wrap64_zero : wrap64 0 = 0 := by unfold wrap64; omega
-- the values' own types
def rd_L1 (xs : List (List Int)) (i : Int) : (List Int) := xs.getD i.toNat ([] : List Int)
theorem at_L1 {w : World} {A : Option Addr} {n : Nat} {xs : List (List Int)} (h : Kd.C (Kd.slice 3 (Kd.int .i64)) w A n xs) (i : Int) (h0 : 0 ≤ i) (h1 : i < n) : ∃ ad A0 c0, A = some ad ∧ w.cell? (ad.add i.toNat) = some (.slice A0 (rd_L1 xs i).length c0) ∧ (rd_L1 xs i).length ≤ c0 ∧ (Kd.int .i64).C w A0 (rd_L1 xs i).length (rd_L1 xs i) := by
  obtain ⟨ad, c, e, _, hK, hc0⟩ := Kd.C_get h ([] : List Int) i h0 h1
  have hc : ∀ j u, c[j]? = some u → w.cell? (ad.add (i.toNat * 1 + j)) = some u := hc0
  obtain ⟨A0, c0, rfl, l0, g0⟩ := hK
  exact ⟨ad, A0, c0, e, by have hq := hc 0 _ rfl; rwa [Nat.mul_one, Nat.add_zero] at hq, l0, g0⟩

end Go.Proofs.Ytnkpblbofjchaaa.Q
