/-
  No cell of these rows narrows 'for every input' (looked for: loops, veiled, ifaces, maps, wideKeys, modest, calm, conditions, laid).
  DERIVED. THE GIVEN ROWS OF THIS SEAT. 17 by the template 'for every input the law returns true; each argument reads behind the call as it read before'; 0 by the template 'total and deterministic' (their statements: YtilbngklgjjblaaTotals.lean).
  GIVEN WITH THE SEED: the statements are not yours to turn. If you find one false, say at which input.
  Laid BY PROGRAM, IN A SANDBOX (cutbox-rows.mjs): the forced cells as the released guide's own fill.sh prints them over the translation 8c81dbcbe05ee95f… (all of the seat's roots in one cut). By AI agents, Wed Nov 11 2026. No macro, syntax, notation, axiom, sorry.
-/
import Derived.Test.YtilbngklgjjblaaChecked
import GoSem.Claim
import GoSem.ClaimJoined
import GoSem.ClaimMapViews
import Derived.JoinedTies
import Derived.KernelRfl
namespace Go.Proofs.Ytilbngklgjjblaa
/- THE CELL 'sum', in the pinned program and in every row, IS THE sha256 OF THE DUMP (.gsa) THAT YtilbngklgjjblaaProg.lean LOADS. Nothing in Lean hashes anything: it is a label: what it is worth is what the hold of that sum in a sandbox is worth. -/
noncomputable def Try.pinned : Pinned := { name := "ytilbngklgjjblaa", sum := "8c81dbcbe05ee95f07cbb50cdaafd86de62947948e4b0dab235d775acdfad74c", checked := Try.checked }
namespace Rows
def none {H : Type} : Left H := { results := [], args := [] }

/-- 'laws.FnRound': WHATEVER THE INPUT: true; the input reads as it did. -/
def fnRoundSpec : ChangeSpec := { name := "fnRound", fn := fun _ => fun
  | [d] => { results := [.lit (.bool true)], args := [d] }
  | _ => none }
def fnRoundRow : OpenClaim := { program := "ytilbngklgjjblaa", sum := "8c81dbcbe05ee95f07cbb50cdaafd86de62947948e4b0dab235d775acdfad74c", func := "loop.example/g03230/laws.FnRound", spec := "fnRound", unfollowed := true, recurses := true, apart := false }
def FnRoundSaid : Prop := fnRoundRow.holds Try.pinned (OpenSpec.ofChange fnRoundSpec)

/-- ITS FALSE NEIGHBOUR: 'it returns false'. Refute it at one input. -/
def fnRoundWrong : ChangeSpec := { name := "fnRound", fn := fun _ => fun
  | [d] => { results := [.lit (.bool false)], args := [d] }
  | _ => none }
def FnRoundWrongFalsely : Prop := fnRoundRow.holds Try.pinned (OpenSpec.ofChange fnRoundWrong)

/-- 'laws.FnExactFontOk': WHATEVER THE INPUT: true; the input reads as it did. -/
def fnExactFontOkSpec : ChangeSpec := { name := "fnExactFontOk", fn := fun _ => fun
  | [d] => { results := [.lit (.bool true)], args := [d] }
  | _ => none }
def fnExactFontOkRow : OpenClaim := { program := "ytilbngklgjjblaa", sum := "8c81dbcbe05ee95f07cbb50cdaafd86de62947948e4b0dab235d775acdfad74c", func := "loop.example/g03230/laws.FnExactFontOk", spec := "fnExactFontOk", unfollowed := true, recurses := true, apart := false }
def FnExactFontOkSaid : Prop := fnExactFontOkRow.holds Try.pinned (OpenSpec.ofChange fnExactFontOkSpec)

/-- ITS FALSE NEIGHBOUR: 'it returns false'. Refute it at one input. -/
def fnExactFontOkWrong : ChangeSpec := { name := "fnExactFontOk", fn := fun _ => fun
  | [d] => { results := [.lit (.bool false)], args := [d] }
  | _ => none }
def FnExactFontOkWrongFalsely : Prop := fnExactFontOkRow.holds Try.pinned (OpenSpec.ofChange fnExactFontOkWrong)

/-- 'laws.FnExactMatrixOk': WHATEVER THE INPUT: true; the input reads as it did. -/
def fnExactMatrixOkSpec : ChangeSpec := { name := "fnExactMatrixOk", fn := fun _ => fun
  | [d1, d2] => { results := [.lit (.bool true)], args := [d1, d2] }
  | _ => none }
def fnExactMatrixOkRow : OpenClaim := { program := "ytilbngklgjjblaa", sum := "8c81dbcbe05ee95f07cbb50cdaafd86de62947948e4b0dab235d775acdfad74c", func := "loop.example/g03230/laws.FnExactMatrixOk", spec := "fnExactMatrixOk", unfollowed := true, recurses := true, apart := false }
def FnExactMatrixOkSaid : Prop := fnExactMatrixOkRow.holds Try.pinned (OpenSpec.ofChange fnExactMatrixOkSpec)

/-- ITS FALSE NEIGHBOUR: 'it returns false'. Refute it at one input. -/
def fnExactMatrixOkWrong : ChangeSpec := { name := "fnExactMatrixOk", fn := fun _ => fun
  | [d1, d2] => { results := [.lit (.bool false)], args := [d1, d2] }
  | _ => none }
def FnExactMatrixOkWrongFalsely : Prop := fnExactMatrixOkRow.holds Try.pinned (OpenSpec.ofChange fnExactMatrixOkWrong)

/-- 'laws.FnExactKeyOf': WHATEVER THE INPUT: true; the input reads as it did. -/
def fnExactKeyOfSpec : ChangeSpec := { name := "fnExactKeyOf", fn := fun _ => fun
  | [d1, d2] => { results := [.lit (.bool true)], args := [d1, d2] }
  | _ => none }
def fnExactKeyOfRow : OpenClaim := { program := "ytilbngklgjjblaa", sum := "8c81dbcbe05ee95f07cbb50cdaafd86de62947948e4b0dab235d775acdfad74c", func := "loop.example/g03230/laws.FnExactKeyOf", spec := "fnExactKeyOf", unfollowed := true, recurses := true, apart := false }
def FnExactKeyOfSaid : Prop := fnExactKeyOfRow.holds Try.pinned (OpenSpec.ofChange fnExactKeyOfSpec)

/-- ITS FALSE NEIGHBOUR: 'it returns false'. Refute it at one input. -/
def fnExactKeyOfWrong : ChangeSpec := { name := "fnExactKeyOf", fn := fun _ => fun
  | [d1, d2] => { results := [.lit (.bool false)], args := [d1, d2] }
  | _ => none }
def FnExactKeyOfWrongFalsely : Prop := fnExactKeyOfRow.holds Try.pinned (OpenSpec.ofChange fnExactKeyOfWrong)

/-- 'laws.FnExactLettersOf': WHATEVER THE INPUT: true; the input reads as it did. -/
def fnExactLettersOfSpec : ChangeSpec := { name := "fnExactLettersOf", fn := fun _ => fun
  | [d1, d2] => { results := [.lit (.bool true)], args := [d1, d2] }
  | _ => none }
def fnExactLettersOfRow : OpenClaim := { program := "ytilbngklgjjblaa", sum := "8c81dbcbe05ee95f07cbb50cdaafd86de62947948e4b0dab235d775acdfad74c", func := "loop.example/g03230/laws.FnExactLettersOf", spec := "fnExactLettersOf", unfollowed := true, recurses := true, apart := false }
def FnExactLettersOfSaid : Prop := fnExactLettersOfRow.holds Try.pinned (OpenSpec.ofChange fnExactLettersOfSpec)

/-- ITS FALSE NEIGHBOUR: 'it returns false'. Refute it at one input. -/
def fnExactLettersOfWrong : ChangeSpec := { name := "fnExactLettersOf", fn := fun _ => fun
  | [d1, d2] => { results := [.lit (.bool false)], args := [d1, d2] }
  | _ => none }
def FnExactLettersOfWrongFalsely : Prop := fnExactLettersOfRow.holds Try.pinned (OpenSpec.ofChange fnExactLettersOfWrong)

/-- 'laws.FnExactMagazineOk': WHATEVER THE INPUT: true; the input reads as it did. -/
def fnExactMagazineOkSpec : ChangeSpec := { name := "fnExactMagazineOk", fn := fun _ => fun
  | [d1, d2] => { results := [.lit (.bool true)], args := [d1, d2] }
  | _ => none }
def fnExactMagazineOkRow : OpenClaim := { program := "ytilbngklgjjblaa", sum := "8c81dbcbe05ee95f07cbb50cdaafd86de62947948e4b0dab235d775acdfad74c", func := "loop.example/g03230/laws.FnExactMagazineOk", spec := "fnExactMagazineOk", unfollowed := true, recurses := true, apart := false }
def FnExactMagazineOkSaid : Prop := fnExactMagazineOkRow.holds Try.pinned (OpenSpec.ofChange fnExactMagazineOkSpec)

/-- ITS FALSE NEIGHBOUR: 'it returns false'. Refute it at one input. -/
def fnExactMagazineOkWrong : ChangeSpec := { name := "fnExactMagazineOk", fn := fun _ => fun
  | [d1, d2] => { results := [.lit (.bool false)], args := [d1, d2] }
  | _ => none }
def FnExactMagazineOkWrongFalsely : Prop := fnExactMagazineOkRow.holds Try.pinned (OpenSpec.ofChange fnExactMagazineOkWrong)

/-- 'laws.FnExactCountStrays': WHATEVER THE INPUT: true; the input reads as it did. -/
def fnExactCountStraysSpec : ChangeSpec := { name := "fnExactCountStrays", fn := fun _ => fun
  | [d1, d2] => { results := [.lit (.bool true)], args := [d1, d2] }
  | _ => none }
def fnExactCountStraysRow : OpenClaim := { program := "ytilbngklgjjblaa", sum := "8c81dbcbe05ee95f07cbb50cdaafd86de62947948e4b0dab235d775acdfad74c", func := "loop.example/g03230/laws.FnExactCountStrays", spec := "fnExactCountStrays", unfollowed := true, recurses := true, apart := false }
def FnExactCountStraysSaid : Prop := fnExactCountStraysRow.holds Try.pinned (OpenSpec.ofChange fnExactCountStraysSpec)

/-- ITS FALSE NEIGHBOUR: 'it returns false'. Refute it at one input. -/
def fnExactCountStraysWrong : ChangeSpec := { name := "fnExactCountStrays", fn := fun _ => fun
  | [d1, d2] => { results := [.lit (.bool false)], args := [d1, d2] }
  | _ => none }
def FnExactCountStraysWrongFalsely : Prop := fnExactCountStraysRow.holds Try.pinned (OpenSpec.ofChange fnExactCountStraysWrong)

/-- 'laws.FnExactCountWorn': WHATEVER THE INPUT: true; the input reads as it did. -/
def fnExactCountWornSpec : ChangeSpec := { name := "fnExactCountWorn", fn := fun _ => fun
  | [d1, d2] => { results := [.lit (.bool true)], args := [d1, d2] }
  | _ => none }
def fnExactCountWornRow : OpenClaim := { program := "ytilbngklgjjblaa", sum := "8c81dbcbe05ee95f07cbb50cdaafd86de62947948e4b0dab235d775acdfad74c", func := "loop.example/g03230/laws.FnExactCountWorn", spec := "fnExactCountWorn", unfollowed := true, recurses := true, apart := false }
def FnExactCountWornSaid : Prop := fnExactCountWornRow.holds Try.pinned (OpenSpec.ofChange fnExactCountWornSpec)

/-- ITS FALSE NEIGHBOUR: 'it returns false'. Refute it at one input. -/
def fnExactCountWornWrong : ChangeSpec := { name := "fnExactCountWorn", fn := fun _ => fun
  | [d1, d2] => { results := [.lit (.bool false)], args := [d1, d2] }
  | _ => none }
def FnExactCountWornWrongFalsely : Prop := fnExactCountWornRow.holds Try.pinned (OpenSpec.ofChange fnExactCountWornWrong)

/-- 'laws.FnExactFillMagazine': WHATEVER THE INPUT: true; the input reads as it did. -/
def fnExactFillMagazineSpec : ChangeSpec := { name := "fnExactFillMagazine", fn := fun _ => fun
  | [d1, d2] => { results := [.lit (.bool true)], args := [d1, d2] }
  | _ => none }
def fnExactFillMagazineRow : OpenClaim := { program := "ytilbngklgjjblaa", sum := "8c81dbcbe05ee95f07cbb50cdaafd86de62947948e4b0dab235d775acdfad74c", func := "loop.example/g03230/laws.FnExactFillMagazine", spec := "fnExactFillMagazine", unfollowed := true, recurses := true, apart := false }
def FnExactFillMagazineSaid : Prop := fnExactFillMagazineRow.holds Try.pinned (OpenSpec.ofChange fnExactFillMagazineSpec)

/-- ITS FALSE NEIGHBOUR: 'it returns false'. Refute it at one input. -/
def fnExactFillMagazineWrong : ChangeSpec := { name := "fnExactFillMagazine", fn := fun _ => fun
  | [d1, d2] => { results := [.lit (.bool false)], args := [d1, d2] }
  | _ => none }
def FnExactFillMagazineWrongFalsely : Prop := fnExactFillMagazineRow.holds Try.pinned (OpenSpec.ofChange fnExactFillMagazineWrong)

/-- 'laws.FnExactKindCounts': WHATEVER THE INPUT: true; the input reads as it did. -/
def fnExactKindCountsSpec : ChangeSpec := { name := "fnExactKindCounts", fn := fun _ => fun
  | [d1, d2] => { results := [.lit (.bool true)], args := [d1, d2] }
  | _ => none }
def fnExactKindCountsRow : OpenClaim := { program := "ytilbngklgjjblaa", sum := "8c81dbcbe05ee95f07cbb50cdaafd86de62947948e4b0dab235d775acdfad74c", func := "loop.example/g03230/laws.FnExactKindCounts", spec := "fnExactKindCounts", unfollowed := true, recurses := true, apart := false }
def FnExactKindCountsSaid : Prop := fnExactKindCountsRow.holds Try.pinned (OpenSpec.ofChange fnExactKindCountsSpec)

/-- ITS FALSE NEIGHBOUR: 'it returns false'. Refute it at one input. -/
def fnExactKindCountsWrong : ChangeSpec := { name := "fnExactKindCounts", fn := fun _ => fun
  | [d1, d2] => { results := [.lit (.bool false)], args := [d1, d2] }
  | _ => none }
def FnExactKindCountsWrongFalsely : Prop := fnExactKindCountsRow.holds Try.pinned (OpenSpec.ofChange fnExactKindCountsWrong)

/-- 'laws.FnStocked': WHATEVER THE INPUT: true; the input reads as it did. -/
def fnStockedSpec : ChangeSpec := { name := "fnStocked", fn := fun _ => fun
  | [d] => { results := [.lit (.bool true)], args := [d] }
  | _ => none }
def fnStockedRow : OpenClaim := { program := "ytilbngklgjjblaa", sum := "8c81dbcbe05ee95f07cbb50cdaafd86de62947948e4b0dab235d775acdfad74c", func := "loop.example/g03230/laws.FnStocked", spec := "fnStocked", unfollowed := true, recurses := true, apart := false }
def FnStockedSaid : Prop := fnStockedRow.holds Try.pinned (OpenSpec.ofChange fnStockedSpec)

/-- ITS FALSE NEIGHBOUR: 'it returns false'. Refute it at one input. -/
def fnStockedWrong : ChangeSpec := { name := "fnStocked", fn := fun _ => fun
  | [d] => { results := [.lit (.bool false)], args := [d] }
  | _ => none }
def FnStockedWrongFalsely : Prop := fnStockedRow.holds Try.pinned (OpenSpec.ofChange fnStockedWrong)

/-- 'laws.FnExactTakeMatrix': WHATEVER THE INPUT: true; the input reads as it did. -/
def fnExactTakeMatrixSpec : ChangeSpec := { name := "fnExactTakeMatrix", fn := fun _ => fun
  | [d1, d2, d3] => { results := [.lit (.bool true)], args := [d1, d2, d3] }
  | _ => none }
def fnExactTakeMatrixRow : OpenClaim := { program := "ytilbngklgjjblaa", sum := "8c81dbcbe05ee95f07cbb50cdaafd86de62947948e4b0dab235d775acdfad74c", func := "loop.example/g03230/laws.FnExactTakeMatrix", spec := "fnExactTakeMatrix", unfollowed := true, recurses := true, apart := false }
def FnExactTakeMatrixSaid : Prop := fnExactTakeMatrixRow.holds Try.pinned (OpenSpec.ofChange fnExactTakeMatrixSpec)

/-- ITS FALSE NEIGHBOUR: 'it returns false'. Refute it at one input. -/
def fnExactTakeMatrixWrong : ChangeSpec := { name := "fnExactTakeMatrix", fn := fun _ => fun
  | [d1, d2, d3] => { results := [.lit (.bool false)], args := [d1, d2, d3] }
  | _ => none }
def FnExactTakeMatrixWrongFalsely : Prop := fnExactTakeMatrixRow.holds Try.pinned (OpenSpec.ofChange fnExactTakeMatrixWrong)

/-- 'laws.FnWorn': WHATEVER THE INPUT: true; the input reads as it did. -/
def fnWornSpec : ChangeSpec := { name := "fnWorn", fn := fun _ => fun
  | [d] => { results := [.lit (.bool true)], args := [d] }
  | _ => none }
def fnWornRow : OpenClaim := { program := "ytilbngklgjjblaa", sum := "8c81dbcbe05ee95f07cbb50cdaafd86de62947948e4b0dab235d775acdfad74c", func := "loop.example/g03230/laws.FnWorn", spec := "fnWorn", unfollowed := true, recurses := true, apart := false }
def FnWornSaid : Prop := fnWornRow.holds Try.pinned (OpenSpec.ofChange fnWornSpec)

/-- ITS FALSE NEIGHBOUR: 'it returns false'. Refute it at one input. -/
def fnWornWrong : ChangeSpec := { name := "fnWorn", fn := fun _ => fun
  | [d] => { results := [.lit (.bool false)], args := [d] }
  | _ => none }
def FnWornWrongFalsely : Prop := fnWornRow.holds Try.pinned (OpenSpec.ofChange fnWornWrong)

/-- 'laws.FnExactSweepMagazine': WHATEVER THE INPUT: true; the input reads as it did. -/
def fnExactSweepMagazineSpec : ChangeSpec := { name := "fnExactSweepMagazine", fn := fun _ => fun
  | [d1, d2] => { results := [.lit (.bool true)], args := [d1, d2] }
  | _ => none }
def fnExactSweepMagazineRow : OpenClaim := { program := "ytilbngklgjjblaa", sum := "8c81dbcbe05ee95f07cbb50cdaafd86de62947948e4b0dab235d775acdfad74c", func := "loop.example/g03230/laws.FnExactSweepMagazine", spec := "fnExactSweepMagazine", unfollowed := true, recurses := true, apart := false }
def FnExactSweepMagazineSaid : Prop := fnExactSweepMagazineRow.holds Try.pinned (OpenSpec.ofChange fnExactSweepMagazineSpec)

/-- ITS FALSE NEIGHBOUR: 'it returns false'. Refute it at one input. -/
def fnExactSweepMagazineWrong : ChangeSpec := { name := "fnExactSweepMagazine", fn := fun _ => fun
  | [d1, d2] => { results := [.lit (.bool false)], args := [d1, d2] }
  | _ => none }
def FnExactSweepMagazineWrongFalsely : Prop := fnExactSweepMagazineRow.holds Try.pinned (OpenSpec.ofChange fnExactSweepMagazineWrong)

/-- 'laws.FnExactWearMatrix': WHATEVER THE INPUT: true; the input reads as it did. -/
def fnExactWearMatrixSpec : ChangeSpec := { name := "fnExactWearMatrix", fn := fun _ => fun
  | [d1, d2, d3, d4, d5] => { results := [.lit (.bool true)], args := [d1, d2, d3, d4, d5] }
  | _ => none }
def fnExactWearMatrixRow : OpenClaim := { program := "ytilbngklgjjblaa", sum := "8c81dbcbe05ee95f07cbb50cdaafd86de62947948e4b0dab235d775acdfad74c", func := "loop.example/g03230/laws.FnExactWearMatrix", spec := "fnExactWearMatrix", unfollowed := true, recurses := true, apart := false }
def FnExactWearMatrixSaid : Prop := fnExactWearMatrixRow.holds Try.pinned (OpenSpec.ofChange fnExactWearMatrixSpec)

/-- ITS FALSE NEIGHBOUR: 'it returns false'. Refute it at one input. -/
def fnExactWearMatrixWrong : ChangeSpec := { name := "fnExactWearMatrix", fn := fun _ => fun
  | [d1, d2, d3, d4, d5] => { results := [.lit (.bool false)], args := [d1, d2, d3, d4, d5] }
  | _ => none }
def FnExactWearMatrixWrongFalsely : Prop := fnExactWearMatrixRow.holds Try.pinned (OpenSpec.ofChange fnExactWearMatrixWrong)

/-- 'laws.FnExactDropMatrix': WHATEVER THE INPUT: true; the input reads as it did. -/
def fnExactDropMatrixSpec : ChangeSpec := { name := "fnExactDropMatrix", fn := fun _ => fun
  | [d1, d2, d3] => { results := [.lit (.bool true)], args := [d1, d2, d3] }
  | _ => none }
def fnExactDropMatrixRow : OpenClaim := { program := "ytilbngklgjjblaa", sum := "8c81dbcbe05ee95f07cbb50cdaafd86de62947948e4b0dab235d775acdfad74c", func := "loop.example/g03230/laws.FnExactDropMatrix", spec := "fnExactDropMatrix", unfollowed := true, recurses := true, apart := false }
def FnExactDropMatrixSaid : Prop := fnExactDropMatrixRow.holds Try.pinned (OpenSpec.ofChange fnExactDropMatrixSpec)

/-- ITS FALSE NEIGHBOUR: 'it returns false'. Refute it at one input. -/
def fnExactDropMatrixWrong : ChangeSpec := { name := "fnExactDropMatrix", fn := fun _ => fun
  | [d1, d2, d3] => { results := [.lit (.bool false)], args := [d1, d2, d3] }
  | _ => none }
def FnExactDropMatrixWrongFalsely : Prop := fnExactDropMatrixRow.holds Try.pinned (OpenSpec.ofChange fnExactDropMatrixWrong)

/-- 'laws.FnSwept': WHATEVER THE INPUT: true; the input reads as it did. -/
def fnSweptSpec : ChangeSpec := { name := "fnSwept", fn := fun _ => fun
  | [d] => { results := [.lit (.bool true)], args := [d] }
  | _ => none }
def fnSweptRow : OpenClaim := { program := "ytilbngklgjjblaa", sum := "8c81dbcbe05ee95f07cbb50cdaafd86de62947948e4b0dab235d775acdfad74c", func := "loop.example/g03230/laws.FnSwept", spec := "fnSwept", unfollowed := true, recurses := true, apart := false }
def FnSweptSaid : Prop := fnSweptRow.holds Try.pinned (OpenSpec.ofChange fnSweptSpec)

/-- ITS FALSE NEIGHBOUR: 'it returns false'. Refute it at one input. -/
def fnSweptWrong : ChangeSpec := { name := "fnSwept", fn := fun _ => fun
  | [d] => { results := [.lit (.bool false)], args := [d] }
  | _ => none }
def FnSweptWrongFalsely : Prop := fnSweptRow.holds Try.pinned (OpenSpec.ofChange fnSweptWrong)

/- THE SECOND FORM. 'bulk': how many values and letters a reading holds, each counted each time it is reached (what is shared counts as often as it is met; a slice's spare places count too). A statement '..UptoSaid' is the law's where the arguments, and the package variables that the reading takes, are together of bulk at most 1048576: NARROWER than '..Said'. Prove '..Said' where nothing that the law and all that it calls make is longer than what came in: it says more and counts as full. Else prove '..UptoSaid'. A law counts once. -/
mutual
def uptoBulk {H : Type} : DataW H → Nat
  | .lit (.string bytes) => bytes.length + 1
  | .lit _ => 1
  | .nil => 1
  | .ptr d => uptoBulk d + 1
  | .slice elems spare => uptoBulkAll elems + uptoBulkAll spare + 1
  | .agg parts => uptoBulkAll parts + 1
  | .iface _ d => uptoBulk d + 1
  | .map entries => uptoBulkEntries entries + 1
  | .held _ => 1
def uptoBulkAll {H : Type} : List (DataW H) → Nat
  | [] => 0
  | d :: r => uptoBulk d + uptoBulkAll r
def uptoBulkEntries {H : Type} : List (Lit × DataW H) → Nat
  | [] => 0
  | x :: r => uptoBulkEntry x + uptoBulkEntries r
def uptoBulkEntry {H : Type} : Lit × DataW H → Nat
  | (.string bytes, d) => bytes.length + uptoBulk d + 1
  | (_, d) => uptoBulk d + 1
 end
def uptoSmall : (H : Type) → List (DataW H) → Bool := fun _ ds => decide (uptoBulkAll ds ≤ 1048576)
def OpenSpec.upto (s : _root_.Go.ChangeSpec) : _root_.Go.OpenSpec := { _root_.Go.OpenSpec.ofChange s with cond := some uptoSmall }

/-- 'laws.FnRound', WHERE WHAT IT READS IS OF BULK AT MOST 1048576: true; the input reads as it did. -/
def fnRoundUptoRow : OpenClaim := { program := "ytilbngklgjjblaa", sum := "8c81dbcbe05ee95f07cbb50cdaafd86de62947948e4b0dab235d775acdfad74c", func := "loop.example/g03230/laws.FnRound", spec := "fnRound", unfollowed := true, recurses := true, apart := false, narrowed := true }
def FnRoundUptoSaid : Prop := fnRoundUptoRow.holds Try.pinned (OpenSpec.upto fnRoundSpec)

/-- 'laws.FnExactFontOk', WHERE WHAT IT READS IS OF BULK AT MOST 1048576: true; the input reads as it did. -/
def fnExactFontOkUptoRow : OpenClaim := { program := "ytilbngklgjjblaa", sum := "8c81dbcbe05ee95f07cbb50cdaafd86de62947948e4b0dab235d775acdfad74c", func := "loop.example/g03230/laws.FnExactFontOk", spec := "fnExactFontOk", unfollowed := true, recurses := true, apart := false, narrowed := true }
def FnExactFontOkUptoSaid : Prop := fnExactFontOkUptoRow.holds Try.pinned (OpenSpec.upto fnExactFontOkSpec)

/-- 'laws.FnExactMatrixOk', WHERE WHAT IT READS IS OF BULK AT MOST 1048576: true; the input reads as it did. -/
def fnExactMatrixOkUptoRow : OpenClaim := { program := "ytilbngklgjjblaa", sum := "8c81dbcbe05ee95f07cbb50cdaafd86de62947948e4b0dab235d775acdfad74c", func := "loop.example/g03230/laws.FnExactMatrixOk", spec := "fnExactMatrixOk", unfollowed := true, recurses := true, apart := false, narrowed := true }
def FnExactMatrixOkUptoSaid : Prop := fnExactMatrixOkUptoRow.holds Try.pinned (OpenSpec.upto fnExactMatrixOkSpec)

/-- 'laws.FnExactKeyOf', WHERE WHAT IT READS IS OF BULK AT MOST 1048576: true; the input reads as it did. -/
def fnExactKeyOfUptoRow : OpenClaim := { program := "ytilbngklgjjblaa", sum := "8c81dbcbe05ee95f07cbb50cdaafd86de62947948e4b0dab235d775acdfad74c", func := "loop.example/g03230/laws.FnExactKeyOf", spec := "fnExactKeyOf", unfollowed := true, recurses := true, apart := false, narrowed := true }
def FnExactKeyOfUptoSaid : Prop := fnExactKeyOfUptoRow.holds Try.pinned (OpenSpec.upto fnExactKeyOfSpec)

/-- 'laws.FnExactLettersOf', WHERE WHAT IT READS IS OF BULK AT MOST 1048576: true; the input reads as it did. -/
def fnExactLettersOfUptoRow : OpenClaim := { program := "ytilbngklgjjblaa", sum := "8c81dbcbe05ee95f07cbb50cdaafd86de62947948e4b0dab235d775acdfad74c", func := "loop.example/g03230/laws.FnExactLettersOf", spec := "fnExactLettersOf", unfollowed := true, recurses := true, apart := false, narrowed := true }
def FnExactLettersOfUptoSaid : Prop := fnExactLettersOfUptoRow.holds Try.pinned (OpenSpec.upto fnExactLettersOfSpec)

/-- 'laws.FnExactMagazineOk', WHERE WHAT IT READS IS OF BULK AT MOST 1048576: true; the input reads as it did. -/
def fnExactMagazineOkUptoRow : OpenClaim := { program := "ytilbngklgjjblaa", sum := "8c81dbcbe05ee95f07cbb50cdaafd86de62947948e4b0dab235d775acdfad74c", func := "loop.example/g03230/laws.FnExactMagazineOk", spec := "fnExactMagazineOk", unfollowed := true, recurses := true, apart := false, narrowed := true }
def FnExactMagazineOkUptoSaid : Prop := fnExactMagazineOkUptoRow.holds Try.pinned (OpenSpec.upto fnExactMagazineOkSpec)

/-- 'laws.FnExactCountStrays', WHERE WHAT IT READS IS OF BULK AT MOST 1048576: true; the input reads as it did. -/
def fnExactCountStraysUptoRow : OpenClaim := { program := "ytilbngklgjjblaa", sum := "8c81dbcbe05ee95f07cbb50cdaafd86de62947948e4b0dab235d775acdfad74c", func := "loop.example/g03230/laws.FnExactCountStrays", spec := "fnExactCountStrays", unfollowed := true, recurses := true, apart := false, narrowed := true }
def FnExactCountStraysUptoSaid : Prop := fnExactCountStraysUptoRow.holds Try.pinned (OpenSpec.upto fnExactCountStraysSpec)

/-- 'laws.FnExactCountWorn', WHERE WHAT IT READS IS OF BULK AT MOST 1048576: true; the input reads as it did. -/
def fnExactCountWornUptoRow : OpenClaim := { program := "ytilbngklgjjblaa", sum := "8c81dbcbe05ee95f07cbb50cdaafd86de62947948e4b0dab235d775acdfad74c", func := "loop.example/g03230/laws.FnExactCountWorn", spec := "fnExactCountWorn", unfollowed := true, recurses := true, apart := false, narrowed := true }
def FnExactCountWornUptoSaid : Prop := fnExactCountWornUptoRow.holds Try.pinned (OpenSpec.upto fnExactCountWornSpec)

/-- 'laws.FnExactFillMagazine', WHERE WHAT IT READS IS OF BULK AT MOST 1048576: true; the input reads as it did. -/
def fnExactFillMagazineUptoRow : OpenClaim := { program := "ytilbngklgjjblaa", sum := "8c81dbcbe05ee95f07cbb50cdaafd86de62947948e4b0dab235d775acdfad74c", func := "loop.example/g03230/laws.FnExactFillMagazine", spec := "fnExactFillMagazine", unfollowed := true, recurses := true, apart := false, narrowed := true }
def FnExactFillMagazineUptoSaid : Prop := fnExactFillMagazineUptoRow.holds Try.pinned (OpenSpec.upto fnExactFillMagazineSpec)

/-- 'laws.FnExactKindCounts', WHERE WHAT IT READS IS OF BULK AT MOST 1048576: true; the input reads as it did. -/
def fnExactKindCountsUptoRow : OpenClaim := { program := "ytilbngklgjjblaa", sum := "8c81dbcbe05ee95f07cbb50cdaafd86de62947948e4b0dab235d775acdfad74c", func := "loop.example/g03230/laws.FnExactKindCounts", spec := "fnExactKindCounts", unfollowed := true, recurses := true, apart := false, narrowed := true }
def FnExactKindCountsUptoSaid : Prop := fnExactKindCountsUptoRow.holds Try.pinned (OpenSpec.upto fnExactKindCountsSpec)

/-- 'laws.FnStocked', WHERE WHAT IT READS IS OF BULK AT MOST 1048576: true; the input reads as it did. -/
def fnStockedUptoRow : OpenClaim := { program := "ytilbngklgjjblaa", sum := "8c81dbcbe05ee95f07cbb50cdaafd86de62947948e4b0dab235d775acdfad74c", func := "loop.example/g03230/laws.FnStocked", spec := "fnStocked", unfollowed := true, recurses := true, apart := false, narrowed := true }
def FnStockedUptoSaid : Prop := fnStockedUptoRow.holds Try.pinned (OpenSpec.upto fnStockedSpec)

/-- 'laws.FnExactTakeMatrix', WHERE WHAT IT READS IS OF BULK AT MOST 1048576: true; the input reads as it did. -/
def fnExactTakeMatrixUptoRow : OpenClaim := { program := "ytilbngklgjjblaa", sum := "8c81dbcbe05ee95f07cbb50cdaafd86de62947948e4b0dab235d775acdfad74c", func := "loop.example/g03230/laws.FnExactTakeMatrix", spec := "fnExactTakeMatrix", unfollowed := true, recurses := true, apart := false, narrowed := true }
def FnExactTakeMatrixUptoSaid : Prop := fnExactTakeMatrixUptoRow.holds Try.pinned (OpenSpec.upto fnExactTakeMatrixSpec)

/-- 'laws.FnWorn', WHERE WHAT IT READS IS OF BULK AT MOST 1048576: true; the input reads as it did. -/
def fnWornUptoRow : OpenClaim := { program := "ytilbngklgjjblaa", sum := "8c81dbcbe05ee95f07cbb50cdaafd86de62947948e4b0dab235d775acdfad74c", func := "loop.example/g03230/laws.FnWorn", spec := "fnWorn", unfollowed := true, recurses := true, apart := false, narrowed := true }
def FnWornUptoSaid : Prop := fnWornUptoRow.holds Try.pinned (OpenSpec.upto fnWornSpec)

/-- 'laws.FnExactSweepMagazine', WHERE WHAT IT READS IS OF BULK AT MOST 1048576: true; the input reads as it did. -/
def fnExactSweepMagazineUptoRow : OpenClaim := { program := "ytilbngklgjjblaa", sum := "8c81dbcbe05ee95f07cbb50cdaafd86de62947948e4b0dab235d775acdfad74c", func := "loop.example/g03230/laws.FnExactSweepMagazine", spec := "fnExactSweepMagazine", unfollowed := true, recurses := true, apart := false, narrowed := true }
def FnExactSweepMagazineUptoSaid : Prop := fnExactSweepMagazineUptoRow.holds Try.pinned (OpenSpec.upto fnExactSweepMagazineSpec)

/-- 'laws.FnExactWearMatrix', WHERE WHAT IT READS IS OF BULK AT MOST 1048576: true; the input reads as it did. -/
def fnExactWearMatrixUptoRow : OpenClaim := { program := "ytilbngklgjjblaa", sum := "8c81dbcbe05ee95f07cbb50cdaafd86de62947948e4b0dab235d775acdfad74c", func := "loop.example/g03230/laws.FnExactWearMatrix", spec := "fnExactWearMatrix", unfollowed := true, recurses := true, apart := false, narrowed := true }
def FnExactWearMatrixUptoSaid : Prop := fnExactWearMatrixUptoRow.holds Try.pinned (OpenSpec.upto fnExactWearMatrixSpec)

/-- 'laws.FnExactDropMatrix', WHERE WHAT IT READS IS OF BULK AT MOST 1048576: true; the input reads as it did. -/
def fnExactDropMatrixUptoRow : OpenClaim := { program := "ytilbngklgjjblaa", sum := "8c81dbcbe05ee95f07cbb50cdaafd86de62947948e4b0dab235d775acdfad74c", func := "loop.example/g03230/laws.FnExactDropMatrix", spec := "fnExactDropMatrix", unfollowed := true, recurses := true, apart := false, narrowed := true }
def FnExactDropMatrixUptoSaid : Prop := fnExactDropMatrixUptoRow.holds Try.pinned (OpenSpec.upto fnExactDropMatrixSpec)

/-- 'laws.FnSwept', WHERE WHAT IT READS IS OF BULK AT MOST 1048576: true; the input reads as it did. -/
def fnSweptUptoRow : OpenClaim := { program := "ytilbngklgjjblaa", sum := "8c81dbcbe05ee95f07cbb50cdaafd86de62947948e4b0dab235d775acdfad74c", func := "loop.example/g03230/laws.FnSwept", spec := "fnSwept", unfollowed := true, recurses := true, apart := false, narrowed := true }
def FnSweptUptoSaid : Prop := fnSweptUptoRow.holds Try.pinned (OpenSpec.upto fnSweptSpec)

end Rows
end Go.Proofs.Ytilbngklgjjblaa
