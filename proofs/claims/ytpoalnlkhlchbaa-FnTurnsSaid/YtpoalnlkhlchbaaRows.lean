/-
  No cell of these rows narrows 'for every input' (looked for: loops, veiled, ifaces, maps, wideKeys, modest, calm, conditions, laid).
  DERIVED. THE GIVEN ROWS OF THIS SEAT. 12 by the template 'for every input the law returns true; each argument reads behind the call as it read before'; 0 by the template 'total and deterministic' (their statements: YtpoalnlkhlchbaaTotals.lean).
  GIVEN WITH THE SEED: the statements are not yours to turn. If you find one false, say at which input.
  Laid BY PROGRAM, IN A SANDBOX (cutbox-rows.mjs): the forced cells as the released guide's own fill.sh prints them over the translation 7b1f94878e2e7acb… (all of the seat's roots in one cut). By AI agents, Wed Nov 11 2026. No macro, syntax, notation, axiom, sorry.
-/
import Derived.Test.YtpoalnlkhlchbaaChecked
import GoSem.Claim
import GoSem.ClaimJoined
import GoSem.ClaimMapViews
import Derived.JoinedTies
import Derived.KernelRfl
namespace Go.Proofs.Ytpoalnlkhlchbaa
/- THE CELL 'sum', in the pinned program and in every row, IS THE sha256 OF THE DUMP (.gsa) THAT YtpoalnlkhlchbaaProg.lean LOADS. Nothing in Lean hashes anything: it is a label: what it is worth is what the hold of that sum in a sandbox is worth. -/
noncomputable def Try.pinned : Pinned := { name := "ytpoalnlkhlchbaa", sum := "7b1f94878e2e7acb5b5b41b92d07b6a3d117a4a9f839b2be1daaea73d1638889", checked := Try.checked }
namespace Rows
def none {H : Type} : Left H := { results := [], args := [] }

/-- 'laws.FnExactValSame': WHATEVER THE INPUT: true; the input reads as it did. -/
def fnExactValSameSpec : ChangeSpec := { name := "fnExactValSame", fn := fun _ => fun
  | [d1, d2] => { results := [.lit (.bool true)], args := [d1, d2] }
  | _ => none }
def fnExactValSameRow : OpenClaim := { program := "ytpoalnlkhlchbaa", sum := "7b1f94878e2e7acb5b5b41b92d07b6a3d117a4a9f839b2be1daaea73d1638889", func := "loop.example/g00070/laws.FnExactValSame", spec := "fnExactValSame", inPlace := ["math.Float64bits"], apart := false }
def FnExactValSameSaid : Prop := fnExactValSameRow.holds Try.pinned (OpenSpec.ofChange fnExactValSameSpec)

/-- ITS FALSE NEIGHBOUR: 'it returns false'. Refute it at one input. -/
def fnExactValSameWrong : ChangeSpec := { name := "fnExactValSame", fn := fun _ => fun
  | [d1, d2] => { results := [.lit (.bool false)], args := [d1, d2] }
  | _ => none }
def FnExactValSameWrongFalsely : Prop := fnExactValSameRow.holds Try.pinned (OpenSpec.ofChange fnExactValSameWrong)

/-- 'laws.FnExactValOk': WHATEVER THE INPUT: true; the input reads as it did. -/
def fnExactValOkSpec : ChangeSpec := { name := "fnExactValOk", fn := fun _ => fun
  | [d] => { results := [.lit (.bool true)], args := [d] }
  | _ => none }
def fnExactValOkRow : OpenClaim := { program := "ytpoalnlkhlchbaa", sum := "7b1f94878e2e7acb5b5b41b92d07b6a3d117a4a9f839b2be1daaea73d1638889", func := "loop.example/g00070/laws.FnExactValOk", spec := "fnExactValOk", inPlace := ["math.Float64bits"], apart := false }
def FnExactValOkSaid : Prop := fnExactValOkRow.holds Try.pinned (OpenSpec.ofChange fnExactValOkSpec)

/-- ITS FALSE NEIGHBOUR: 'it returns false'. Refute it at one input. -/
def fnExactValOkWrong : ChangeSpec := { name := "fnExactValOk", fn := fun _ => fun
  | [d] => { results := [.lit (.bool false)], args := [d] }
  | _ => none }
def FnExactValOkWrongFalsely : Prop := fnExactValOkRow.holds Try.pinned (OpenSpec.ofChange fnExactValOkWrong)

/-- 'laws.FnExactValZero': WHATEVER THE INPUT: true; the input reads as it did. -/
def fnExactValZeroSpec : ChangeSpec := { name := "fnExactValZero", fn := fun _ => fun
  | [d] => { results := [.lit (.bool true)], args := [d] }
  | _ => none }
def fnExactValZeroRow : OpenClaim := { program := "ytpoalnlkhlchbaa", sum := "7b1f94878e2e7acb5b5b41b92d07b6a3d117a4a9f839b2be1daaea73d1638889", func := "loop.example/g00070/laws.FnExactValZero", spec := "fnExactValZero", apart := false }
def FnExactValZeroSaid : Prop := fnExactValZeroRow.holds Try.pinned (OpenSpec.ofChange fnExactValZeroSpec)

/-- ITS FALSE NEIGHBOUR: 'it returns false'. Refute it at one input. -/
def fnExactValZeroWrong : ChangeSpec := { name := "fnExactValZero", fn := fun _ => fun
  | [d] => { results := [.lit (.bool false)], args := [d] }
  | _ => none }
def FnExactValZeroWrongFalsely : Prop := fnExactValZeroRow.holds Try.pinned (OpenSpec.ofChange fnExactValZeroWrong)

/-- 'laws.FnExactValPair': WHATEVER THE INPUT: true; the input reads as it did. -/
def fnExactValPairSpec : ChangeSpec := { name := "fnExactValPair", fn := fun _ => fun
  | [d1, d2] => { results := [.lit (.bool true)], args := [d1, d2] }
  | _ => none }
def fnExactValPairRow : OpenClaim := { program := "ytpoalnlkhlchbaa", sum := "7b1f94878e2e7acb5b5b41b92d07b6a3d117a4a9f839b2be1daaea73d1638889", func := "loop.example/g00070/laws.FnExactValPair", spec := "fnExactValPair", inPlace := ["math.Float64bits"], apart := false }
def FnExactValPairSaid : Prop := fnExactValPairRow.holds Try.pinned (OpenSpec.ofChange fnExactValPairSpec)

/-- ITS FALSE NEIGHBOUR: 'it returns false'. Refute it at one input. -/
def fnExactValPairWrong : ChangeSpec := { name := "fnExactValPair", fn := fun _ => fun
  | [d1, d2] => { results := [.lit (.bool false)], args := [d1, d2] }
  | _ => none }
def FnExactValPairWrongFalsely : Prop := fnExactValPairRow.holds Try.pinned (OpenSpec.ofChange fnExactValPairWrong)

/-- 'laws.FnExactValText': WHATEVER THE INPUT: true; the input reads as it did. -/
def fnExactValTextSpec : ChangeSpec := { name := "fnExactValText", fn := fun _ => fun
  | [d] => { results := [.lit (.bool true)], args := [d] }
  | _ => none }
def fnExactValTextRow : OpenClaim := { program := "ytpoalnlkhlchbaa", sum := "7b1f94878e2e7acb5b5b41b92d07b6a3d117a4a9f839b2be1daaea73d1638889", func := "loop.example/g00070/laws.FnExactValText", spec := "fnExactValText", inPlace := ["math.Float64bits"], apart := false }
def FnExactValTextSaid : Prop := fnExactValTextRow.holds Try.pinned (OpenSpec.ofChange fnExactValTextSpec)

/-- ITS FALSE NEIGHBOUR: 'it returns false'. Refute it at one input. -/
def fnExactValTextWrong : ChangeSpec := { name := "fnExactValText", fn := fun _ => fun
  | [d] => { results := [.lit (.bool false)], args := [d] }
  | _ => none }
def FnExactValTextWrongFalsely : Prop := fnExactValTextRow.holds Try.pinned (OpenSpec.ofChange fnExactValTextWrong)

/-- 'laws.FnExactValTurn': WHATEVER THE INPUT: true; the input reads as it did. -/
def fnExactValTurnSpec : ChangeSpec := { name := "fnExactValTurn", fn := fun _ => fun
  | [d1, d2] => { results := [.lit (.bool true)], args := [d1, d2] }
  | _ => none }
def fnExactValTurnRow : OpenClaim := { program := "ytpoalnlkhlchbaa", sum := "7b1f94878e2e7acb5b5b41b92d07b6a3d117a4a9f839b2be1daaea73d1638889", func := "loop.example/g00070/laws.FnExactValTurn", spec := "fnExactValTurn", inPlace := ["math.Float64bits"], apart := false }
def FnExactValTurnSaid : Prop := fnExactValTurnRow.holds Try.pinned (OpenSpec.ofChange fnExactValTurnSpec)

/-- ITS FALSE NEIGHBOUR: 'it returns false'. Refute it at one input. -/
def fnExactValTurnWrong : ChangeSpec := { name := "fnExactValTurn", fn := fun _ => fun
  | [d1, d2] => { results := [.lit (.bool false)], args := [d1, d2] }
  | _ => none }
def FnExactValTurnWrongFalsely : Prop := fnExactValTurnRow.holds Try.pinned (OpenSpec.ofChange fnExactValTurnWrong)

/-- 'laws.FnExactValOp': WHATEVER THE INPUT: true; the input reads as it did. -/
def fnExactValOpSpec : ChangeSpec := { name := "fnExactValOp", fn := fun _ => fun
  | [d1, d2, d3] => { results := [.lit (.bool true)], args := [d1, d2, d3] }
  | _ => none }
def fnExactValOpRow : OpenClaim := { program := "ytpoalnlkhlchbaa", sum := "7b1f94878e2e7acb5b5b41b92d07b6a3d117a4a9f839b2be1daaea73d1638889", func := "loop.example/g00070/laws.FnExactValOp", spec := "fnExactValOp", inPlace := ["math.Float64bits"], apart := false }
def FnExactValOpSaid : Prop := fnExactValOpRow.holds Try.pinned (OpenSpec.ofChange fnExactValOpSpec)

/-- ITS FALSE NEIGHBOUR: 'it returns false'. Refute it at one input. -/
def fnExactValOpWrong : ChangeSpec := { name := "fnExactValOp", fn := fun _ => fun
  | [d1, d2, d3] => { results := [.lit (.bool false)], args := [d1, d2, d3] }
  | _ => none }
def FnExactValOpWrongFalsely : Prop := fnExactValOpRow.holds Try.pinned (OpenSpec.ofChange fnExactValOpWrong)

/-- 'laws.FnTurns': WHATEVER THE INPUT: true; the input reads as it did. -/
def fnTurnsSpec : ChangeSpec := { name := "fnTurns", fn := fun _ => fun
  | [d] => { results := [.lit (.bool true)], args := [d] }
  | _ => none }
def fnTurnsRow : OpenClaim := { program := "ytpoalnlkhlchbaa", sum := "7b1f94878e2e7acb5b5b41b92d07b6a3d117a4a9f839b2be1daaea73d1638889", func := "loop.example/g00070/laws.FnTurns", spec := "fnTurns", inPlace := ["math.Float64bits"], apart := false }
def FnTurnsSaid : Prop := fnTurnsRow.holds Try.pinned (OpenSpec.ofChange fnTurnsSpec)

/-- ITS FALSE NEIGHBOUR: 'it returns false'. Refute it at one input. -/
def fnTurnsWrong : ChangeSpec := { name := "fnTurns", fn := fun _ => fun
  | [d] => { results := [.lit (.bool false)], args := [d] }
  | _ => none }
def FnTurnsWrongFalsely : Prop := fnTurnsRow.holds Try.pinned (OpenSpec.ofChange fnTurnsWrong)

/-- 'laws.FnDivides': WHATEVER THE INPUT: true; the input reads as it did. -/
def fnDividesSpec : ChangeSpec := { name := "fnDivides", fn := fun _ => fun
  | [d] => { results := [.lit (.bool true)], args := [d] }
  | _ => none }
def fnDividesRow : OpenClaim := { program := "ytpoalnlkhlchbaa", sum := "7b1f94878e2e7acb5b5b41b92d07b6a3d117a4a9f839b2be1daaea73d1638889", func := "loop.example/g00070/laws.FnDivides", spec := "fnDivides", inPlace := ["math.Float64bits"], apart := false }
def FnDividesSaid : Prop := fnDividesRow.holds Try.pinned (OpenSpec.ofChange fnDividesSpec)

/-- ITS FALSE NEIGHBOUR: 'it returns false'. Refute it at one input. -/
def fnDividesWrong : ChangeSpec := { name := "fnDivides", fn := fun _ => fun
  | [d] => { results := [.lit (.bool false)], args := [d] }
  | _ => none }
def FnDividesWrongFalsely : Prop := fnDividesRow.holds Try.pinned (OpenSpec.ofChange fnDividesWrong)

/-- 'laws.FnNegs': WHATEVER THE INPUT: true; the input reads as it did. -/
def fnNegsSpec : ChangeSpec := { name := "fnNegs", fn := fun _ => fun
  | [d] => { results := [.lit (.bool true)], args := [d] }
  | _ => none }
def fnNegsRow : OpenClaim := { program := "ytpoalnlkhlchbaa", sum := "7b1f94878e2e7acb5b5b41b92d07b6a3d117a4a9f839b2be1daaea73d1638889", func := "loop.example/g00070/laws.FnNegs", spec := "fnNegs", inPlace := ["math.Float64bits"], apart := false }
def FnNegsSaid : Prop := fnNegsRow.holds Try.pinned (OpenSpec.ofChange fnNegsSpec)

/-- ITS FALSE NEIGHBOUR: 'it returns false'. Refute it at one input. -/
def fnNegsWrong : ChangeSpec := { name := "fnNegs", fn := fun _ => fun
  | [d] => { results := [.lit (.bool false)], args := [d] }
  | _ => none }
def FnNegsWrongFalsely : Prop := fnNegsRow.holds Try.pinned (OpenSpec.ofChange fnNegsWrong)

/-- 'laws.FnTurnabout': WHATEVER THE INPUT: true; the input reads as it did. -/
def fnTurnaboutSpec : ChangeSpec := { name := "fnTurnabout", fn := fun _ => fun
  | [d] => { results := [.lit (.bool true)], args := [d] }
  | _ => none }
def fnTurnaboutRow : OpenClaim := { program := "ytpoalnlkhlchbaa", sum := "7b1f94878e2e7acb5b5b41b92d07b6a3d117a4a9f839b2be1daaea73d1638889", func := "loop.example/g00070/laws.FnTurnabout", spec := "fnTurnabout", inPlace := ["math.Float64bits"], apart := false }
def FnTurnaboutSaid : Prop := fnTurnaboutRow.holds Try.pinned (OpenSpec.ofChange fnTurnaboutSpec)

/-- ITS FALSE NEIGHBOUR: 'it returns false'. Refute it at one input. -/
def fnTurnaboutWrong : ChangeSpec := { name := "fnTurnabout", fn := fun _ => fun
  | [d] => { results := [.lit (.bool false)], args := [d] }
  | _ => none }
def FnTurnaboutWrongFalsely : Prop := fnTurnaboutRow.holds Try.pinned (OpenSpec.ofChange fnTurnaboutWrong)

/-- 'laws.FnExactCommands': WHATEVER THE INPUT: true; the input reads as it did. -/
def fnExactCommandsSpec : ChangeSpec := { name := "fnExactCommands", fn := fun _ => fun
  | [d] => { results := [.lit (.bool true)], args := [d] }
  | _ => none }
def fnExactCommandsRow : OpenClaim := { program := "ytpoalnlkhlchbaa", sum := "7b1f94878e2e7acb5b5b41b92d07b6a3d117a4a9f839b2be1daaea73d1638889", func := "loop.example/g00070/laws.FnExactCommands", spec := "fnExactCommands", apart := false }
def FnExactCommandsSaid : Prop := fnExactCommandsRow.holds Try.pinned (OpenSpec.ofChange fnExactCommandsSpec)

/-- ITS FALSE NEIGHBOUR: 'it returns false'. Refute it at one input. -/
def fnExactCommandsWrong : ChangeSpec := { name := "fnExactCommands", fn := fun _ => fun
  | [d] => { results := [.lit (.bool false)], args := [d] }
  | _ => none }
def FnExactCommandsWrongFalsely : Prop := fnExactCommandsRow.holds Try.pinned (OpenSpec.ofChange fnExactCommandsWrong)

/- THE SECOND FORM. 'bulk': how many values and letters a reading holds, each counted each time it is reached (what is shared counts as often as it is met; a slice's spare places count too). A statement '..UptoSaid' is the law's where the arguments, and the package variables that the reading takes, are together of bulk at most 1048576: NARROWER than '..Said'. Prove '..Said' where nothing that the law and all that it calls make is longer than what came in: it says more and counts as full. Else prove '..UptoSaid'. A law counts once. -/
mutual
def uptoBulk {H : Type} : DataW H → Nat
  | .lit (.string bytes) => bytes.length + 1
  | .lit _ => 1
  | .nil => 1
  | .ptr d => uptoBulk d + 1
  | .slice elems spare => uptoBulkAll elems + uptoBulkAll spare + 1
  | .agg parts => uptoBulkAll parts + 1
  | .iface _ d => uptoBulk d + 1
  | .map entries => uptoBulkEntries entries + 1
  | .held _ => 1
def uptoBulkAll {H : Type} : List (DataW H) → Nat
  | [] => 0
  | d :: r => uptoBulk d + uptoBulkAll r
def uptoBulkEntries {H : Type} : List (Lit × DataW H) → Nat
  | [] => 0
  | x :: r => uptoBulkEntry x + uptoBulkEntries r
def uptoBulkEntry {H : Type} : Lit × DataW H → Nat
  | (.string bytes, d) => bytes.length + uptoBulk d + 1
  | (_, d) => uptoBulk d + 1
 end
def uptoSmall : (H : Type) → List (DataW H) → Bool := fun _ ds => decide (uptoBulkAll ds ≤ 1048576)
def OpenSpec.upto (s : _root_.Go.ChangeSpec) : _root_.Go.OpenSpec := { _root_.Go.OpenSpec.ofChange s with cond := some uptoSmall }

/-- 'laws.FnExactValSame', WHERE WHAT IT READS IS OF BULK AT MOST 1048576: true; the input reads as it did. -/
def fnExactValSameUptoRow : OpenClaim := { program := "ytpoalnlkhlchbaa", sum := "7b1f94878e2e7acb5b5b41b92d07b6a3d117a4a9f839b2be1daaea73d1638889", func := "loop.example/g00070/laws.FnExactValSame", spec := "fnExactValSame", inPlace := ["math.Float64bits"], apart := false, narrowed := true }
def FnExactValSameUptoSaid : Prop := fnExactValSameUptoRow.holds Try.pinned (OpenSpec.upto fnExactValSameSpec)

/-- 'laws.FnExactValOk', WHERE WHAT IT READS IS OF BULK AT MOST 1048576: true; the input reads as it did. -/
def fnExactValOkUptoRow : OpenClaim := { program := "ytpoalnlkhlchbaa", sum := "7b1f94878e2e7acb5b5b41b92d07b6a3d117a4a9f839b2be1daaea73d1638889", func := "loop.example/g00070/laws.FnExactValOk", spec := "fnExactValOk", inPlace := ["math.Float64bits"], apart := false, narrowed := true }
def FnExactValOkUptoSaid : Prop := fnExactValOkUptoRow.holds Try.pinned (OpenSpec.upto fnExactValOkSpec)

/-- 'laws.FnExactValZero', WHERE WHAT IT READS IS OF BULK AT MOST 1048576: true; the input reads as it did. -/
def fnExactValZeroUptoRow : OpenClaim := { program := "ytpoalnlkhlchbaa", sum := "7b1f94878e2e7acb5b5b41b92d07b6a3d117a4a9f839b2be1daaea73d1638889", func := "loop.example/g00070/laws.FnExactValZero", spec := "fnExactValZero", apart := false, narrowed := true }
def FnExactValZeroUptoSaid : Prop := fnExactValZeroUptoRow.holds Try.pinned (OpenSpec.upto fnExactValZeroSpec)

/-- 'laws.FnExactValPair', WHERE WHAT IT READS IS OF BULK AT MOST 1048576: true; the input reads as it did. -/
def fnExactValPairUptoRow : OpenClaim := { program := "ytpoalnlkhlchbaa", sum := "7b1f94878e2e7acb5b5b41b92d07b6a3d117a4a9f839b2be1daaea73d1638889", func := "loop.example/g00070/laws.FnExactValPair", spec := "fnExactValPair", inPlace := ["math.Float64bits"], apart := false, narrowed := true }
def FnExactValPairUptoSaid : Prop := fnExactValPairUptoRow.holds Try.pinned (OpenSpec.upto fnExactValPairSpec)

/-- 'laws.FnExactValText', WHERE WHAT IT READS IS OF BULK AT MOST 1048576: true; the input reads as it did. -/
def fnExactValTextUptoRow : OpenClaim := { program := "ytpoalnlkhlchbaa", sum := "7b1f94878e2e7acb5b5b41b92d07b6a3d117a4a9f839b2be1daaea73d1638889", func := "loop.example/g00070/laws.FnExactValText", spec := "fnExactValText", inPlace := ["math.Float64bits"], apart := false, narrowed := true }
def FnExactValTextUptoSaid : Prop := fnExactValTextUptoRow.holds Try.pinned (OpenSpec.upto fnExactValTextSpec)

/-- 'laws.FnExactValTurn', WHERE WHAT IT READS IS OF BULK AT MOST 1048576: true; the input reads as it did. -/
def fnExactValTurnUptoRow : OpenClaim := { program := "ytpoalnlkhlchbaa", sum := "7b1f94878e2e7acb5b5b41b92d07b6a3d117a4a9f839b2be1daaea73d1638889", func := "loop.example/g00070/laws.FnExactValTurn", spec := "fnExactValTurn", inPlace := ["math.Float64bits"], apart := false, narrowed := true }
def FnExactValTurnUptoSaid : Prop := fnExactValTurnUptoRow.holds Try.pinned (OpenSpec.upto fnExactValTurnSpec)

/-- 'laws.FnExactValOp', WHERE WHAT IT READS IS OF BULK AT MOST 1048576: true; the input reads as it did. -/
def fnExactValOpUptoRow : OpenClaim := { program := "ytpoalnlkhlchbaa", sum := "7b1f94878e2e7acb5b5b41b92d07b6a3d117a4a9f839b2be1daaea73d1638889", func := "loop.example/g00070/laws.FnExactValOp", spec := "fnExactValOp", inPlace := ["math.Float64bits"], apart := false, narrowed := true }
def FnExactValOpUptoSaid : Prop := fnExactValOpUptoRow.holds Try.pinned (OpenSpec.upto fnExactValOpSpec)

/-- 'laws.FnTurns', WHERE WHAT IT READS IS OF BULK AT MOST 1048576: true; the input reads as it did. -/
def fnTurnsUptoRow : OpenClaim := { program := "ytpoalnlkhlchbaa", sum := "7b1f94878e2e7acb5b5b41b92d07b6a3d117a4a9f839b2be1daaea73d1638889", func := "loop.example/g00070/laws.FnTurns", spec := "fnTurns", inPlace := ["math.Float64bits"], apart := false, narrowed := true }
def FnTurnsUptoSaid : Prop := fnTurnsUptoRow.holds Try.pinned (OpenSpec.upto fnTurnsSpec)

/-- 'laws.FnDivides', WHERE WHAT IT READS IS OF BULK AT MOST 1048576: true; the input reads as it did. -/
def fnDividesUptoRow : OpenClaim := { program := "ytpoalnlkhlchbaa", sum := "7b1f94878e2e7acb5b5b41b92d07b6a3d117a4a9f839b2be1daaea73d1638889", func := "loop.example/g00070/laws.FnDivides", spec := "fnDivides", inPlace := ["math.Float64bits"], apart := false, narrowed := true }
def FnDividesUptoSaid : Prop := fnDividesUptoRow.holds Try.pinned (OpenSpec.upto fnDividesSpec)

/-- 'laws.FnNegs', WHERE WHAT IT READS IS OF BULK AT MOST 1048576: true; the input reads as it did. -/
def fnNegsUptoRow : OpenClaim := { program := "ytpoalnlkhlchbaa", sum := "7b1f94878e2e7acb5b5b41b92d07b6a3d117a4a9f839b2be1daaea73d1638889", func := "loop.example/g00070/laws.FnNegs", spec := "fnNegs", inPlace := ["math.Float64bits"], apart := false, narrowed := true }
def FnNegsUptoSaid : Prop := fnNegsUptoRow.holds Try.pinned (OpenSpec.upto fnNegsSpec)

/-- 'laws.FnTurnabout', WHERE WHAT IT READS IS OF BULK AT MOST 1048576: true; the input reads as it did. -/
def fnTurnaboutUptoRow : OpenClaim := { program := "ytpoalnlkhlchbaa", sum := "7b1f94878e2e7acb5b5b41b92d07b6a3d117a4a9f839b2be1daaea73d1638889", func := "loop.example/g00070/laws.FnTurnabout", spec := "fnTurnabout", inPlace := ["math.Float64bits"], apart := false, narrowed := true }
def FnTurnaboutUptoSaid : Prop := fnTurnaboutUptoRow.holds Try.pinned (OpenSpec.upto fnTurnaboutSpec)

/-- 'laws.FnExactCommands', WHERE WHAT IT READS IS OF BULK AT MOST 1048576: true; the input reads as it did. -/
def fnExactCommandsUptoRow : OpenClaim := { program := "ytpoalnlkhlchbaa", sum := "7b1f94878e2e7acb5b5b41b92d07b6a3d117a4a9f839b2be1daaea73d1638889", func := "loop.example/g00070/laws.FnExactCommands", spec := "fnExactCommands", apart := false, narrowed := true }
def FnExactCommandsUptoSaid : Prop := fnExactCommandsUptoRow.holds Try.pinned (OpenSpec.upto fnExactCommandsSpec)

end Rows
end Go.Proofs.Ytpoalnlkhlchbaa
