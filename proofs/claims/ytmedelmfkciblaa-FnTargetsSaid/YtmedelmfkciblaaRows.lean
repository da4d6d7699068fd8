/-
  No cell of these rows narrows 'for every input' (looked for: loops, veiled, ifaces, maps, wideKeys, modest, calm, conditions, laid).
  DERIVED. THE GIVEN ROWS OF THIS SEAT. 10 by the template 'for every input the law returns true; each argument reads behind the call as it read before'; 0 by the template 'total and deterministic' (their statements: YtmedelmfkciblaaTotals.lean).
  GIVEN WITH THE SEED: the statements are not yours to turn. If you find one false, say at which input.
  Laid BY PROGRAM, IN A SANDBOX (cutbox-rows.mjs): the forced cells as the released guide's own fill.sh prints them over the translation 150ca27ce22d9b9b… (all of the seat's roots in one cut). By AI agents, Wed Nov 11 2026. No macro, syntax, notation, axiom, sorry.
-/
import Derived.Test.YtmedelmfkciblaaChecked
import GoSem.Claim
import GoSem.ClaimJoined
import GoSem.ClaimMapViews
import Derived.JoinedTies
import Derived.KernelRfl
namespace Go.Proofs.Ytmedelmfkciblaa
/- THE CELL 'sum', in the pinned program and in every row, IS THE sha256 OF THE DUMP (.gsa) THAT YtmedelmfkciblaaProg.lean LOADS. Nothing in Lean hashes anything: it is a label: what it is worth is what the hold of that sum in a sandbox is worth. -/
noncomputable def Try.pinned : Pinned := { name := "ytmedelmfkciblaa", sum := "150ca27ce22d9b9beb317e29dcb32635968638d9bf1e761e2b6f49849d1aa5fd", checked := Try.checked }
namespace Rows
def none {H : Type} : Left H := { results := [], args := [] }

/-- 'laws.FnExactEffJoin': WHATEVER THE INPUT: true; the input reads as it did. -/
def fnExactEffJoinSpec : ChangeSpec := { name := "fnExactEffJoin", fn := fun _ => fun
  | [d1, d2] => { results := [.lit (.bool true)], args := [d1, d2] }
  | _ => none }
def fnExactEffJoinRow : OpenClaim := { program := "ytmedelmfkciblaa", sum := "150ca27ce22d9b9beb317e29dcb32635968638d9bf1e761e2b6f49849d1aa5fd", func := "loop.example/g00070/laws.FnExactEffJoin", spec := "fnExactEffJoin", recurses := true, apart := false }
def FnExactEffJoinSaid : Prop := fnExactEffJoinRow.holds Try.pinned (OpenSpec.ofChange fnExactEffJoinSpec)

/-- ITS FALSE NEIGHBOUR: 'it returns false'. Refute it at one input. -/
def fnExactEffJoinWrong : ChangeSpec := { name := "fnExactEffJoin", fn := fun _ => fun
  | [d1, d2] => { results := [.lit (.bool false)], args := [d1, d2] }
  | _ => none }
def FnExactEffJoinWrongFalsely : Prop := fnExactEffJoinRow.holds Try.pinned (OpenSpec.ofChange fnExactEffJoinWrong)

/-- 'laws.FnJoin': WHATEVER THE INPUT: true; the input reads as it did. -/
def fnJoinSpec : ChangeSpec := { name := "fnJoin", fn := fun _ => fun
  | [d] => { results := [.lit (.bool true)], args := [d] }
  | _ => none }
def fnJoinRow : OpenClaim := { program := "ytmedelmfkciblaa", sum := "150ca27ce22d9b9beb317e29dcb32635968638d9bf1e761e2b6f49849d1aa5fd", func := "loop.example/g00070/laws.FnJoin", spec := "fnJoin", unfollowed := true, recurses := true, apart := false }
def FnJoinSaid : Prop := fnJoinRow.holds Try.pinned (OpenSpec.ofChange fnJoinSpec)

/-- ITS FALSE NEIGHBOUR: 'it returns false'. Refute it at one input. -/
def fnJoinWrong : ChangeSpec := { name := "fnJoin", fn := fun _ => fun
  | [d] => { results := [.lit (.bool false)], args := [d] }
  | _ => none }
def FnJoinWrongFalsely : Prop := fnJoinRow.holds Try.pinned (OpenSpec.ofChange fnJoinWrong)

/-- 'laws.FnExactTargets': WHATEVER THE INPUT: true; the input reads as it did. -/
def fnExactTargetsSpec : ChangeSpec := { name := "fnExactTargets", fn := fun _ => fun
  | [d] => { results := [.lit (.bool true)], args := [d] }
  | _ => none }
def fnExactTargetsRow : OpenClaim := { program := "ytmedelmfkciblaa", sum := "150ca27ce22d9b9beb317e29dcb32635968638d9bf1e761e2b6f49849d1aa5fd", func := "loop.example/g00070/laws.FnExactTargets", spec := "fnExactTargets", recurses := true, apart := false }
def FnExactTargetsSaid : Prop := fnExactTargetsRow.holds Try.pinned (OpenSpec.ofChange fnExactTargetsSpec)

/-- ITS FALSE NEIGHBOUR: 'it returns false'. Refute it at one input. -/
def fnExactTargetsWrong : ChangeSpec := { name := "fnExactTargets", fn := fun _ => fun
  | [d] => { results := [.lit (.bool false)], args := [d] }
  | _ => none }
def FnExactTargetsWrongFalsely : Prop := fnExactTargetsRow.holds Try.pinned (OpenSpec.ofChange fnExactTargetsWrong)

/-- 'laws.FnTargets': WHATEVER THE INPUT: true; the input reads as it did. -/
def fnTargetsSpec : ChangeSpec := { name := "fnTargets", fn := fun _ => fun
  | [d] => { results := [.lit (.bool true)], args := [d] }
  | _ => none }
def fnTargetsRow : OpenClaim := { program := "ytmedelmfkciblaa", sum := "150ca27ce22d9b9beb317e29dcb32635968638d9bf1e761e2b6f49849d1aa5fd", func := "loop.example/g00070/laws.FnTargets", spec := "fnTargets", recurses := true, apart := false }
def FnTargetsSaid : Prop := fnTargetsRow.holds Try.pinned (OpenSpec.ofChange fnTargetsSpec)

/-- ITS FALSE NEIGHBOUR: 'it returns false'. Refute it at one input. -/
def fnTargetsWrong : ChangeSpec := { name := "fnTargets", fn := fun _ => fun
  | [d] => { results := [.lit (.bool false)], args := [d] }
  | _ => none }
def FnTargetsWrongFalsely : Prop := fnTargetsRow.holds Try.pinned (OpenSpec.ofChange fnTargetsWrong)

/-- 'laws.FnExactSpawns': WHATEVER THE INPUT: true; the input reads as it did. -/
def fnExactSpawnsSpec : ChangeSpec := { name := "fnExactSpawns", fn := fun _ => fun
  | [d] => { results := [.lit (.bool true)], args := [d] }
  | _ => none }
def fnExactSpawnsRow : OpenClaim := { program := "ytmedelmfkciblaa", sum := "150ca27ce22d9b9beb317e29dcb32635968638d9bf1e761e2b6f49849d1aa5fd", func := "loop.example/g00070/laws.FnExactSpawns", spec := "fnExactSpawns", apart := false }
def FnExactSpawnsSaid : Prop := fnExactSpawnsRow.holds Try.pinned (OpenSpec.ofChange fnExactSpawnsSpec)

/-- ITS FALSE NEIGHBOUR: 'it returns false'. Refute it at one input. -/
def fnExactSpawnsWrong : ChangeSpec := { name := "fnExactSpawns", fn := fun _ => fun
  | [d] => { results := [.lit (.bool false)], args := [d] }
  | _ => none }
def FnExactSpawnsWrongFalsely : Prop := fnExactSpawnsRow.holds Try.pinned (OpenSpec.ofChange fnExactSpawnsWrong)

/-- 'laws.FnExactCmdOk': WHATEVER THE INPUT: true; the input reads as it did. -/
def fnExactCmdOkSpec : ChangeSpec := { name := "fnExactCmdOk", fn := fun _ => fun
  | [d1, d2] => { results := [.lit (.bool true)], args := [d1, d2] }
  | _ => none }
def fnExactCmdOkRow : OpenClaim := { program := "ytmedelmfkciblaa", sum := "150ca27ce22d9b9beb317e29dcb32635968638d9bf1e761e2b6f49849d1aa5fd", func := "loop.example/g00070/laws.FnExactCmdOk", spec := "fnExactCmdOk", inPlace := ["math.Float64bits"], unfollowed := true, recurses := true, apart := false }
def FnExactCmdOkSaid : Prop := fnExactCmdOkRow.holds Try.pinned (OpenSpec.ofChange fnExactCmdOkSpec)

/-- ITS FALSE NEIGHBOUR: 'it returns false'. Refute it at one input. -/
def fnExactCmdOkWrong : ChangeSpec := { name := "fnExactCmdOk", fn := fun _ => fun
  | [d1, d2] => { results := [.lit (.bool false)], args := [d1, d2] }
  | _ => none }
def FnExactCmdOkWrongFalsely : Prop := fnExactCmdOkRow.holds Try.pinned (OpenSpec.ofChange fnExactCmdOkWrong)

/-- 'laws.FnExactMatch': WHATEVER THE INPUT: true; the input reads as it did. -/
def fnExactMatchSpec : ChangeSpec := { name := "fnExactMatch", fn := fun _ => fun
  | [d1, d2, d3] => { results := [.lit (.bool true)], args := [d1, d2, d3] }
  | _ => none }
def fnExactMatchRow : OpenClaim := { program := "ytmedelmfkciblaa", sum := "150ca27ce22d9b9beb317e29dcb32635968638d9bf1e761e2b6f49849d1aa5fd", func := "loop.example/g00070/laws.FnExactMatch", spec := "fnExactMatch", unfollowed := true, recurses := true, apart := false }
def FnExactMatchSaid : Prop := fnExactMatchRow.holds Try.pinned (OpenSpec.ofChange fnExactMatchSpec)

/-- ITS FALSE NEIGHBOUR: 'it returns false'. Refute it at one input. -/
def fnExactMatchWrong : ChangeSpec := { name := "fnExactMatch", fn := fun _ => fun
  | [d1, d2, d3] => { results := [.lit (.bool false)], args := [d1, d2, d3] }
  | _ => none }
def FnExactMatchWrongFalsely : Prop := fnExactMatchRow.holds Try.pinned (OpenSpec.ofChange fnExactMatchWrong)

/-- 'laws.FnExactWhere': WHATEVER THE INPUT: true; the input reads as it did. -/
def fnExactWhereSpec : ChangeSpec := { name := "fnExactWhere", fn := fun _ => fun
  | [d1, d2] => { results := [.lit (.bool true)], args := [d1, d2] }
  | _ => none }
def fnExactWhereRow : OpenClaim := { program := "ytmedelmfkciblaa", sum := "150ca27ce22d9b9beb317e29dcb32635968638d9bf1e761e2b6f49849d1aa5fd", func := "loop.example/g00070/laws.FnExactWhere", spec := "fnExactWhere", apart := false }
def FnExactWhereSaid : Prop := fnExactWhereRow.holds Try.pinned (OpenSpec.ofChange fnExactWhereSpec)

/-- ITS FALSE NEIGHBOUR: 'it returns false'. Refute it at one input. -/
def fnExactWhereWrong : ChangeSpec := { name := "fnExactWhere", fn := fun _ => fun
  | [d1, d2] => { results := [.lit (.bool false)], args := [d1, d2] }
  | _ => none }
def FnExactWhereWrongFalsely : Prop := fnExactWhereRow.holds Try.pinned (OpenSpec.ofChange fnExactWhereWrong)

/-- 'laws.FnExactWorldSame': WHATEVER THE INPUT: true; the input reads as it did. -/
def fnExactWorldSameSpec : ChangeSpec := { name := "fnExactWorldSame", fn := fun _ => fun
  | [d1, d2] => { results := [.lit (.bool true)], args := [d1, d2] }
  | _ => none }
def fnExactWorldSameRow : OpenClaim := { program := "ytmedelmfkciblaa", sum := "150ca27ce22d9b9beb317e29dcb32635968638d9bf1e761e2b6f49849d1aa5fd", func := "loop.example/g00070/laws.FnExactWorldSame", spec := "fnExactWorldSame", inPlace := ["math.Float64bits"], unfollowed := true, recurses := true, apart := false }
def FnExactWorldSameSaid : Prop := fnExactWorldSameRow.holds Try.pinned (OpenSpec.ofChange fnExactWorldSameSpec)

/-- ITS FALSE NEIGHBOUR: 'it returns false'. Refute it at one input. -/
def fnExactWorldSameWrong : ChangeSpec := { name := "fnExactWorldSame", fn := fun _ => fun
  | [d1, d2] => { results := [.lit (.bool false)], args := [d1, d2] }
  | _ => none }
def FnExactWorldSameWrongFalsely : Prop := fnExactWorldSameRow.holds Try.pinned (OpenSpec.ofChange fnExactWorldSameWrong)

/-- 'laws.FnExactNewWorld': WHATEVER THE INPUT: true; the input reads as it did. -/
def fnExactNewWorldSpec : ChangeSpec := { name := "fnExactNewWorld", fn := fun _ => fun
  | [d] => { results := [.lit (.bool true)], args := [d] }
  | _ => none }
def fnExactNewWorldRow : OpenClaim := { program := "ytmedelmfkciblaa", sum := "150ca27ce22d9b9beb317e29dcb32635968638d9bf1e761e2b6f49849d1aa5fd", func := "loop.example/g00070/laws.FnExactNewWorld", spec := "fnExactNewWorld", apart := false }
def FnExactNewWorldSaid : Prop := fnExactNewWorldRow.holds Try.pinned (OpenSpec.ofChange fnExactNewWorldSpec)

/-- ITS FALSE NEIGHBOUR: 'it returns false'. Refute it at one input. -/
def fnExactNewWorldWrong : ChangeSpec := { name := "fnExactNewWorld", fn := fun _ => fun
  | [d] => { results := [.lit (.bool false)], args := [d] }
  | _ => none }
def FnExactNewWorldWrongFalsely : Prop := fnExactNewWorldRow.holds Try.pinned (OpenSpec.ofChange fnExactNewWorldWrong)

/- THE SECOND FORM. 'bulk': how many values and letters a reading holds, each counted each time it is reached (what is shared counts as often as it is met; a slice's spare places count too). A statement '..UptoSaid' is the law's where the arguments, and the package variables that the reading takes, are together of bulk at most 1048576: NARROWER than '..Said'. Prove '..Said' where nothing that the law and all that it calls make is longer than what came in: it says more and counts as full. Else prove '..UptoSaid'. A law counts once. -/
mutual
def uptoBulk {H : Type} : DataW H → Nat
  | .lit (.string bytes) => bytes.length + 1
  | .lit _ => 1
  | .nil => 1
  | .ptr d => uptoBulk d + 1
  | .slice elems spare => uptoBulkAll elems + uptoBulkAll spare + 1
  | .agg parts => uptoBulkAll parts + 1
  | .iface _ d => uptoBulk d + 1
  | .map entries => uptoBulkEntries entries + 1
  | .held _ => 1
def uptoBulkAll {H : Type} : List (DataW H) → Nat
  | [] => 0
  | d :: r => uptoBulk d + uptoBulkAll r
def uptoBulkEntries {H : Type} : List (Lit × DataW H) → Nat
  | [] => 0
  | x :: r => uptoBulkEntry x + uptoBulkEntries r
def uptoBulkEntry {H : Type} : Lit × DataW H → Nat
  | (.string bytes, d) => bytes.length + uptoBulk d + 1
  | (_, d) => uptoBulk d + 1
 end
def uptoSmall : (H : Type) → List (DataW H) → Bool := fun _ ds => decide (uptoBulkAll ds ≤ 1048576)
def OpenSpec.upto (s : _root_.Go.ChangeSpec) : _root_.Go.OpenSpec := { _root_.Go.OpenSpec.ofChange s with cond := some uptoSmall }

/-- 'laws.FnExactEffJoin', WHERE WHAT IT READS IS OF BULK AT MOST 1048576: true; the input reads as it did. -/
def fnExactEffJoinUptoRow : OpenClaim := { program := "ytmedelmfkciblaa", sum := "150ca27ce22d9b9beb317e29dcb32635968638d9bf1e761e2b6f49849d1aa5fd", func := "loop.example/g00070/laws.FnExactEffJoin", spec := "fnExactEffJoin", recurses := true, apart := false, narrowed := true }
def FnExactEffJoinUptoSaid : Prop := fnExactEffJoinUptoRow.holds Try.pinned (OpenSpec.upto fnExactEffJoinSpec)

/-- 'laws.FnJoin', WHERE WHAT IT READS IS OF BULK AT MOST 1048576: true; the input reads as it did. -/
def fnJoinUptoRow : OpenClaim := { program := "ytmedelmfkciblaa", sum := "150ca27ce22d9b9beb317e29dcb32635968638d9bf1e761e2b6f49849d1aa5fd", func := "loop.example/g00070/laws.FnJoin", spec := "fnJoin", unfollowed := true, recurses := true, apart := false, narrowed := true }
def FnJoinUptoSaid : Prop := fnJoinUptoRow.holds Try.pinned (OpenSpec.upto fnJoinSpec)

/-- 'laws.FnExactTargets', WHERE WHAT IT READS IS OF BULK AT MOST 1048576: true; the input reads as it did. -/
def fnExactTargetsUptoRow : OpenClaim := { program := "ytmedelmfkciblaa", sum := "150ca27ce22d9b9beb317e29dcb32635968638d9bf1e761e2b6f49849d1aa5fd", func := "loop.example/g00070/laws.FnExactTargets", spec := "fnExactTargets", recurses := true, apart := false, narrowed := true }
def FnExactTargetsUptoSaid : Prop := fnExactTargetsUptoRow.holds Try.pinned (OpenSpec.upto fnExactTargetsSpec)

/-- 'laws.FnTargets', WHERE WHAT IT READS IS OF BULK AT MOST 1048576: true; the input reads as it did. -/
def fnTargetsUptoRow : OpenClaim := { program := "ytmedelmfkciblaa", sum := "150ca27ce22d9b9beb317e29dcb32635968638d9bf1e761e2b6f49849d1aa5fd", func := "loop.example/g00070/laws.FnTargets", spec := "fnTargets", recurses := true, apart := false, narrowed := true }
def FnTargetsUptoSaid : Prop := fnTargetsUptoRow.holds Try.pinned (OpenSpec.upto fnTargetsSpec)

/-- 'laws.FnExactSpawns', WHERE WHAT IT READS IS OF BULK AT MOST 1048576: true; the input reads as it did. -/
def fnExactSpawnsUptoRow : OpenClaim := { program := "ytmedelmfkciblaa", sum := "150ca27ce22d9b9beb317e29dcb32635968638d9bf1e761e2b6f49849d1aa5fd", func := "loop.example/g00070/laws.FnExactSpawns", spec := "fnExactSpawns", apart := false, narrowed := true }
def FnExactSpawnsUptoSaid : Prop := fnExactSpawnsUptoRow.holds Try.pinned (OpenSpec.upto fnExactSpawnsSpec)

/-- 'laws.FnExactCmdOk', WHERE WHAT IT READS IS OF BULK AT MOST 1048576: true; the input reads as it did. -/
def fnExactCmdOkUptoRow : OpenClaim := { program := "ytmedelmfkciblaa", sum := "150ca27ce22d9b9beb317e29dcb32635968638d9bf1e761e2b6f49849d1aa5fd", func := "loop.example/g00070/laws.FnExactCmdOk", spec := "fnExactCmdOk", inPlace := ["math.Float64bits"], unfollowed := true, recurses := true, apart := false, narrowed := true }
def FnExactCmdOkUptoSaid : Prop := fnExactCmdOkUptoRow.holds Try.pinned (OpenSpec.upto fnExactCmdOkSpec)

/-- 'laws.FnExactMatch', WHERE WHAT IT READS IS OF BULK AT MOST 1048576: true; the input reads as it did. -/
def fnExactMatchUptoRow : OpenClaim := { program := "ytmedelmfkciblaa", sum := "150ca27ce22d9b9beb317e29dcb32635968638d9bf1e761e2b6f49849d1aa5fd", func := "loop.example/g00070/laws.FnExactMatch", spec := "fnExactMatch", unfollowed := true, recurses := true, apart := false, narrowed := true }
def FnExactMatchUptoSaid : Prop := fnExactMatchUptoRow.holds Try.pinned (OpenSpec.upto fnExactMatchSpec)

/-- 'laws.FnExactWhere', WHERE WHAT IT READS IS OF BULK AT MOST 1048576: true; the input reads as it did. -/
def fnExactWhereUptoRow : OpenClaim := { program := "ytmedelmfkciblaa", sum := "150ca27ce22d9b9beb317e29dcb32635968638d9bf1e761e2b6f49849d1aa5fd", func := "loop.example/g00070/laws.FnExactWhere", spec := "fnExactWhere", apart := false, narrowed := true }
def FnExactWhereUptoSaid : Prop := fnExactWhereUptoRow.holds Try.pinned (OpenSpec.upto fnExactWhereSpec)

/-- 'laws.FnExactWorldSame', WHERE WHAT IT READS IS OF BULK AT MOST 1048576: true; the input reads as it did. -/
def fnExactWorldSameUptoRow : OpenClaim := { program := "ytmedelmfkciblaa", sum := "150ca27ce22d9b9beb317e29dcb32635968638d9bf1e761e2b6f49849d1aa5fd", func := "loop.example/g00070/laws.FnExactWorldSame", spec := "fnExactWorldSame", inPlace := ["math.Float64bits"], unfollowed := true, recurses := true, apart := false, narrowed := true }
def FnExactWorldSameUptoSaid : Prop := fnExactWorldSameUptoRow.holds Try.pinned (OpenSpec.upto fnExactWorldSameSpec)

/-- 'laws.FnExactNewWorld', WHERE WHAT IT READS IS OF BULK AT MOST 1048576: true; the input reads as it did. -/
def fnExactNewWorldUptoRow : OpenClaim := { program := "ytmedelmfkciblaa", sum := "150ca27ce22d9b9beb317e29dcb32635968638d9bf1e761e2b6f49849d1aa5fd", func := "loop.example/g00070/laws.FnExactNewWorld", spec := "fnExactNewWorld", apart := false, narrowed := true }
def FnExactNewWorldUptoSaid : Prop := fnExactNewWorldUptoRow.holds Try.pinned (OpenSpec.upto fnExactNewWorldSpec)

end Rows
end Go.Proofs.Ytmedelmfkciblaa
