/-
  No cell of these rows narrows 'for every input' (looked for: loops, veiled, ifaces, maps, wideKeys, modest, calm, conditions, laid).
  DERIVED. THE GIVEN ROWS OF THIS SEAT. 12 by the template 'for every input the law returns true; each argument reads behind the call as it read before'; 0 by the template 'total and deterministic' (their statements: YtlddgmpaaobpoaaTotals.lean).
  GIVEN WITH THE SEED: the statements are not yours to turn. If you find one false, say at which input.
  Laid BY PROGRAM, IN A SANDBOX (cutbox-rows.mjs): the forced cells as the released guide's own fill.sh prints them over the translation 914f653143c2d8ec… (all of the seat's roots in one cut). By AI agents, Wed Nov 11 2026. No macro, syntax, notation, axiom, sorry.
-/
import Derived.Test.YtlddgmpaaobpoaaChecked
import GoSem.Claim
import GoSem.ClaimJoined
import GoSem.ClaimMapViews
import Derived.JoinedTies
import Derived.KernelRfl
namespace Go.Proofs.Ytlddgmpaaobpoaa
/- THE CELL 'sum', in the pinned program and in every row, IS THE sha256 OF THE DUMP (.gsa) THAT YtlddgmpaaobpoaaProg.lean LOADS. Nothing in Lean hashes anything: it is a label: what it is worth is what the hold of that sum in a sandbox is worth. -/
noncomputable def Try.pinned : Pinned := { name := "ytlddgmpaaobpoaa", sum := "914f653143c2d8ecc5d17ef45b43d0c9e5378cb42fc1bddc14d14be92079bcf3", checked := Try.checked }
namespace Rows
def none {H : Type} : Left H := { results := [], args := [] }

/-- 'laws.FnExactConstants': WHATEVER THE INPUT: true; the input reads as it did. -/
def fnExactConstantsSpec : ChangeSpec := { name := "fnExactConstants", fn := fun _ => fun
  | [] => { results := [.lit (.bool true)], args := [] }
  | _ => none }
def fnExactConstantsRow : OpenClaim := { program := "ytlddgmpaaobpoaa", sum := "914f653143c2d8ecc5d17ef45b43d0c9e5378cb42fc1bddc14d14be92079bcf3", func := "loop.example/g00070/laws.FnExactConstants", spec := "fnExactConstants", apart := false }
def FnExactConstantsSaid : Prop := fnExactConstantsRow.holds Try.pinned (OpenSpec.ofChange fnExactConstantsSpec)

/-- ITS FALSE NEIGHBOUR: 'it returns false'. Refute it at one input. -/
def fnExactConstantsWrong : ChangeSpec := { name := "fnExactConstants", fn := fun _ => fun
  | [] => { results := [.lit (.bool false)], args := [] }
  | _ => none }
def FnExactConstantsWrongFalsely : Prop := fnExactConstantsRow.holds Try.pinned (OpenSpec.ofChange fnExactConstantsWrong)

/-- 'laws.FnExactIsWord': WHATEVER THE INPUT: true; the input reads as it did. -/
def fnExactIsWordSpec : ChangeSpec := { name := "fnExactIsWord", fn := fun _ => fun
  | [d] => { results := [.lit (.bool true)], args := [d] }
  | _ => none }
def fnExactIsWordRow : OpenClaim := { program := "ytlddgmpaaobpoaa", sum := "914f653143c2d8ecc5d17ef45b43d0c9e5378cb42fc1bddc14d14be92079bcf3", func := "loop.example/g00070/laws.FnExactIsWord", spec := "fnExactIsWord", apart := false }
def FnExactIsWordSaid : Prop := fnExactIsWordRow.holds Try.pinned (OpenSpec.ofChange fnExactIsWordSpec)

/-- ITS FALSE NEIGHBOUR: 'it returns false'. Refute it at one input. -/
def fnExactIsWordWrong : ChangeSpec := { name := "fnExactIsWord", fn := fun _ => fun
  | [d] => { results := [.lit (.bool false)], args := [d] }
  | _ => none }
def FnExactIsWordWrongFalsely : Prop := fnExactIsWordRow.holds Try.pinned (OpenSpec.ofChange fnExactIsWordWrong)

/-- 'laws.FnExactNameOk': WHATEVER THE INPUT: true; the input reads as it did. -/
def fnExactNameOkSpec : ChangeSpec := { name := "fnExactNameOk", fn := fun _ => fun
  | [d] => { results := [.lit (.bool true)], args := [d] }
  | _ => none }
def fnExactNameOkRow : OpenClaim := { program := "ytlddgmpaaobpoaa", sum := "914f653143c2d8ecc5d17ef45b43d0c9e5378cb42fc1bddc14d14be92079bcf3", func := "loop.example/g00070/laws.FnExactNameOk", spec := "fnExactNameOk", apart := false }
def FnExactNameOkSaid : Prop := fnExactNameOkRow.holds Try.pinned (OpenSpec.ofChange fnExactNameOkSpec)

/-- ITS FALSE NEIGHBOUR: 'it returns false'. Refute it at one input. -/
def fnExactNameOkWrong : ChangeSpec := { name := "fnExactNameOk", fn := fun _ => fun
  | [d] => { results := [.lit (.bool false)], args := [d] }
  | _ => none }
def FnExactNameOkWrongFalsely : Prop := fnExactNameOkRow.holds Try.pinned (OpenSpec.ofChange fnExactNameOkWrong)

/-- 'laws.FnExactEntsOk': WHATEVER THE INPUT: true; the input reads as it did. -/
def fnExactEntsOkSpec : ChangeSpec := { name := "fnExactEntsOk", fn := fun _ => fun
  | [d] => { results := [.lit (.bool true)], args := [d] }
  | _ => none }
def fnExactEntsOkRow : OpenClaim := { program := "ytlddgmpaaobpoaa", sum := "914f653143c2d8ecc5d17ef45b43d0c9e5378cb42fc1bddc14d14be92079bcf3", func := "loop.example/g00070/laws.FnExactEntsOk", spec := "fnExactEntsOk", apart := false }
def FnExactEntsOkSaid : Prop := fnExactEntsOkRow.holds Try.pinned (OpenSpec.ofChange fnExactEntsOkSpec)

/-- ITS FALSE NEIGHBOUR: 'it returns false'. Refute it at one input. -/
def fnExactEntsOkWrong : ChangeSpec := { name := "fnExactEntsOk", fn := fun _ => fun
  | [d] => { results := [.lit (.bool false)], args := [d] }
  | _ => none }
def FnExactEntsOkWrongFalsely : Prop := fnExactEntsOkRow.holds Try.pinned (OpenSpec.ofChange fnExactEntsOkWrong)

/-- 'laws.FnExactEntLive': WHATEVER THE INPUT: true; the input reads as it did. -/
def fnExactEntLiveSpec : ChangeSpec := { name := "fnExactEntLive", fn := fun _ => fun
  | [d1, d2] => { results := [.lit (.bool true)], args := [d1, d2] }
  | _ => none }
def fnExactEntLiveRow : OpenClaim := { program := "ytlddgmpaaobpoaa", sum := "914f653143c2d8ecc5d17ef45b43d0c9e5378cb42fc1bddc14d14be92079bcf3", func := "loop.example/g00070/laws.FnExactEntLive", spec := "fnExactEntLive", apart := false }
def FnExactEntLiveSaid : Prop := fnExactEntLiveRow.holds Try.pinned (OpenSpec.ofChange fnExactEntLiveSpec)

/-- ITS FALSE NEIGHBOUR: 'it returns false'. Refute it at one input. -/
def fnExactEntLiveWrong : ChangeSpec := { name := "fnExactEntLive", fn := fun _ => fun
  | [d1, d2] => { results := [.lit (.bool false)], args := [d1, d2] }
  | _ => none }
def FnExactEntLiveWrongFalsely : Prop := fnExactEntLiveRow.holds Try.pinned (OpenSpec.ofChange fnExactEntLiveWrong)

/-- 'laws.FnExactEntTake': WHATEVER THE INPUT: true; the input reads as it did. -/
def fnExactEntTakeSpec : ChangeSpec := { name := "fnExactEntTake", fn := fun _ => fun
  | [d] => { results := [.lit (.bool true)], args := [d] }
  | _ => none }
def fnExactEntTakeRow : OpenClaim := { program := "ytlddgmpaaobpoaa", sum := "914f653143c2d8ecc5d17ef45b43d0c9e5378cb42fc1bddc14d14be92079bcf3", func := "loop.example/g00070/laws.FnExactEntTake", spec := "fnExactEntTake", apart := false }
def FnExactEntTakeSaid : Prop := fnExactEntTakeRow.holds Try.pinned (OpenSpec.ofChange fnExactEntTakeSpec)

/-- ITS FALSE NEIGHBOUR: 'it returns false'. Refute it at one input. -/
def fnExactEntTakeWrong : ChangeSpec := { name := "fnExactEntTake", fn := fun _ => fun
  | [d] => { results := [.lit (.bool false)], args := [d] }
  | _ => none }
def FnExactEntTakeWrongFalsely : Prop := fnExactEntTakeRow.holds Try.pinned (OpenSpec.ofChange fnExactEntTakeWrong)

/-- 'laws.FnExactEntGive': WHATEVER THE INPUT: true; the input reads as it did. -/
def fnExactEntGiveSpec : ChangeSpec := { name := "fnExactEntGive", fn := fun _ => fun
  | [d1, d2] => { results := [.lit (.bool true)], args := [d1, d2] }
  | _ => none }
def fnExactEntGiveRow : OpenClaim := { program := "ytlddgmpaaobpoaa", sum := "914f653143c2d8ecc5d17ef45b43d0c9e5378cb42fc1bddc14d14be92079bcf3", func := "loop.example/g00070/laws.FnExactEntGive", spec := "fnExactEntGive", apart := false }
def FnExactEntGiveSaid : Prop := fnExactEntGiveRow.holds Try.pinned (OpenSpec.ofChange fnExactEntGiveSpec)

/-- ITS FALSE NEIGHBOUR: 'it returns false'. Refute it at one input. -/
def fnExactEntGiveWrong : ChangeSpec := { name := "fnExactEntGive", fn := fun _ => fun
  | [d1, d2] => { results := [.lit (.bool false)], args := [d1, d2] }
  | _ => none }
def FnExactEntGiveWrongFalsely : Prop := fnExactEntGiveRow.holds Try.pinned (OpenSpec.ofChange fnExactEntGiveWrong)

/-- 'laws.FnExactEntAhead': WHATEVER THE INPUT: true; the input reads as it did. -/
def fnExactEntAheadSpec : ChangeSpec := { name := "fnExactEntAhead", fn := fun _ => fun
  | [d1, d2] => { results := [.lit (.bool true)], args := [d1, d2] }
  | _ => none }
def fnExactEntAheadRow : OpenClaim := { program := "ytlddgmpaaobpoaa", sum := "914f653143c2d8ecc5d17ef45b43d0c9e5378cb42fc1bddc14d14be92079bcf3", func := "loop.example/g00070/laws.FnExactEntAhead", spec := "fnExactEntAhead", apart := false }
def FnExactEntAheadSaid : Prop := fnExactEntAheadRow.holds Try.pinned (OpenSpec.ofChange fnExactEntAheadSpec)

/-- ITS FALSE NEIGHBOUR: 'it returns false'. Refute it at one input. -/
def fnExactEntAheadWrong : ChangeSpec := { name := "fnExactEntAhead", fn := fun _ => fun
  | [d1, d2] => { results := [.lit (.bool false)], args := [d1, d2] }
  | _ => none }
def FnExactEntAheadWrongFalsely : Prop := fnExactEntAheadRow.holds Try.pinned (OpenSpec.ofChange fnExactEntAheadWrong)

/-- 'laws.FnExactEntList': WHATEVER THE INPUT: true; the input reads as it did. -/
def fnExactEntListSpec : ChangeSpec := { name := "fnExactEntList", fn := fun _ => fun
  | [d] => { results := [.lit (.bool true)], args := [d] }
  | _ => none }
def fnExactEntListRow : OpenClaim := { program := "ytlddgmpaaobpoaa", sum := "914f653143c2d8ecc5d17ef45b43d0c9e5378cb42fc1bddc14d14be92079bcf3", func := "loop.example/g00070/laws.FnExactEntList", spec := "fnExactEntList", apart := false }
def FnExactEntListSaid : Prop := fnExactEntListRow.holds Try.pinned (OpenSpec.ofChange fnExactEntListSpec)

/-- ITS FALSE NEIGHBOUR: 'it returns false'. Refute it at one input. -/
def fnExactEntListWrong : ChangeSpec := { name := "fnExactEntList", fn := fun _ => fun
  | [d] => { results := [.lit (.bool false)], args := [d] }
  | _ => none }
def FnExactEntListWrongFalsely : Prop := fnExactEntListRow.holds Try.pinned (OpenSpec.ofChange fnExactEntListWrong)

/-- 'laws.FnExactRegOk': WHATEVER THE INPUT: true; the input reads as it did. -/
def fnExactRegOkSpec : ChangeSpec := { name := "fnExactRegOk", fn := fun _ => fun
  | [d] => { results := [.lit (.bool true)], args := [d] }
  | _ => none }
def fnExactRegOkRow : OpenClaim := { program := "ytlddgmpaaobpoaa", sum := "914f653143c2d8ecc5d17ef45b43d0c9e5378cb42fc1bddc14d14be92079bcf3", func := "loop.example/g00070/laws.FnExactRegOk", spec := "fnExactRegOk", apart := false }
def FnExactRegOkSaid : Prop := fnExactRegOkRow.holds Try.pinned (OpenSpec.ofChange fnExactRegOkSpec)

/-- ITS FALSE NEIGHBOUR: 'it returns false'. Refute it at one input. -/
def fnExactRegOkWrong : ChangeSpec := { name := "fnExactRegOk", fn := fun _ => fun
  | [d] => { results := [.lit (.bool false)], args := [d] }
  | _ => none }
def FnExactRegOkWrongFalsely : Prop := fnExactRegOkRow.holds Try.pinned (OpenSpec.ofChange fnExactRegOkWrong)

/-- 'laws.FnExactRegKind': WHATEVER THE INPUT: true; the input reads as it did. -/
def fnExactRegKindSpec : ChangeSpec := { name := "fnExactRegKind", fn := fun _ => fun
  | [d1, d2, d3] => { results := [.lit (.bool true)], args := [d1, d2, d3] }
  | _ => none }
def fnExactRegKindRow : OpenClaim := { program := "ytlddgmpaaobpoaa", sum := "914f653143c2d8ecc5d17ef45b43d0c9e5378cb42fc1bddc14d14be92079bcf3", func := "loop.example/g00070/laws.FnExactRegKind", spec := "fnExactRegKind", apart := false }
def FnExactRegKindSaid : Prop := fnExactRegKindRow.holds Try.pinned (OpenSpec.ofChange fnExactRegKindSpec)

/-- ITS FALSE NEIGHBOUR: 'it returns false'. Refute it at one input. -/
def fnExactRegKindWrong : ChangeSpec := { name := "fnExactRegKind", fn := fun _ => fun
  | [d1, d2, d3] => { results := [.lit (.bool false)], args := [d1, d2, d3] }
  | _ => none }
def FnExactRegKindWrongFalsely : Prop := fnExactRegKindRow.holds Try.pinned (OpenSpec.ofChange fnExactRegKindWrong)

/-- 'laws.FnExactRegFind': WHATEVER THE INPUT: true; the input reads as it did. -/
def fnExactRegFindSpec : ChangeSpec := { name := "fnExactRegFind", fn := fun _ => fun
  | [d1, d2, d3] => { results := [.lit (.bool true)], args := [d1, d2, d3] }
  | _ => none }
def fnExactRegFindRow : OpenClaim := { program := "ytlddgmpaaobpoaa", sum := "914f653143c2d8ecc5d17ef45b43d0c9e5378cb42fc1bddc14d14be92079bcf3", func := "loop.example/g00070/laws.FnExactRegFind", spec := "fnExactRegFind", unfollowed := true, recurses := true, apart := false }
def FnExactRegFindSaid : Prop := fnExactRegFindRow.holds Try.pinned (OpenSpec.ofChange fnExactRegFindSpec)

/-- ITS FALSE NEIGHBOUR: 'it returns false'. Refute it at one input. -/
def fnExactRegFindWrong : ChangeSpec := { name := "fnExactRegFind", fn := fun _ => fun
  | [d1, d2, d3] => { results := [.lit (.bool false)], args := [d1, d2, d3] }
  | _ => none }
def FnExactRegFindWrongFalsely : Prop := fnExactRegFindRow.holds Try.pinned (OpenSpec.ofChange fnExactRegFindWrong)

/- THE SECOND FORM. 'bulk': how many values and letters a reading holds, each counted each time it is reached (what is shared counts as often as it is met; a slice's spare places count too). A statement '..UptoSaid' is the law's where the arguments, and the package variables that the reading takes, are together of bulk at most 1048576: NARROWER than '..Said'. Prove '..Said' where nothing that the law and all that it calls make is longer than what came in: it says more and counts as full. Else prove '..UptoSaid'. A law counts once. -/
mutual
def uptoBulk {H : Type} : DataW H → Nat
  | .lit (.string bytes) => bytes.length + 1
  | .lit _ => 1
  | .nil => 1
  | .ptr d => uptoBulk d + 1
  | .slice elems spare => uptoBulkAll elems + uptoBulkAll spare + 1
  | .agg parts => uptoBulkAll parts + 1
  | .iface _ d => uptoBulk d + 1
  | .map entries => uptoBulkEntries entries + 1
  | .held _ => 1
def uptoBulkAll {H : Type} : List (DataW H) → Nat
  | [] => 0
  | d :: r => uptoBulk d + uptoBulkAll r
def uptoBulkEntries {H : Type} : List (Lit × DataW H) → Nat
  | [] => 0
  | x :: r => uptoBulkEntry x + uptoBulkEntries r
def uptoBulkEntry {H : Type} : Lit × DataW H → Nat
  | (.string bytes, d) => bytes.length + uptoBulk d + 1
  | (_, d) => uptoBulk d + 1
 end
def uptoSmall : (H : Type) → List (DataW H) → Bool := fun _ ds => decide (uptoBulkAll ds ≤ 1048576)
def OpenSpec.upto (s : _root_.Go.ChangeSpec) : _root_.Go.OpenSpec := { _root_.Go.OpenSpec.ofChange s with cond := some uptoSmall }

/-- 'laws.FnExactConstants', WHERE WHAT IT READS IS OF BULK AT MOST 1048576: true; the input reads as it did. -/
def fnExactConstantsUptoRow : OpenClaim := { program := "ytlddgmpaaobpoaa", sum := "914f653143c2d8ecc5d17ef45b43d0c9e5378cb42fc1bddc14d14be92079bcf3", func := "loop.example/g00070/laws.FnExactConstants", spec := "fnExactConstants", apart := false, narrowed := true }
def FnExactConstantsUptoSaid : Prop := fnExactConstantsUptoRow.holds Try.pinned (OpenSpec.upto fnExactConstantsSpec)

/-- 'laws.FnExactIsWord', WHERE WHAT IT READS IS OF BULK AT MOST 1048576: true; the input reads as it did. -/
def fnExactIsWordUptoRow : OpenClaim := { program := "ytlddgmpaaobpoaa", sum := "914f653143c2d8ecc5d17ef45b43d0c9e5378cb42fc1bddc14d14be92079bcf3", func := "loop.example/g00070/laws.FnExactIsWord", spec := "fnExactIsWord", apart := false, narrowed := true }
def FnExactIsWordUptoSaid : Prop := fnExactIsWordUptoRow.holds Try.pinned (OpenSpec.upto fnExactIsWordSpec)

/-- 'laws.FnExactNameOk', WHERE WHAT IT READS IS OF BULK AT MOST 1048576: true; the input reads as it did. -/
def fnExactNameOkUptoRow : OpenClaim := { program := "ytlddgmpaaobpoaa", sum := "914f653143c2d8ecc5d17ef45b43d0c9e5378cb42fc1bddc14d14be92079bcf3", func := "loop.example/g00070/laws.FnExactNameOk", spec := "fnExactNameOk", apart := false, narrowed := true }
def FnExactNameOkUptoSaid : Prop := fnExactNameOkUptoRow.holds Try.pinned (OpenSpec.upto fnExactNameOkSpec)

/-- 'laws.FnExactEntsOk', WHERE WHAT IT READS IS OF BULK AT MOST 1048576: true; the input reads as it did. -/
def fnExactEntsOkUptoRow : OpenClaim := { program := "ytlddgmpaaobpoaa", sum := "914f653143c2d8ecc5d17ef45b43d0c9e5378cb42fc1bddc14d14be92079bcf3", func := "loop.example/g00070/laws.FnExactEntsOk", spec := "fnExactEntsOk", apart := false, narrowed := true }
def FnExactEntsOkUptoSaid : Prop := fnExactEntsOkUptoRow.holds Try.pinned (OpenSpec.upto fnExactEntsOkSpec)

/-- 'laws.FnExactEntLive', WHERE WHAT IT READS IS OF BULK AT MOST 1048576: true; the input reads as it did. -/
def fnExactEntLiveUptoRow : OpenClaim := { program := "ytlddgmpaaobpoaa", sum := "914f653143c2d8ecc5d17ef45b43d0c9e5378cb42fc1bddc14d14be92079bcf3", func := "loop.example/g00070/laws.FnExactEntLive", spec := "fnExactEntLive", apart := false, narrowed := true }
def FnExactEntLiveUptoSaid : Prop := fnExactEntLiveUptoRow.holds Try.pinned (OpenSpec.upto fnExactEntLiveSpec)

/-- 'laws.FnExactEntTake', WHERE WHAT IT READS IS OF BULK AT MOST 1048576: true; the input reads as it did. -/
def fnExactEntTakeUptoRow : OpenClaim := { program := "ytlddgmpaaobpoaa", sum := "914f653143c2d8ecc5d17ef45b43d0c9e5378cb42fc1bddc14d14be92079bcf3", func := "loop.example/g00070/laws.FnExactEntTake", spec := "fnExactEntTake", apart := false, narrowed := true }
def FnExactEntTakeUptoSaid : Prop := fnExactEntTakeUptoRow.holds Try.pinned (OpenSpec.upto fnExactEntTakeSpec)

/-- 'laws.FnExactEntGive', WHERE WHAT IT READS IS OF BULK AT MOST 1048576: true; the input reads as it did. -/
def fnExactEntGiveUptoRow : OpenClaim := { program := "ytlddgmpaaobpoaa", sum := "914f653143c2d8ecc5d17ef45b43d0c9e5378cb42fc1bddc14d14be92079bcf3", func := "loop.example/g00070/laws.FnExactEntGive", spec := "fnExactEntGive", apart := false, narrowed := true }
def FnExactEntGiveUptoSaid : Prop := fnExactEntGiveUptoRow.holds Try.pinned (OpenSpec.upto fnExactEntGiveSpec)

/-- 'laws.FnExactEntAhead', WHERE WHAT IT READS IS OF BULK AT MOST 1048576: true; the input reads as it did. -/
def fnExactEntAheadUptoRow : OpenClaim := { program := "ytlddgmpaaobpoaa", sum := "914f653143c2d8ecc5d17ef45b43d0c9e5378cb42fc1bddc14d14be92079bcf3", func := "loop.example/g00070/laws.FnExactEntAhead", spec := "fnExactEntAhead", apart := false, narrowed := true }
def FnExactEntAheadUptoSaid : Prop := fnExactEntAheadUptoRow.holds Try.pinned (OpenSpec.upto fnExactEntAheadSpec)

/-- 'laws.FnExactEntList', WHERE WHAT IT READS IS OF BULK AT MOST 1048576: true; the input reads as it did. -/
def fnExactEntListUptoRow : OpenClaim := { program := "ytlddgmpaaobpoaa", sum := "914f653143c2d8ecc5d17ef45b43d0c9e5378cb42fc1bddc14d14be92079bcf3", func := "loop.example/g00070/laws.FnExactEntList", spec := "fnExactEntList", apart := false, narrowed := true }
def FnExactEntListUptoSaid : Prop := fnExactEntListUptoRow.holds Try.pinned (OpenSpec.upto fnExactEntListSpec)

/-- 'laws.FnExactRegOk', WHERE WHAT IT READS IS OF BULK AT MOST 1048576: true; the input reads as it did. -/
def fnExactRegOkUptoRow : OpenClaim := { program := "ytlddgmpaaobpoaa", sum := "914f653143c2d8ecc5d17ef45b43d0c9e5378cb42fc1bddc14d14be92079bcf3", func := "loop.example/g00070/laws.FnExactRegOk", spec := "fnExactRegOk", apart := false, narrowed := true }
def FnExactRegOkUptoSaid : Prop := fnExactRegOkUptoRow.holds Try.pinned (OpenSpec.upto fnExactRegOkSpec)

/-- 'laws.FnExactRegKind', WHERE WHAT IT READS IS OF BULK AT MOST 1048576: true; the input reads as it did. -/
def fnExactRegKindUptoRow : OpenClaim := { program := "ytlddgmpaaobpoaa", sum := "914f653143c2d8ecc5d17ef45b43d0c9e5378cb42fc1bddc14d14be92079bcf3", func := "loop.example/g00070/laws.FnExactRegKind", spec := "fnExactRegKind", apart := false, narrowed := true }
def FnExactRegKindUptoSaid : Prop := fnExactRegKindUptoRow.holds Try.pinned (OpenSpec.upto fnExactRegKindSpec)

/-- 'laws.FnExactRegFind', WHERE WHAT IT READS IS OF BULK AT MOST 1048576: true; the input reads as it did. -/
def fnExactRegFindUptoRow : OpenClaim := { program := "ytlddgmpaaobpoaa", sum := "914f653143c2d8ecc5d17ef45b43d0c9e5378cb42fc1bddc14d14be92079bcf3", func := "loop.example/g00070/laws.FnExactRegFind", spec := "fnExactRegFind", unfollowed := true, recurses := true, apart := false, narrowed := true }
def FnExactRegFindUptoSaid : Prop := fnExactRegFindUptoRow.holds Try.pinned (OpenSpec.upto fnExactRegFindSpec)

end Rows
end Go.Proofs.Ytlddgmpaaobpoaa
