/-
  No cell of these rows narrows 'for every input' (looked for: loops, veiled, ifaces, maps, wideKeys, modest, calm, conditions, laid).
  DERIVED. THE GIVEN ROWS OF THIS SEAT. 12 by the template 'for every input the law returns true; each argument reads behind the call as it read before'; 0 by the template 'total and deterministic' (their statements: YtloodkhdngipbaaTotals.lean).
  GIVEN WITH THE SEED: the statements are not yours to turn. If you find one false, say at which input.
  Laid BY PROGRAM, IN A SANDBOX (cutbox-rows.mjs): the forced cells as the released guide's own fill.sh prints them over the translation 4b9dae0a5c68669c… (all of the seat's roots in one cut). By AI agents, Wed Nov 11 2026. No macro, syntax, notation, axiom, sorry.
-/
import Derived.Test.YtloodkhdngipbaaChecked
import GoSem.Claim
import GoSem.ClaimJoined
import GoSem.ClaimMapViews
import Derived.JoinedTies
import Derived.KernelRfl
namespace Go.Proofs.Ytloodkhdngipbaa
/- THE CELL 'sum', in the pinned program and in every row, IS THE sha256 OF THE DUMP (.gsa) THAT YtloodkhdngipbaaProg.lean LOADS. Nothing in Lean hashes anything: it is a label: what it is worth is what the hold of that sum in a sandbox is worth. -/
noncomputable def Try.pinned : Pinned := { name := "ytloodkhdngipbaa", sum := "4b9dae0a5c68669cd07291a7b9799b8068b59c1b6dfa90203bca9e3d1048ccc3", checked := Try.checked }
namespace Rows
def none {H : Type} : Left H := { results := [], args := [] }

/-- 'laws.FnExactStreamOk': WHATEVER THE INPUT: true; the input reads as it did. -/
def fnExactStreamOkSpec : ChangeSpec := { name := "fnExactStreamOk", fn := fun _ => fun
  | [d1, d2] => { results := [.lit (.bool true)], args := [d1, d2] }
  | _ => none }
def fnExactStreamOkRow : OpenClaim := { program := "ytloodkhdngipbaa", sum := "4b9dae0a5c68669cd07291a7b9799b8068b59c1b6dfa90203bca9e3d1048ccc3", func := "loop.example/g00070/laws.FnExactStreamOk", spec := "fnExactStreamOk", inPlace := ["math.Float64bits"], apart := false }
def FnExactStreamOkSaid : Prop := fnExactStreamOkRow.holds Try.pinned (OpenSpec.ofChange fnExactStreamOkSpec)

/-- ITS FALSE NEIGHBOUR: 'it returns false'. Refute it at one input. -/
def fnExactStreamOkWrong : ChangeSpec := { name := "fnExactStreamOk", fn := fun _ => fun
  | [d1, d2] => { results := [.lit (.bool false)], args := [d1, d2] }
  | _ => none }
def FnExactStreamOkWrongFalsely : Prop := fnExactStreamOkRow.holds Try.pinned (OpenSpec.ofChange fnExactStreamOkWrong)

/-- 'laws.FnExactTurn': WHATEVER THE INPUT: true; the input reads as it did. -/
def fnExactTurnSpec : ChangeSpec := { name := "fnExactTurn", fn := fun _ => fun
  | [d] => { results := [.lit (.bool true)], args := [d] }
  | _ => none }
def fnExactTurnRow : OpenClaim := { program := "ytloodkhdngipbaa", sum := "4b9dae0a5c68669cd07291a7b9799b8068b59c1b6dfa90203bca9e3d1048ccc3", func := "loop.example/g00070/laws.FnExactTurn", spec := "fnExactTurn", apart := false }
def FnExactTurnSaid : Prop := fnExactTurnRow.holds Try.pinned (OpenSpec.ofChange fnExactTurnSpec)

/-- ITS FALSE NEIGHBOUR: 'it returns false'. Refute it at one input. -/
def fnExactTurnWrong : ChangeSpec := { name := "fnExactTurn", fn := fun _ => fun
  | [d] => { results := [.lit (.bool false)], args := [d] }
  | _ => none }
def FnExactTurnWrongFalsely : Prop := fnExactTurnRow.holds Try.pinned (OpenSpec.ofChange fnExactTurnWrong)

/-- 'laws.FnExactUnread': WHATEVER THE INPUT: true; the input reads as it did. -/
def fnExactUnreadSpec : ChangeSpec := { name := "fnExactUnread", fn := fun _ => fun
  | [d1, d2] => { results := [.lit (.bool true)], args := [d1, d2] }
  | _ => none }
def fnExactUnreadRow : OpenClaim := { program := "ytloodkhdngipbaa", sum := "4b9dae0a5c68669cd07291a7b9799b8068b59c1b6dfa90203bca9e3d1048ccc3", func := "loop.example/g00070/laws.FnExactUnread", spec := "fnExactUnread", apart := false }
def FnExactUnreadSaid : Prop := fnExactUnreadRow.holds Try.pinned (OpenSpec.ofChange fnExactUnreadSpec)

/-- ITS FALSE NEIGHBOUR: 'it returns false'. Refute it at one input. -/
def fnExactUnreadWrong : ChangeSpec := { name := "fnExactUnread", fn := fun _ => fun
  | [d1, d2] => { results := [.lit (.bool false)], args := [d1, d2] }
  | _ => none }
def FnExactUnreadWrongFalsely : Prop := fnExactUnreadRow.holds Try.pinned (OpenSpec.ofChange fnExactUnreadWrong)

/-- 'laws.FnExactSend': WHATEVER THE INPUT: true; the input reads as it did. -/
def fnExactSendSpec : ChangeSpec := { name := "fnExactSend", fn := fun _ => fun
  | [d1, d2, d3] => { results := [.lit (.bool true)], args := [d1, d2, d3] }
  | _ => none }
def fnExactSendRow : OpenClaim := { program := "ytloodkhdngipbaa", sum := "4b9dae0a5c68669cd07291a7b9799b8068b59c1b6dfa90203bca9e3d1048ccc3", func := "loop.example/g00070/laws.FnExactSend", spec := "fnExactSend", inPlace := ["math.Float64bits"], apart := false }
def FnExactSendSaid : Prop := fnExactSendRow.holds Try.pinned (OpenSpec.ofChange fnExactSendSpec)

/-- ITS FALSE NEIGHBOUR: 'it returns false'. Refute it at one input. -/
def fnExactSendWrong : ChangeSpec := { name := "fnExactSend", fn := fun _ => fun
  | [d1, d2, d3] => { results := [.lit (.bool false)], args := [d1, d2, d3] }
  | _ => none }
def FnExactSendWrongFalsely : Prop := fnExactSendRow.holds Try.pinned (OpenSpec.ofChange fnExactSendWrong)

/-- 'laws.FnHears': WHATEVER THE INPUT: true; the input reads as it did. -/
def fnHearsSpec : ChangeSpec := { name := "fnHears", fn := fun _ => fun
  | [d] => { results := [.lit (.bool true)], args := [d] }
  | _ => none }
def fnHearsRow : OpenClaim := { program := "ytloodkhdngipbaa", sum := "4b9dae0a5c68669cd07291a7b9799b8068b59c1b6dfa90203bca9e3d1048ccc3", func := "loop.example/g00070/laws.FnHears", spec := "fnHears", inPlace := ["math.Float64bits"], apart := false }
def FnHearsSaid : Prop := fnHearsRow.holds Try.pinned (OpenSpec.ofChange fnHearsSpec)

/-- ITS FALSE NEIGHBOUR: 'it returns false'. Refute it at one input. -/
def fnHearsWrong : ChangeSpec := { name := "fnHears", fn := fun _ => fun
  | [d] => { results := [.lit (.bool false)], args := [d] }
  | _ => none }
def FnHearsWrongFalsely : Prop := fnHearsRow.holds Try.pinned (OpenSpec.ofChange fnHearsWrong)

/-- 'laws.FnLate': WHATEVER THE INPUT: true; the input reads as it did. -/
def fnLateSpec : ChangeSpec := { name := "fnLate", fn := fun _ => fun
  | [d] => { results := [.lit (.bool true)], args := [d] }
  | _ => none }
def fnLateRow : OpenClaim := { program := "ytloodkhdngipbaa", sum := "4b9dae0a5c68669cd07291a7b9799b8068b59c1b6dfa90203bca9e3d1048ccc3", func := "loop.example/g00070/laws.FnLate", spec := "fnLate", apart := false }
def FnLateSaid : Prop := fnLateRow.holds Try.pinned (OpenSpec.ofChange fnLateSpec)

/-- ITS FALSE NEIGHBOUR: 'it returns false'. Refute it at one input. -/
def fnLateWrong : ChangeSpec := { name := "fnLate", fn := fun _ => fun
  | [d] => { results := [.lit (.bool false)], args := [d] }
  | _ => none }
def FnLateWrongFalsely : Prop := fnLateRow.holds Try.pinned (OpenSpec.ofChange fnLateWrong)

/-- 'laws.FnAheadOf': WHATEVER THE INPUT: true; the input reads as it did. -/
def fnAheadOfSpec : ChangeSpec := { name := "fnAheadOf", fn := fun _ => fun
  | [d] => { results := [.lit (.bool true)], args := [d] }
  | _ => none }
def fnAheadOfRow : OpenClaim := { program := "ytloodkhdngipbaa", sum := "4b9dae0a5c68669cd07291a7b9799b8068b59c1b6dfa90203bca9e3d1048ccc3", func := "loop.example/g00070/laws.FnAheadOf", spec := "fnAheadOf", apart := false }
def FnAheadOfSaid : Prop := fnAheadOfRow.holds Try.pinned (OpenSpec.ofChange fnAheadOfSpec)

/-- ITS FALSE NEIGHBOUR: 'it returns false'. Refute it at one input. -/
def fnAheadOfWrong : ChangeSpec := { name := "fnAheadOf", fn := fun _ => fun
  | [d] => { results := [.lit (.bool false)], args := [d] }
  | _ => none }
def FnAheadOfWrongFalsely : Prop := fnAheadOfRow.holds Try.pinned (OpenSpec.ofChange fnAheadOfWrong)

/-- 'laws.FnThings': WHATEVER THE INPUT: true; the input reads as it did. -/
def fnThingsSpec : ChangeSpec := { name := "fnThings", fn := fun _ => fun
  | [d] => { results := [.lit (.bool true)], args := [d] }
  | _ => none }
def fnThingsRow : OpenClaim := { program := "ytloodkhdngipbaa", sum := "4b9dae0a5c68669cd07291a7b9799b8068b59c1b6dfa90203bca9e3d1048ccc3", func := "loop.example/g00070/laws.FnThings", spec := "fnThings", apart := false }
def FnThingsSaid : Prop := fnThingsRow.holds Try.pinned (OpenSpec.ofChange fnThingsSpec)

/-- ITS FALSE NEIGHBOUR: 'it returns false'. Refute it at one input. -/
def fnThingsWrong : ChangeSpec := { name := "fnThings", fn := fun _ => fun
  | [d] => { results := [.lit (.bool false)], args := [d] }
  | _ => none }
def FnThingsWrongFalsely : Prop := fnThingsRow.holds Try.pinned (OpenSpec.ofChange fnThingsWrong)

/-- 'laws.FnNames': WHATEVER THE INPUT: true; the input reads as it did. -/
def fnNamesSpec : ChangeSpec := { name := "fnNames", fn := fun _ => fun
  | [d] => { results := [.lit (.bool true)], args := [d] }
  | _ => none }
def fnNamesRow : OpenClaim := { program := "ytloodkhdngipbaa", sum := "4b9dae0a5c68669cd07291a7b9799b8068b59c1b6dfa90203bca9e3d1048ccc3", func := "loop.example/g00070/laws.FnNames", spec := "fnNames", unfollowed := true, recurses := true, apart := false }
def FnNamesSaid : Prop := fnNamesRow.holds Try.pinned (OpenSpec.ofChange fnNamesSpec)

/-- ITS FALSE NEIGHBOUR: 'it returns false'. Refute it at one input. -/
def fnNamesWrong : ChangeSpec := { name := "fnNames", fn := fun _ => fun
  | [d] => { results := [.lit (.bool false)], args := [d] }
  | _ => none }
def FnNamesWrongFalsely : Prop := fnNamesRow.holds Try.pinned (OpenSpec.ofChange fnNamesWrong)

/-- 'laws.FnExactTreeSame': WHATEVER THE INPUT: true; the input reads as it did. -/
def fnExactTreeSameSpec : ChangeSpec := { name := "fnExactTreeSame", fn := fun _ => fun
  | [d1, d2] => { results := [.lit (.bool true)], args := [d1, d2] }
  | _ => none }
def fnExactTreeSameRow : OpenClaim := { program := "ytloodkhdngipbaa", sum := "4b9dae0a5c68669cd07291a7b9799b8068b59c1b6dfa90203bca9e3d1048ccc3", func := "loop.example/g00070/laws.FnExactTreeSame", spec := "fnExactTreeSame", unfollowed := true, recurses := true, apart := false }
def FnExactTreeSameSaid : Prop := fnExactTreeSameRow.holds Try.pinned (OpenSpec.ofChange fnExactTreeSameSpec)

/-- ITS FALSE NEIGHBOUR: 'it returns false'. Refute it at one input. -/
def fnExactTreeSameWrong : ChangeSpec := { name := "fnExactTreeSame", fn := fun _ => fun
  | [d1, d2] => { results := [.lit (.bool false)], args := [d1, d2] }
  | _ => none }
def FnExactTreeSameWrongFalsely : Prop := fnExactTreeSameRow.holds Try.pinned (OpenSpec.ofChange fnExactTreeSameWrong)

/-- 'laws.FnExactEffWithin': WHATEVER THE INPUT: true; the input reads as it did. -/
def fnExactEffWithinSpec : ChangeSpec := { name := "fnExactEffWithin", fn := fun _ => fun
  | [d1, d2] => { results := [.lit (.bool true)], args := [d1, d2] }
  | _ => none }
def fnExactEffWithinRow : OpenClaim := { program := "ytloodkhdngipbaa", sum := "4b9dae0a5c68669cd07291a7b9799b8068b59c1b6dfa90203bca9e3d1048ccc3", func := "loop.example/g00070/laws.FnExactEffWithin", spec := "fnExactEffWithin", unfollowed := true, recurses := true, apart := false }
def FnExactEffWithinSaid : Prop := fnExactEffWithinRow.holds Try.pinned (OpenSpec.ofChange fnExactEffWithinSpec)

/-- ITS FALSE NEIGHBOUR: 'it returns false'. Refute it at one input. -/
def fnExactEffWithinWrong : ChangeSpec := { name := "fnExactEffWithin", fn := fun _ => fun
  | [d1, d2] => { results := [.lit (.bool false)], args := [d1, d2] }
  | _ => none }
def FnExactEffWithinWrongFalsely : Prop := fnExactEffWithinRow.holds Try.pinned (OpenSpec.ofChange fnExactEffWithinWrong)

/-- 'laws.FnExactEffectOk': WHATEVER THE INPUT: true; the input reads as it did. -/
def fnExactEffectOkSpec : ChangeSpec := { name := "fnExactEffectOk", fn := fun _ => fun
  | [d1, d2] => { results := [.lit (.bool true)], args := [d1, d2] }
  | _ => none }
def fnExactEffectOkRow : OpenClaim := { program := "ytloodkhdngipbaa", sum := "4b9dae0a5c68669cd07291a7b9799b8068b59c1b6dfa90203bca9e3d1048ccc3", func := "loop.example/g00070/laws.FnExactEffectOk", spec := "fnExactEffectOk", apart := false }
def FnExactEffectOkSaid : Prop := fnExactEffectOkRow.holds Try.pinned (OpenSpec.ofChange fnExactEffectOkSpec)

/-- ITS FALSE NEIGHBOUR: 'it returns false'. Refute it at one input. -/
def fnExactEffectOkWrong : ChangeSpec := { name := "fnExactEffectOk", fn := fun _ => fun
  | [d1, d2] => { results := [.lit (.bool false)], args := [d1, d2] }
  | _ => none }
def FnExactEffectOkWrongFalsely : Prop := fnExactEffectOkRow.holds Try.pinned (OpenSpec.ofChange fnExactEffectOkWrong)

/- THE SECOND FORM. 'bulk': how many values and letters a reading holds, each counted each time it is reached (what is shared counts as often as it is met; a slice's spare places count too). A statement '..UptoSaid' is the law's where the arguments, and the package variables that the reading takes, are together of bulk at most 1048576: NARROWER than '..Said'. Prove '..Said' where nothing that the law and all that it calls make is longer than what came in: it says more and counts as full. Else prove '..UptoSaid'. A law counts once. -/
mutual
def uptoBulk {H : Type} : DataW H → Nat
  | .lit (.string bytes) => bytes.length + 1
  | .lit _ => 1
  | .nil => 1
  | .ptr d => uptoBulk d + 1
  | .slice elems spare => uptoBulkAll elems + uptoBulkAll spare + 1
  | .agg parts => uptoBulkAll parts + 1
  | .iface _ d => uptoBulk d + 1
  | .map entries => uptoBulkEntries entries + 1
  | .held _ => 1
def uptoBulkAll {H : Type} : List (DataW H) → Nat
  | [] => 0
  | d :: r => uptoBulk d + uptoBulkAll r
def uptoBulkEntries {H : Type} : List (Lit × DataW H) → Nat
  | [] => 0
  | x :: r => uptoBulkEntry x + uptoBulkEntries r
def uptoBulkEntry {H : Type} : Lit × DataW H → Nat
  | (.string bytes, d) => bytes.length + uptoBulk d + 1
  | (_, d) => uptoBulk d + 1
 end
def uptoSmall : (H : Type) → List (DataW H) → Bool := fun _ ds => decide (uptoBulkAll ds ≤ 1048576)
def OpenSpec.upto (s : _root_.Go.ChangeSpec) : _root_.Go.OpenSpec := { _root_.Go.OpenSpec.ofChange s with cond := some uptoSmall }

/-- 'laws.FnExactStreamOk', WHERE WHAT IT READS IS OF BULK AT MOST 1048576: true; the input reads as it did. -/
def fnExactStreamOkUptoRow : OpenClaim := { program := "ytloodkhdngipbaa", sum := "4b9dae0a5c68669cd07291a7b9799b8068b59c1b6dfa90203bca9e3d1048ccc3", func := "loop.example/g00070/laws.FnExactStreamOk", spec := "fnExactStreamOk", inPlace := ["math.Float64bits"], apart := false, narrowed := true }
def FnExactStreamOkUptoSaid : Prop := fnExactStreamOkUptoRow.holds Try.pinned (OpenSpec.upto fnExactStreamOkSpec)

/-- 'laws.FnExactTurn', WHERE WHAT IT READS IS OF BULK AT MOST 1048576: true; the input reads as it did. -/
def fnExactTurnUptoRow : OpenClaim := { program := "ytloodkhdngipbaa", sum := "4b9dae0a5c68669cd07291a7b9799b8068b59c1b6dfa90203bca9e3d1048ccc3", func := "loop.example/g00070/laws.FnExactTurn", spec := "fnExactTurn", apart := false, narrowed := true }
def FnExactTurnUptoSaid : Prop := fnExactTurnUptoRow.holds Try.pinned (OpenSpec.upto fnExactTurnSpec)

/-- 'laws.FnExactUnread', WHERE WHAT IT READS IS OF BULK AT MOST 1048576: true; the input reads as it did. -/
def fnExactUnreadUptoRow : OpenClaim := { program := "ytloodkhdngipbaa", sum := "4b9dae0a5c68669cd07291a7b9799b8068b59c1b6dfa90203bca9e3d1048ccc3", func := "loop.example/g00070/laws.FnExactUnread", spec := "fnExactUnread", apart := false, narrowed := true }
def FnExactUnreadUptoSaid : Prop := fnExactUnreadUptoRow.holds Try.pinned (OpenSpec.upto fnExactUnreadSpec)

/-- 'laws.FnExactSend', WHERE WHAT IT READS IS OF BULK AT MOST 1048576: true; the input reads as it did. -/
def fnExactSendUptoRow : OpenClaim := { program := "ytloodkhdngipbaa", sum := "4b9dae0a5c68669cd07291a7b9799b8068b59c1b6dfa90203bca9e3d1048ccc3", func := "loop.example/g00070/laws.FnExactSend", spec := "fnExactSend", inPlace := ["math.Float64bits"], apart := false, narrowed := true }
def FnExactSendUptoSaid : Prop := fnExactSendUptoRow.holds Try.pinned (OpenSpec.upto fnExactSendSpec)

/-- 'laws.FnHears', WHERE WHAT IT READS IS OF BULK AT MOST 1048576: true; the input reads as it did. -/
def fnHearsUptoRow : OpenClaim := { program := "ytloodkhdngipbaa", sum := "4b9dae0a5c68669cd07291a7b9799b8068b59c1b6dfa90203bca9e3d1048ccc3", func := "loop.example/g00070/laws.FnHears", spec := "fnHears", inPlace := ["math.Float64bits"], apart := false, narrowed := true }
def FnHearsUptoSaid : Prop := fnHearsUptoRow.holds Try.pinned (OpenSpec.upto fnHearsSpec)

/-- 'laws.FnLate', WHERE WHAT IT READS IS OF BULK AT MOST 1048576: true; the input reads as it did. -/
def fnLateUptoRow : OpenClaim := { program := "ytloodkhdngipbaa", sum := "4b9dae0a5c68669cd07291a7b9799b8068b59c1b6dfa90203bca9e3d1048ccc3", func := "loop.example/g00070/laws.FnLate", spec := "fnLate", apart := false, narrowed := true }
def FnLateUptoSaid : Prop := fnLateUptoRow.holds Try.pinned (OpenSpec.upto fnLateSpec)

/-- 'laws.FnAheadOf', WHERE WHAT IT READS IS OF BULK AT MOST 1048576: true; the input reads as it did. -/
def fnAheadOfUptoRow : OpenClaim := { program := "ytloodkhdngipbaa", sum := "4b9dae0a5c68669cd07291a7b9799b8068b59c1b6dfa90203bca9e3d1048ccc3", func := "loop.example/g00070/laws.FnAheadOf", spec := "fnAheadOf", apart := false, narrowed := true }
def FnAheadOfUptoSaid : Prop := fnAheadOfUptoRow.holds Try.pinned (OpenSpec.upto fnAheadOfSpec)

/-- 'laws.FnThings', WHERE WHAT IT READS IS OF BULK AT MOST 1048576: true; the input reads as it did. -/
def fnThingsUptoRow : OpenClaim := { program := "ytloodkhdngipbaa", sum := "4b9dae0a5c68669cd07291a7b9799b8068b59c1b6dfa90203bca9e3d1048ccc3", func := "loop.example/g00070/laws.FnThings", spec := "fnThings", apart := false, narrowed := true }
def FnThingsUptoSaid : Prop := fnThingsUptoRow.holds Try.pinned (OpenSpec.upto fnThingsSpec)

/-- 'laws.FnNames', WHERE WHAT IT READS IS OF BULK AT MOST 1048576: true; the input reads as it did. -/
def fnNamesUptoRow : OpenClaim := { program := "ytloodkhdngipbaa", sum := "4b9dae0a5c68669cd07291a7b9799b8068b59c1b6dfa90203bca9e3d1048ccc3", func := "loop.example/g00070/laws.FnNames", spec := "fnNames", unfollowed := true, recurses := true, apart := false, narrowed := true }
def FnNamesUptoSaid : Prop := fnNamesUptoRow.holds Try.pinned (OpenSpec.upto fnNamesSpec)

/-- 'laws.FnExactTreeSame', WHERE WHAT IT READS IS OF BULK AT MOST 1048576: true; the input reads as it did. -/
def fnExactTreeSameUptoRow : OpenClaim := { program := "ytloodkhdngipbaa", sum := "4b9dae0a5c68669cd07291a7b9799b8068b59c1b6dfa90203bca9e3d1048ccc3", func := "loop.example/g00070/laws.FnExactTreeSame", spec := "fnExactTreeSame", unfollowed := true, recurses := true, apart := false, narrowed := true }
def FnExactTreeSameUptoSaid : Prop := fnExactTreeSameUptoRow.holds Try.pinned (OpenSpec.upto fnExactTreeSameSpec)

/-- 'laws.FnExactEffWithin', WHERE WHAT IT READS IS OF BULK AT MOST 1048576: true; the input reads as it did. -/
def fnExactEffWithinUptoRow : OpenClaim := { program := "ytloodkhdngipbaa", sum := "4b9dae0a5c68669cd07291a7b9799b8068b59c1b6dfa90203bca9e3d1048ccc3", func := "loop.example/g00070/laws.FnExactEffWithin", spec := "fnExactEffWithin", unfollowed := true, recurses := true, apart := false, narrowed := true }
def FnExactEffWithinUptoSaid : Prop := fnExactEffWithinUptoRow.holds Try.pinned (OpenSpec.upto fnExactEffWithinSpec)

/-- 'laws.FnExactEffectOk', WHERE WHAT IT READS IS OF BULK AT MOST 1048576: true; the input reads as it did. -/
def fnExactEffectOkUptoRow : OpenClaim := { program := "ytloodkhdngipbaa", sum := "4b9dae0a5c68669cd07291a7b9799b8068b59c1b6dfa90203bca9e3d1048ccc3", func := "loop.example/g00070/laws.FnExactEffectOk", spec := "fnExactEffectOk", apart := false, narrowed := true }
def FnExactEffectOkUptoSaid : Prop := fnExactEffectOkUptoRow.holds Try.pinned (OpenSpec.upto fnExactEffectOkSpec)

end Rows
end Go.Proofs.Ytloodkhdngipbaa
