/-
  No cell of these rows narrows 'for every input' (looked for: loops, veiled, ifaces, maps, wideKeys, modest, calm, conditions, laid).
  DERIVED. THE GIVEN ROWS OF THIS SEAT. 3 by the template 'for every input the law returns true; each argument reads behind the call as it read before'; 0 by the template 'total and deterministic' (their statements: YtehmdblkkpdmoaaGreatTotals.lean).
  GIVEN WITH THE SEED: the statements are not yours to turn. If you find one false, say at which input.
  Laid BY PROGRAM, IN A SANDBOX (cutbox-rows.mjs): the forced cells as the released guide's own fill.sh prints them over the translation 0aed5c056fecd36c… (all of the seat's roots in one cut). By AI agents, Wed Nov 11 2026. No macro, syntax, notation, axiom, sorry.
-/
import Derived.Test.YtehmdblkkpdmoaaGreatChecked
import GoSem.Claim
import GoSem.ClaimJoined
import GoSem.ClaimMapViews
import Derived.JoinedTies
import Derived.KernelRfl
namespace Go.Proofs.YtehmdblkkpdmoaaGreat
/- THE CELL 'sum', in the pinned program and in every row, IS THE sha256 OF THE DUMP (.gsa) THAT YtehmdblkkpdmoaaGreatProg.lean LOADS. Nothing in Lean hashes anything: it is a label: what it is worth is what the hold of that sum in a sandbox is worth. -/
noncomputable def Tryz.pinned : Pinned := { name := "ytehmdblkkpdmoaagreat", sum := "0aed5c056fecd36cc11c303864989ba858078408c0bf62bb2020ec7380c64bee", checked := Tryz.checked }
namespace Rows
def none {H : Type} : Left H := { results := [], args := [] }

/-- 'laws.FnExactKill': WHATEVER THE INPUT: true; the input reads as it did. -/
def fnExactKillSpec : ChangeSpec := { name := "fnExactKill", fn := fun _ => fun
  | [d1, d2, d3] => { results := [.lit (.bool true)], args := [d1, d2, d3] }
  | _ => none }
def fnExactKillRow : OpenClaim := { program := "ytehmdblkkpdmoaagreat", sum := "0aed5c056fecd36cc11c303864989ba858078408c0bf62bb2020ec7380c64bee", func := "loop.example/g00070/laws.FnExactKill", spec := "fnExactKill", inPlace := ["math.Float64bits"], apart := false }
def FnExactKillSaid : Prop := fnExactKillRow.holds Tryz.pinned (OpenSpec.ofChange fnExactKillSpec)

/-- ITS FALSE NEIGHBOUR: 'it returns false'. Refute it at one input. -/
def fnExactKillWrong : ChangeSpec := { name := "fnExactKill", fn := fun _ => fun
  | [d1, d2, d3] => { results := [.lit (.bool false)], args := [d1, d2, d3] }
  | _ => none }
def FnExactKillWrongFalsely : Prop := fnExactKillRow.holds Tryz.pinned (OpenSpec.ofChange fnExactKillWrong)

/-- 'laws.FnExactPut': WHATEVER THE INPUT: true; the input reads as it did. -/
def fnExactPutSpec : ChangeSpec := { name := "fnExactPut", fn := fun _ => fun
  | [d1, d2, d3, d4, d5] => { results := [.lit (.bool true)], args := [d1, d2, d3, d4, d5] }
  | _ => none }
def fnExactPutRow : OpenClaim := { program := "ytehmdblkkpdmoaagreat", sum := "0aed5c056fecd36cc11c303864989ba858078408c0bf62bb2020ec7380c64bee", func := "loop.example/g00070/laws.FnExactPut", spec := "fnExactPut", inPlace := ["math.Float64bits"], unfollowed := true, recurses := true, apart := false }
def FnExactPutSaid : Prop := fnExactPutRow.holds Tryz.pinned (OpenSpec.ofChange fnExactPutSpec)

/-- ITS FALSE NEIGHBOUR: 'it returns false'. Refute it at one input. -/
def fnExactPutWrong : ChangeSpec := { name := "fnExactPut", fn := fun _ => fun
  | [d1, d2, d3, d4, d5] => { results := [.lit (.bool false)], args := [d1, d2, d3, d4, d5] }
  | _ => none }
def FnExactPutWrongFalsely : Prop := fnExactPutRow.holds Tryz.pinned (OpenSpec.ofChange fnExactPutWrong)

/-- 'laws.FnExactDrop': WHATEVER THE INPUT: true; the input reads as it did. -/
def fnExactDropSpec : ChangeSpec := { name := "fnExactDrop", fn := fun _ => fun
  | [d1, d2, d3, d4] => { results := [.lit (.bool true)], args := [d1, d2, d3, d4] }
  | _ => none }
def fnExactDropRow : OpenClaim := { program := "ytehmdblkkpdmoaagreat", sum := "0aed5c056fecd36cc11c303864989ba858078408c0bf62bb2020ec7380c64bee", func := "loop.example/g00070/laws.FnExactDrop", spec := "fnExactDrop", inPlace := ["math.Float64bits"], apart := false }
def FnExactDropSaid : Prop := fnExactDropRow.holds Tryz.pinned (OpenSpec.ofChange fnExactDropSpec)

/-- ITS FALSE NEIGHBOUR: 'it returns false'. Refute it at one input. -/
def fnExactDropWrong : ChangeSpec := { name := "fnExactDrop", fn := fun _ => fun
  | [d1, d2, d3, d4] => { results := [.lit (.bool false)], args := [d1, d2, d3, d4] }
  | _ => none }
def FnExactDropWrongFalsely : Prop := fnExactDropRow.holds Tryz.pinned (OpenSpec.ofChange fnExactDropWrong)

/- THE SECOND FORM. 'bulk': how many values and letters a reading holds, each counted each time it is reached (what is shared counts as often as it is met; a slice's spare places count too). A statement '..UptoSaid' is the law's where the arguments, and the package variables that the reading takes, are together of bulk at most 1048576: NARROWER than '..Said'. Prove '..Said' where nothing that the law and all that it calls make is longer than what came in: it says more and counts as full. Else prove '..UptoSaid'. A law counts once. -/
mutual
def uptoBulk {H : Type} : DataW H → Nat
  | .lit (.string bytes) => bytes.length + 1
  | .lit _ => 1
  | .nil => 1
  | .ptr d => uptoBulk d + 1
  | .slice elems spare => uptoBulkAll elems + uptoBulkAll spare + 1
  | .agg parts => uptoBulkAll parts + 1
  | .iface _ d => uptoBulk d + 1
  | .map entries => uptoBulkEntries entries + 1
  | .held _ => 1
def uptoBulkAll {H : Type} : List (DataW H) → Nat
  | [] => 0
  | d :: r => uptoBulk d + uptoBulkAll r
def uptoBulkEntries {H : Type} : List (Lit × DataW H) → Nat
  | [] => 0
  | x :: r => uptoBulkEntry x + uptoBulkEntries r
def uptoBulkEntry {H : Type} : Lit × DataW H → Nat
  | (.string bytes, d) => bytes.length + uptoBulk d + 1
  | (_, d) => uptoBulk d + 1
 end
def uptoSmall : (H : Type) → List (DataW H) → Bool := fun _ ds => decide (uptoBulkAll ds ≤ 1048576)
def OpenSpec.upto (s : _root_.Go.ChangeSpec) : _root_.Go.OpenSpec := { _root_.Go.OpenSpec.ofChange s with cond := some uptoSmall }

/-- 'laws.FnExactKill', WHERE WHAT IT READS IS OF BULK AT MOST 1048576: true; the input reads as it did. -/
def fnExactKillUptoRow : OpenClaim := { program := "ytehmdblkkpdmoaagreat", sum := "0aed5c056fecd36cc11c303864989ba858078408c0bf62bb2020ec7380c64bee", func := "loop.example/g00070/laws.FnExactKill", spec := "fnExactKill", inPlace := ["math.Float64bits"], apart := false, narrowed := true }
def FnExactKillUptoSaid : Prop := fnExactKillUptoRow.holds Tryz.pinned (OpenSpec.upto fnExactKillSpec)

/-- 'laws.FnExactPut', WHERE WHAT IT READS IS OF BULK AT MOST 1048576: true; the input reads as it did. -/
def fnExactPutUptoRow : OpenClaim := { program := "ytehmdblkkpdmoaagreat", sum := "0aed5c056fecd36cc11c303864989ba858078408c0bf62bb2020ec7380c64bee", func := "loop.example/g00070/laws.FnExactPut", spec := "fnExactPut", inPlace := ["math.Float64bits"], unfollowed := true, recurses := true, apart := false, narrowed := true }
def FnExactPutUptoSaid : Prop := fnExactPutUptoRow.holds Tryz.pinned (OpenSpec.upto fnExactPutSpec)

/-- 'laws.FnExactDrop', WHERE WHAT IT READS IS OF BULK AT MOST 1048576: true; the input reads as it did. -/
def fnExactDropUptoRow : OpenClaim := { program := "ytehmdblkkpdmoaagreat", sum := "0aed5c056fecd36cc11c303864989ba858078408c0bf62bb2020ec7380c64bee", func := "loop.example/g00070/laws.FnExactDrop", spec := "fnExactDrop", inPlace := ["math.Float64bits"], apart := false, narrowed := true }
def FnExactDropUptoSaid : Prop := fnExactDropUptoRow.holds Tryz.pinned (OpenSpec.upto fnExactDropSpec)

end Rows
end Go.Proofs.YtehmdblkkpdmoaaGreat
