-- printed by a program of this session (mp.py) out of Lean's own print of the program
import Derived.Test.YtlddgmpaaobpoaaProg
import Derived.Below
import Derived.Deep.Draws
import Derived.Deep.AppendLies
import Derived.Maps.AppendAt
import Derived.OwnWalk
import Derived.Laws.BytesArg
import Derived.Laws.MakeOwn
import Derived.Laws.OwnMore
import Derived.Deep.OwnRows
import Derived.Tactics
import Derived.Lib.ConvBytes
import Derived.Laws.Slices
import Derived.WalkKit
import Derived.KernelRfl
import Derived.RowKit3
import Derived.Deep.LoopGhost
import Derived.Deep.QuietTactic
import Derived.BigQuiet
import Derived.WideLaws
import Derived.Deep.DeepCutAuto
import Derived.Deep.CutBlock
import Derived.Deep.RegionHeld3
import Derived.Laws.Rows
import Derived.Lib.AppendStr
import Derived.ArgAppend
import Derived.Laws.IdiomCopy
import Derived.OrdersHeld
import Derived.Laws.BitsLemmas
import Derived.RowKit
import Derived.Test.YtlddgmpaaobpoaaWWords
import Derived.Test.YtlddgmpaaobpoaaWLast
import Derived.Test.YtlddgmpaaobpoaaWTab
import Derived.Test.YtlddgmpaaobpoaaWFour
import Derived.Test.YtlddgmpaaobpoaaWQPut
import Derived.Test.YtlddgmpaaobpoaaWApart
import Derived.Test.YtlddgmpaaobpoaaWArr
import Derived.Test.YtlddgmpaaobpoaaWZeros
import Derived.Test.YtlddgmpaaobpoaaWFoot
import Derived.Test.YtlddgmpaaobpoaaWKept
import Derived.Test.YtlddgmpaaobpoaaWShare
import Derived.Test.YtlddgmpaaobpoaaWN
import Derived.Test.YtlddgmpaaobpoaaWFootNe
import Derived.Test.YtlddgmpaaobpoaaWAt
import Derived.Test.YtlddgmpaaobpoaaWEqStruct
import Derived.Test.YtlddgmpaaobpoaaWRepsOne
import Derived.Test.YtlddgmpaaobpoaaWInv
import Derived.Test.YtlddgmpaaobpoaaWInvWords
import Derived.Test.YtlddgmpaaobpoaaWGuard
import Derived.Test.YtlddgmpaaobpoaaWNEv
import Derived.Test.YtlddgmpaaobpoaaWMore
namespace Go.Proofs.Ytlddgmpaaobpoaa.Q
open Go.RowKit Go.Proofs.YtlddgmpaaobpoaaW.PrintWords Go.Proofs.YtlddgmpaaobpoaaW.PrintLast Go.Proofs.YtlddgmpaaobpoaaW.PrintMore
attribute [local go_sem] max2_int min2_int max_two min_two max_three min_three max_four min_four   -- for this text's walks alone
set_option linter.unusedVariables false
set_option linter.unusedSimpArgs false



def errW : Option Int → Value
  | none => .nilIface
  | some c => .iface 0 (.int .i64 c)
theorem errW_none : errW none = .nilIface := rfl
theorem errW_some (c : Int) : errW (some c) = .iface 0 (.int .i64 c) := rfl

-- the values' own types

end Go.Proofs.Ytlddgmpaaobpoaa.Q
