/- The machine side of a statement, laid by the kit's print program, run by wip/tools/gprint.py: some functions' contracts are given, proved by hand. -/
import Derived.Test.YthlneooboiphdaaProg
import Derived.Below
import Derived.Deep.Draws
import Derived.Deep.AppendLies
import Derived.Maps.AppendAt
import Derived.OwnWalk
import Derived.Laws.BytesArg
import Derived.Laws.MakeOwn
import Derived.Laws.OwnMore
import Derived.Deep.OwnRows
import Derived.Tactics
import Derived.Lib.ConvBytes
import Derived.Laws.Slices
import Derived.WalkKit
import Derived.KernelRfl
import Derived.RowKit3
import Derived.Deep.LoopGhost
import Derived.Deep.QuietTactic
import Derived.BigQuiet
import Derived.WideLaws
import Derived.Deep.DeepCutAuto
import Derived.Deep.CutBlock
import Derived.Deep.RegionHeld3
import Derived.Laws.Rows
import Derived.Lib.AppendStr
import Derived.ArgAppend
import Derived.Laws.IdiomCopy
import Derived.OrdersHeld
import Derived.Laws.BitsLemmas
import Derived.RowKit
import Derived.Test.YthlneooboiphdaaWWords
import Derived.Test.YthlneooboiphdaaWLast
import Derived.Test.YthlneooboiphdaaWTab
import Derived.Test.YthlneooboiphdaaWFour
import Derived.Test.YthlneooboiphdaaWQPut
import Derived.Test.YthlneooboiphdaaWApart
import Derived.Test.YthlneooboiphdaaWArr
import Derived.Test.YthlneooboiphdaaWZeros
import Derived.Test.YthlneooboiphdaaWFoot
import Derived.Test.YthlneooboiphdaaWKept
import Derived.Test.YthlneooboiphdaaWShare
import Derived.Test.YthlneooboiphdaaWN
import Derived.Test.YthlneooboiphdaaWFootNe
import Derived.Test.YthlneooboiphdaaWAt
import Derived.Test.YthlneooboiphdaaWEqStruct
import Derived.Test.YthlneooboiphdaaWRepsOne
import Derived.Test.YthlneooboiphdaaWInv
import Derived.Test.YthlneooboiphdaaWInvWords
import Derived.Test.YthlneooboiphdaaWGuard
import Derived.Test.YthlneooboiphdaaWNEv
import Derived.Test.YthlneooboiphdaaWMore
namespace Go.Proofs.Ythlneooboiphdaa.PBeginsF
open Go.RowKit Go.Proofs.YthlneooboiphdaaW.PrintWords Go.Proofs.YthlneooboiphdaaW.PrintLast Go.Proofs.YthlneooboiphdaaW.PrintMore
attribute [local go_sem] max2_int min2_int max_two min_two max_three min_three max_four min_four   -- for this text's walks alone
set_option linter.unusedVariables false
set_option linter.unusedSimpArgs false



def errW : Option Int → Value
  | none => .nilIface
  | some c => .iface 0 (.int .i64 c)
theorem errW_none : errW none = .nilIface := rfl
theorem errW_some (c : Int) : errW (some c) = .iface 0 (.int .i64 c) := rfl

-- the values' own types

end Go.Proofs.Ythlneooboiphdaa.PBeginsF
