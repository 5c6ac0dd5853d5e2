/- The machine side of a statement, laid by the kit's print program, run by wip/tools/gprint.py: some functions' contracts are given, proved by hand. -/
import Derived.Test.YtplokhniibdniaaDoorProg
import Derived.Below
import Derived.Deep.Draws
import Derived.Deep.AppendLies
import Derived.Maps.AppendAt
import Derived.OwnWalk
import Derived.Laws.BytesArg
import Derived.Laws.MakeOwn
import Derived.Laws.OwnMore
import Derived.Deep.OwnRows
import Derived.Tactics
import Derived.Lib.ConvBytes
import Derived.Laws.Slices
import Derived.WalkKit
import Derived.KernelRfl
import Derived.RowKit3
import Derived.Deep.LoopGhost
import Derived.Deep.QuietTactic
import Derived.BigQuiet
import Derived.WideLaws
import Derived.Deep.DeepCutAuto
import Derived.Deep.CutBlock
import Derived.Deep.RegionHeld3
import Derived.Laws.Rows
import Derived.Lib.AppendStr
import Derived.ArgAppend
import Derived.Laws.IdiomCopy
import Derived.OrdersHeld
import Derived.Laws.BitsLemmas
import Derived.RowKit
import Derived.Test.YtplokhniibdniaaDoorTabN
import Derived.Test.YtplokhniibdniaaDoorReadIs
import Derived.Test.YtplokhniibdniaaDoorStrLaws
import Derived.Test.YtplokhniibdniaaDoorGivenCmp
import Derived.Test.YtplokhniibdniaaDoorWWords
import Derived.Test.YtplokhniibdniaaDoorWLast
import Derived.Test.YtplokhniibdniaaDoorWTab
import Derived.Test.YtplokhniibdniaaDoorWFour
import Derived.Test.YtplokhniibdniaaDoorWQPut
import Derived.Test.YtplokhniibdniaaDoorWApart
import Derived.Test.YtplokhniibdniaaDoorWArr
import Derived.Test.YtplokhniibdniaaDoorWZeros
import Derived.Test.YtplokhniibdniaaDoorWFoot
import Derived.Test.YtplokhniibdniaaDoorWKept
import Derived.Test.YtplokhniibdniaaDoorWShare
import Derived.Test.YtplokhniibdniaaDoorWN
import Derived.Test.YtplokhniibdniaaDoorWFootNe
import Derived.Test.YtplokhniibdniaaDoorWAt
import Derived.Test.YtplokhniibdniaaDoorWEqStruct
import Derived.Test.YtplokhniibdniaaDoorWRepsOne
import Derived.Test.YtplokhniibdniaaDoorWInv
import Derived.Test.YtplokhniibdniaaDoorWInvWords
import Derived.Test.YtplokhniibdniaaDoorWGuard
import Derived.Test.YtplokhniibdniaaDoorWNEv
import Derived.Test.YtplokhniibdniaaDoorWMore
namespace Go.Proofs.YtplokhniibdniaaDoor.PDecimalOrders
open Go.RowKit Go.Proofs.YtplokhniibdniaaDoorW.PrintWords Go.Proofs.YtplokhniibdniaaDoorW.PrintLast Go.Proofs.YtplokhniibdniaaDoorW.PrintMore
attribute [local go_sem] max2_int min2_int max_two min_two max_three min_three max_four min_four   -- for this text's walks alone
set_option linter.unusedVariables false
set_option linter.unusedSimpArgs false



def errW : Option Int → Value
  | none => .nilIface
  | some c => .iface 0 (.int .i64 c)
theorem errW_none : errW none = .nilIface := rfl
theorem errW_some (c : Int) : errW (some c) = .iface 0 (.int .i64 c) := rfl

theorem info3 : (Tryd.prog.info? 3).map (fun i => (i.zero, i.size, i.bytes)) = some (some (.int .i64 0), 1, 8) := by kernel_rfl
-- the values' own types

end Go.Proofs.YtplokhniibdniaaDoor.PDecimalOrders
