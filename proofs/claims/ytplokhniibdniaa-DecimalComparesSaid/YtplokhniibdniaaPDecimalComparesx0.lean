/- The machine side of a statement, laid by the kit's print program, run by wip/tools/gprint.py: some functions' contracts are given, proved by hand. -/
import Derived.Test.YtplokhniibdniaaProg
import Derived.Below
import Derived.Deep.Draws
import Derived.Deep.AppendLies
import Derived.Maps.AppendAt
import Derived.OwnWalk
import Derived.Laws.BytesArg
import Derived.Laws.MakeOwn
import Derived.Laws.OwnMore
import Derived.Deep.OwnRows
import Derived.Tactics
import Derived.Lib.ConvBytes
import Derived.Laws.Slices
import Derived.WalkKit
import Derived.KernelRfl
import Derived.RowKit3
import Derived.Deep.LoopGhost
import Derived.Deep.QuietTactic
import Derived.BigQuiet
import Derived.WideLaws
import Derived.Deep.DeepCutAuto
import Derived.Deep.CutBlock
import Derived.Deep.RegionHeld3
import Derived.Laws.Rows
import Derived.Lib.AppendStr
import Derived.ArgAppend
import Derived.Laws.IdiomCopy
import Derived.OrdersHeld
import Derived.Laws.BitsLemmas
import Derived.RowKit
import Derived.Test.YtplokhniibdniaaGiven
import Derived.Test.YtplokhniibdniaaStrLaws
import Derived.Test.YtplokhniibdniaaWWords
import Derived.Test.YtplokhniibdniaaWLast
import Derived.Test.YtplokhniibdniaaWTab
import Derived.Test.YtplokhniibdniaaWFour
import Derived.Test.YtplokhniibdniaaWQPut
import Derived.Test.YtplokhniibdniaaWApart
import Derived.Test.YtplokhniibdniaaWArr
import Derived.Test.YtplokhniibdniaaWZeros
import Derived.Test.YtplokhniibdniaaWFoot
import Derived.Test.YtplokhniibdniaaWKept
import Derived.Test.YtplokhniibdniaaWShare
import Derived.Test.YtplokhniibdniaaWN
import Derived.Test.YtplokhniibdniaaWFootNe
import Derived.Test.YtplokhniibdniaaWAt
import Derived.Test.YtplokhniibdniaaWEqStruct
import Derived.Test.YtplokhniibdniaaWRepsOne
import Derived.Test.YtplokhniibdniaaWInv
import Derived.Test.YtplokhniibdniaaWInvWords
import Derived.Test.YtplokhniibdniaaWGuard
import Derived.Test.YtplokhniibdniaaWNEv
import Derived.Test.YtplokhniibdniaaWMore
namespace Go.Proofs.Ytplokhniibdniaa.PDecimalCompares
open Go.RowKit Go.Proofs.YtplokhniibdniaaW.PrintWords Go.Proofs.YtplokhniibdniaaW.PrintLast Go.Proofs.YtplokhniibdniaaW.PrintMore
attribute [local go_sem] max2_int min2_int max_two min_two max_three min_three max_four min_four   -- for this text's walks alone
set_option linter.unusedVariables false
set_option linter.unusedSimpArgs false



def errW : Option Int → Value
  | none => .nilIface
  | some c => .iface 0 (.int .i64 c)
theorem errW_none : errW none = .nilIface := rfl
theorem errW_some (c : Int) : errW (some c) = .iface 0 (.int .i64 c) := rfl

theorem info3 : (Try.prog.info? 3).map (fun i => (i.zero, i.size, i.bytes)) = some (some (.int .i64 0), 1, 8) := by kernel_rfl
-- the values' own types

end Go.Proofs.Ytplokhniibdniaa.PDecimalCompares
