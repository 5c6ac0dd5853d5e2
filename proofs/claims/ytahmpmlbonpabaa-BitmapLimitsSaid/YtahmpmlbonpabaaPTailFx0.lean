/- The machine side of a statement, laid by the kit's print program, run by wip/tools/gprint.py: some functions' contracts are given, proved by hand. -/
import Derived.Test.YtahmpmlbonpabaaProg
import Derived.Below
import Derived.Deep.Draws
import Derived.Deep.AppendLies
import Derived.Maps.AppendAt
import Derived.OwnWalk
import Derived.Laws.BytesArg
import Derived.Laws.MakeOwn
import Derived.Laws.OwnMore
import Derived.Deep.OwnRows
import Derived.Tactics
import Derived.Lib.ConvBytes
import Derived.Laws.Slices
import Derived.WalkKit
import Derived.KernelRfl
import Derived.RowKit3
import Derived.Deep.LoopGhost
import Derived.Deep.QuietTactic
import Derived.BigQuiet
import Derived.WideLaws
import Derived.Deep.DeepCutAuto
import Derived.Deep.CutBlock
import Derived.Deep.RegionHeld3
import Derived.Laws.Rows
import Derived.Lib.AppendStr
import Derived.ArgAppend
import Derived.Laws.IdiomCopy
import Derived.OrdersHeld
import Derived.Laws.BitsLemmas
import Derived.RowKit
import Derived.Test.YtahmpmlbonpabaaWWords
import Derived.Test.YtahmpmlbonpabaaWLast
import Derived.Test.YtahmpmlbonpabaaWTab
import Derived.Test.YtahmpmlbonpabaaWFour
import Derived.Test.YtahmpmlbonpabaaWQPut
import Derived.Test.YtahmpmlbonpabaaWApart
import Derived.Test.YtahmpmlbonpabaaWArr
import Derived.Test.YtahmpmlbonpabaaWZeros
import Derived.Test.YtahmpmlbonpabaaWFoot
import Derived.Test.YtahmpmlbonpabaaWKept
import Derived.Test.YtahmpmlbonpabaaWShare
import Derived.Test.YtahmpmlbonpabaaWN
import Derived.Test.YtahmpmlbonpabaaWFootNe
import Derived.Test.YtahmpmlbonpabaaWAt
import Derived.Test.YtahmpmlbonpabaaWEqStruct
import Derived.Test.YtahmpmlbonpabaaWRepsOne
import Derived.Test.YtahmpmlbonpabaaWInv
import Derived.Test.YtahmpmlbonpabaaWInvWords
import Derived.Test.YtahmpmlbonpabaaWGuard
import Derived.Test.YtahmpmlbonpabaaWNEv
import Derived.Test.YtahmpmlbonpabaaWMore
namespace Go.Proofs.Ytahmpmlbonpabaa.PTailF
open Go.RowKit Go.Proofs.YtahmpmlbonpabaaW.PrintWords Go.Proofs.YtahmpmlbonpabaaW.PrintLast Go.Proofs.YtahmpmlbonpabaaW.PrintMore
attribute [local go_sem] max2_int min2_int max_two min_two max_three min_three max_four min_four   -- for this text's walks alone
set_option linter.unusedVariables false
set_option linter.unusedSimpArgs false



def errW : Option Int → Value
  | none => .nilIface
  | some c => .iface 0 (.int .i64 c)
theorem errW_none : errW none = .nilIface := rfl
theorem errW_some (c : Int) : errW (some c) = .iface 0 (.int .i64 c) := rfl

-- the values' own types

end Go.Proofs.Ytahmpmlbonpabaa.PTailF
