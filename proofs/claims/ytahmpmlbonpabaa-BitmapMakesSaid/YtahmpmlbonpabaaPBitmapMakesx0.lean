/- The machine side of a statement, laid by the kit's print program, run by wip/tools/gprint.py: some functions' contracts are given, proved by hand. -/
import Derived.Test.YtahmpmlbonpabaaProg
import Derived.Below
import Derived.Deep.Draws
import Derived.Deep.AppendLies
import Derived.Maps.AppendAt
import Derived.OwnWalk
import Derived.Laws.BytesArg
import Derived.Laws.MakeOwn
import Derived.Laws.OwnMore
import Derived.Deep.OwnRows
import Derived.Tactics
import Derived.Lib.ConvBytes
import Derived.Laws.Slices
import Derived.WalkKit
import Derived.KernelRfl
import Derived.RowKit3
import Derived.Deep.LoopGhost
import Derived.Deep.QuietTactic
import Derived.BigQuiet
import Derived.WideLaws
import Derived.Deep.DeepCutAuto
import Derived.Deep.CutBlock
import Derived.Deep.RegionHeld3
import Derived.Laws.Rows
import Derived.Lib.AppendStr
import Derived.ArgAppend
import Derived.Laws.IdiomCopy
import Derived.OrdersHeld
import Derived.Laws.BitsLemmas
import Derived.RowKit
import Derived.Test.YtahmpmlbonpabaaGivenTail
import Derived.Test.YtahmpmlbonpabaaKeptI
import Derived.Test.YtahmpmlbonpabaaShort
import Derived.Test.YtahmpmlbonpabaaWWords
import Derived.Test.YtahmpmlbonpabaaWLast
import Derived.Test.YtahmpmlbonpabaaWTab
import Derived.Test.YtahmpmlbonpabaaWQPut
import Derived.Test.YtahmpmlbonpabaaWApart
import Derived.Test.YtahmpmlbonpabaaWArr
import Derived.Test.YtahmpmlbonpabaaWZeros
import Derived.Test.YtahmpmlbonpabaaWFoot
import Derived.Test.YtahmpmlbonpabaaWKept
import Derived.Test.YtahmpmlbonpabaaWShare
import Derived.Test.YtahmpmlbonpabaaWN
import Derived.Test.YtahmpmlbonpabaaWRepsOne
import Derived.Test.YtahmpmlbonpabaaWGuard
import Derived.Test.YtahmpmlbonpabaaWNEv
import Derived.Test.YtahmpmlbonpabaaWMore
namespace Go.Proofs.Ytahmpmlbonpabaa.PBitmapMakes
open Go.RowKit Go.Proofs.YtahmpmlbonpabaaW.PrintWords Go.Proofs.YtahmpmlbonpabaaW.PrintLast Go.Proofs.YtahmpmlbonpabaaW.PrintMore
attribute [local go_sem] max2_int min2_int max_two min_two max_three min_three max_four min_four   -- for this text's walks alone
set_option linter.unusedVariables false
set_option linter.unusedSimpArgs false



def errW : Option Int → Value
  | none => .nilIface
  | some c => .iface 0 (.int .i64 c)
theorem errW_none : errW none = .nilIface := rfl
theorem errW_some (c : Int) : errW (some c) = .iface 0 (.int .i64 c) := rfl

theorem info3 : (Try.prog.info? 3).map (fun i => (i.zero, i.size, i.bytes)) = some (some (.int .i64 0), 1, 8) := by kernel_rfl
theorem info4 : (Try.prog.info? 4).map (fun i => (i.zero, i.size, i.bytes)) = some (some (.bool false), 1, 1) := by kernel_rfl
theorem info35 : (Try.prog.info? 35).map (fun i => (i.zero, i.size, i.bytes)) = some (some (.int .u64 0), 1, 8) := by kernel_rfl
-- the values' own types

end Go.Proofs.Ytahmpmlbonpabaa.PBitmapMakes
