/- The machine side of a statement, laid by the kit's print program, run by wip/tools/gprint.py: some functions' contracts are given, proved by hand. -/
import Derived.Test.YtahmpmlbonpabaaDoorProg
import Derived.Below
import Derived.Deep.Draws
import Derived.Deep.AppendLies
import Derived.Maps.AppendAt
import Derived.OwnWalk
import Derived.Laws.BytesArg
import Derived.Laws.MakeOwn
import Derived.Laws.OwnMore
import Derived.Deep.OwnRows
import Derived.Tactics
import Derived.Lib.ConvBytes
import Derived.Laws.Slices
import Derived.WalkKit
import Derived.KernelRfl
import Derived.RowKit3
import Derived.Deep.LoopGhost
import Derived.Deep.QuietTactic
import Derived.BigQuiet
import Derived.WideLaws
import Derived.Deep.DeepCutAuto
import Derived.Deep.CutBlock
import Derived.Deep.RegionHeld3
import Derived.Laws.Rows
import Derived.Lib.AppendStr
import Derived.ArgAppend
import Derived.Laws.IdiomCopy
import Derived.OrdersHeld
import Derived.Laws.BitsLemmas
import Derived.RowKit
import Derived.Test.YtahmpmlbonpabaaDoorGivenWords
import Derived.Test.YtahmpmlbonpabaaDoorRankIsM
import Derived.Test.YtahmpmlbonpabaaDoorFnCall
import Derived.Test.YtahmpmlbonpabaaDoorGivenTail
import Derived.Test.YtahmpmlbonpabaaDoorKeptW
import Derived.Test.YtahmpmlbonpabaaDoorFnP
import Derived.Test.YtahmpmlbonpabaaDoorShort
import Derived.Test.YtahmpmlbonpabaaDoorWWords
import Derived.Test.YtahmpmlbonpabaaDoorWLast
import Derived.Test.YtahmpmlbonpabaaDoorWTab
import Derived.Test.YtahmpmlbonpabaaDoorWQPut
import Derived.Test.YtahmpmlbonpabaaDoorWApart
import Derived.Test.YtahmpmlbonpabaaDoorWArr
import Derived.Test.YtahmpmlbonpabaaDoorWZeros
import Derived.Test.YtahmpmlbonpabaaDoorWFoot
import Derived.Test.YtahmpmlbonpabaaDoorWKept
import Derived.Test.YtahmpmlbonpabaaDoorWShare
import Derived.Test.YtahmpmlbonpabaaDoorWN
import Derived.Test.YtahmpmlbonpabaaDoorWRepsOne
import Derived.Test.YtahmpmlbonpabaaDoorWGuard
import Derived.Test.YtahmpmlbonpabaaDoorWNEv
import Derived.Test.YtahmpmlbonpabaaDoorWMore
namespace Go.Proofs.YtahmpmlbonpabaaDoor.PBitmapJoins
open Go.RowKit Go.Proofs.YtahmpmlbonpabaaDoorW.PrintWords Go.Proofs.YtahmpmlbonpabaaDoorW.PrintLast Go.Proofs.YtahmpmlbonpabaaDoorW.PrintMore
attribute [local go_sem] max2_int min2_int max_two min_two max_three min_three max_four min_four   -- for this text's walks alone
set_option linter.unusedVariables false
set_option linter.unusedSimpArgs false



def errW : Option Int → Value
  | none => .nilIface
  | some c => .iface 0 (.int .i64 c)
theorem errW_none : errW none = .nilIface := rfl
theorem errW_some (c : Int) : errW (some c) = .iface 0 (.int .i64 c) := rfl

theorem info3 : (Tryd.prog.info? 3).map (fun i => (i.zero, i.size, i.bytes)) = some (some (.int .i64 0), 1, 8) := by kernel_rfl
theorem info4 : (Tryd.prog.info? 4).map (fun i => (i.zero, i.size, i.bytes)) = some (some (.bool false), 1, 1) := by kernel_rfl
theorem info43 : (Tryd.prog.info? 43).map (fun i => (i.zero, i.size, i.bytes)) = some (some (.int .u64 0), 1, 8) := by kernel_rfl
-- the values' own types

end Go.Proofs.YtahmpmlbonpabaaDoor.PBitmapJoins
