/- The one pure statement that is left of BitmapTurns: laid by wip/tools/grow.py. -/
import Derived.Test.YtahmpmlbonpabaaDoorPBitmapTurnsx11
namespace Go.Proofs.YtahmpmlbonpabaaDoor.PBitmapTurns
open Go.RowKit Go.Proofs.YtahmpmlbonpabaaDoorW.PrintWords
def quarrylaw04_BitmapTurns.Pure : Prop := ∀ (a0_0 : Int) (l0_1 : List Int), ((Lit.int .i64 a0_0).wf = true) → (l0_1.length ≤ maxLen ∧ l0_1.length * 8 ≤ 140737488351232 ∧ ∀ x22 ∈ l0_1, (Lit.int .u64 x22).wf = true) → ∃ k, quarrylaw04_BitmapTurns.f k a0_0 l0_1 = some true
end Go.Proofs.YtahmpmlbonpabaaDoor.PBitmapTurns
