/- The one pure statement that is left of BitmapAsks: laid by wip/tools/grow.py. -/
import Derived.Test.YtahmpmlbonpabaaDoorPBitmapAsksx10
namespace Go.Proofs.YtahmpmlbonpabaaDoor.PBitmapAsks
open Go.RowKit Go.Proofs.YtahmpmlbonpabaaDoorW.PrintWords
def quarrylaw04_BitmapAsks.Pure : Prop := ∀ (a0_0 : Int) (l0_1 : List Int) (a1 : Int) (a2 : Int), ((Lit.int .i64 a0_0).wf = true) → (l0_1.length ≤ maxLen ∧ l0_1.length * 8 ≤ 140737488351232 ∧ ∀ x22 ∈ l0_1, (Lit.int .u64 x22).wf = true) → ((Lit.int .i64 a1).wf = true) → ((Lit.int .i64 a2).wf = true) → ∃ k, quarrylaw04_BitmapAsks.f k a0_0 l0_1 a1 a2 = some true
end Go.Proofs.YtahmpmlbonpabaaDoor.PBitmapAsks
