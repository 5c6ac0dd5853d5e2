/- The one pure statement that is left of BitmapJoins: laid by wip/tools/grow.py. -/
import Derived.Test.YtahmpmlbonpabaaDoorPBitmapJoinsx11
namespace Go.Proofs.YtahmpmlbonpabaaDoor.PBitmapJoins
open Go.RowKit Go.Proofs.YtahmpmlbonpabaaDoorW.PrintWords
def quarrylaw04_BitmapJoins.Pure : Prop := ∀ (a0_0 : Int) (l0_1 : List Int) (a1_0 : Int) (l1_1 : List Int), ((Lit.int .i64 a0_0).wf = true) → (l0_1.length ≤ maxLen ∧ l0_1.length * 8 ≤ 140737488351232 ∧ ∀ x22 ∈ l0_1, (Lit.int .u64 x22).wf = true) → ((Lit.int .i64 a1_0).wf = true) → (l1_1.length ≤ maxLen ∧ l1_1.length * 8 ≤ 140737488351232 ∧ ∀ x22 ∈ l1_1, (Lit.int .u64 x22).wf = true) → ∃ k, quarrylaw04_BitmapJoins.f k a0_0 l0_1 a1_0 l1_1 = some true
end Go.Proofs.YtahmpmlbonpabaaDoor.PBitmapJoins
