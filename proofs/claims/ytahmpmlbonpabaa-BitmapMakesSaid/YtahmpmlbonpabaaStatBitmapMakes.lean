/- The one pure statement that is left of BitmapMakes: laid by wip/tools/grow.py. -/
import Derived.Test.YtahmpmlbonpabaaPBitmapMakesx5
namespace Go.Proofs.Ytahmpmlbonpabaa.PBitmapMakes
open Go.RowKit Go.Proofs.YtahmpmlbonpabaaW.PrintWords
def quarrylaw04_BitmapMakes.Pure : Prop := ∀ (a0 : Int) (l1 : List Int) (a2_0 : Int) (l2_1 : List Int), ((Lit.int .i64 a0).wf = true) → (l1.length ≤ maxLen ∧ l1.length * 8 ≤ 140737488351232 ∧ ∀ x22 ∈ l1, (Lit.int .i64 x22).wf = true) → ((Lit.int .i64 a2_0).wf = true) → (l2_1.length ≤ maxLen ∧ l2_1.length * 8 ≤ 140737488351232 ∧ ∀ x23 ∈ l2_1, (Lit.int .u64 x23).wf = true) → ∃ k, quarrylaw04_BitmapMakes.f k a0 l1 a2_0 l2_1 = some true
end Go.Proofs.Ytahmpmlbonpabaa.PBitmapMakes
