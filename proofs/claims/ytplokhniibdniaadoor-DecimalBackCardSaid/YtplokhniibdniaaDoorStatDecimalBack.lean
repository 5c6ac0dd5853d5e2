/- The one pure statement that is left of DecimalBack: laid by wip/tools/grow.py. -/
import Derived.Test.YtplokhniibdniaaDoorPDecimalBackx3
namespace Go.Proofs.YtplokhniibdniaaDoor.PDecimalBack
open Go.RowKit Go.Proofs.YtplokhniibdniaaDoorW.PrintWords
def quarrylaw11_DecimalBack.Pure : Prop := ∀ (a0_0 : Bool) (a0_1 : ByteArray) (a0_2 : Int), (a0_1.size ≤ 140737488351232) → ((Lit.int .i64 a0_2).wf = true) → ∃ k, quarrylaw11_DecimalBack.f k a0_0 a0_1 a0_2 = some true
end Go.Proofs.YtplokhniibdniaaDoor.PDecimalBack
