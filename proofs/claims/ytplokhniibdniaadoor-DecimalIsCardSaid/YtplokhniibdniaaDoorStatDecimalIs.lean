/- The one pure statement that is left of DecimalIs: laid by wip/tools/grow.py. -/
import Derived.Test.YtplokhniibdniaaDoorPDecimalIsx5
namespace Go.Proofs.YtplokhniibdniaaDoor.PDecimalIs
open Go.RowKit Go.Proofs.YtplokhniibdniaaDoorW.PrintWords
def quarrylaw11_DecimalIs.Pure : Prop := ∀ (a0 : ByteArray), (a0.size ≤ 140737488351232) → ∃ k, quarrylaw11_DecimalIs.f k a0 = some true
end Go.Proofs.YtplokhniibdniaaDoor.PDecimalIs
