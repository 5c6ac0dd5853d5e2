/- The one pure statement that is left of DecimalReads: laid by wip/tools/grow.py. -/
import Derived.Test.YtplokhniibdniaaDoorPDecimalReadsx5
namespace Go.Proofs.YtplokhniibdniaaDoor.PDecimalReads
open Go.RowKit Go.Proofs.YtplokhniibdniaaDoorW.PrintWords
def quarrylaw11_DecimalReads.Pure : Prop := ∀ (a0 : ByteArray) (a1 : Int), (a0.size ≤ 140737488351232) → ((Lit.int .i64 a1).wf = true) → ∃ k, quarrylaw11_DecimalReads.f k a0 a1 = some true
end Go.Proofs.YtplokhniibdniaaDoor.PDecimalReads
