/- The one pure statement that is left of DecimalSplits: laid by wip/tools/grow.py. -/
import Derived.Test.YtplokhniibdniaaDoorPDecimalSplitsx3
namespace Go.Proofs.YtplokhniibdniaaDoor.PDecimalSplits
open Go.RowKit Go.Proofs.YtplokhniibdniaaDoorW.PrintWords
def quarrylaw11_DecimalSplits.Pure : Prop := ∀ (a0 : ByteArray) (a1 : ByteArray), (a0.size ≤ 140737488351232) → (a1.size ≤ 140737488351232) → ∃ k, quarrylaw11_DecimalSplits.f k a0 a1 = some true
end Go.Proofs.YtplokhniibdniaaDoor.PDecimalSplits
