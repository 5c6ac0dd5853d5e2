/- The one pure statement that is left of BitmapLimits: laid by wip/tools/grow.py. -/
import Derived.Test.YtahmpmlbonpabaaPBitmapLimitsx4
namespace Go.Proofs.Ytahmpmlbonpabaa.PBitmapLimits
open Go.RowKit Go.Proofs.YtahmpmlbonpabaaW.PrintWords
def quarrylaw04_BitmapLimits.Pure : Prop := ∃ k, quarrylaw04_BitmapLimits.f k = some true
end Go.Proofs.Ytahmpmlbonpabaa.PBitmapLimits
