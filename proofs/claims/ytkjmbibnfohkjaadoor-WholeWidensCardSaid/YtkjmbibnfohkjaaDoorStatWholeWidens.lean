/- The one pure statement that is left of WholeWidens: laid by wip/tools/grow.py. -/
import Derived.Test.YtkjmbibnfohkjaaDoorPWholeWidensx2
namespace Go.Proofs.YtkjmbibnfohkjaaDoor.PWholeWidens
open Go.RowKit Go.Proofs.YtkjmbibnfohkjaaDoorW.PrintWords
def quarrylaw12_WholeWidens.Pure : Prop := ∀ (a0 : ByteArray), (a0.size ≤ 140737488351232) → ∃ k, quarrylaw12_WholeWidens.f k a0 = some true
end Go.Proofs.YtkjmbibnfohkjaaDoor.PWholeWidens
