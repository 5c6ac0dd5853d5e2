/- The one pure statement that is left of WholeInts: laid by wip/tools/grow.py. -/
import Derived.Test.YtkjmbibnfohkjaaDoorPWholeIntsx4
namespace Go.Proofs.YtkjmbibnfohkjaaDoor.PWholeInts
open Go.RowKit Go.Proofs.YtkjmbibnfohkjaaDoorW.PrintWords
def quarrylaw12_WholeInts.Pure : Prop := ∀ (a0 : ByteArray), (a0.size ≤ 140737488351232) → ∃ k, quarrylaw12_WholeInts.f k a0 = some true
end Go.Proofs.YtkjmbibnfohkjaaDoor.PWholeInts
