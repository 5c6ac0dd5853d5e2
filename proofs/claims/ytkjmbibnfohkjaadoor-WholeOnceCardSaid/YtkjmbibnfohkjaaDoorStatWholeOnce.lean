/- The one pure statement that is left of WholeOnce: laid by wip/tools/grow.py. -/
import Derived.Test.YtkjmbibnfohkjaaDoorPWholeOncex3
namespace Go.Proofs.YtkjmbibnfohkjaaDoor.PWholeOnce
open Go.RowKit Go.Proofs.YtkjmbibnfohkjaaDoorW.PrintWords
def quarrylaw12_WholeOnce.Pure : Prop := ∀ (a0 : ByteArray), (a0.size ≤ 140737488351232) → ∃ k, quarrylaw12_WholeOnce.f k a0 = some true
end Go.Proofs.YtkjmbibnfohkjaaDoor.PWholeOnce
