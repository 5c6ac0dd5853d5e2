/- The one pure statement that is left of WholeUints: laid by wip/tools/grow.py. -/
import Derived.Test.YtkjmbibnfohkjaaDoorPWholeUintsx4
namespace Go.Proofs.YtkjmbibnfohkjaaDoor.PWholeUints
open Go.RowKit Go.Proofs.YtkjmbibnfohkjaaDoorW.PrintWords
def quarrylaw12_WholeUints.Pure : Prop := ∀ (a0 : ByteArray), (a0.size ≤ 140737488351232) → ∃ k, quarrylaw12_WholeUints.f k a0 = some true
end Go.Proofs.YtkjmbibnfohkjaaDoor.PWholeUints
