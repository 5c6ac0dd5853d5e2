/- The one pure statement that is left of WholeBack: laid by wip/tools/grow.py. -/
import Derived.Test.YtkjmbibnfohkjaaDoorPWholeBackx1
namespace Go.Proofs.YtkjmbibnfohkjaaDoor.PWholeBack
open Go.RowKit Go.Proofs.YtkjmbibnfohkjaaDoorW.PrintWords
def quarrylaw12_WholeBack.Pure : Prop := ∀ (a0 : Int) (a1 : Int), ((Lit.int .i64 a0).wf = true) → ((Lit.int .u64 a1).wf = true) → ∃ k, quarrylaw12_WholeBack.f k a0 a1 = some true
end Go.Proofs.YtkjmbibnfohkjaaDoor.PWholeBack
