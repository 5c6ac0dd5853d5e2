/- The one pure statement that is left of DecimalLoose: laid by wip/tools/grow.py. -/
import Derived.Test.YtplokhniibdniaaDoorPDecimalLoosex3
namespace Go.Proofs.YtplokhniibdniaaDoor.PDecimalLoose
open Go.RowKit Go.Proofs.YtplokhniibdniaaDoorW.PrintWords
def quarrylaw11_DecimalLoose.Pure : Prop := ∀ (a0_0 : Bool) (a0_1 : ByteArray) (a0_2 : Int) (a1 : Int) (a2 : Int), (a0_1.size ≤ 140737488351232) → ((Lit.int .i64 a0_2).wf = true) → ((Lit.int .i64 a1).wf = true) → ((Lit.int .i64 a2).wf = true) → ∃ k, quarrylaw11_DecimalLoose.f k a0_0 a0_1 a0_2 a1 a2 = some true
end Go.Proofs.YtplokhniibdniaaDoor.PDecimalLoose
