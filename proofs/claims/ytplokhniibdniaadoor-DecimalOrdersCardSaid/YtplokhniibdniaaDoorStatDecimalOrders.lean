/- The one pure statement that is left of DecimalOrders: laid by wip/tools/grow.py. -/
import Derived.Test.YtplokhniibdniaaDoorPDecimalOrdersx4
namespace Go.Proofs.YtplokhniibdniaaDoor.PDecimalOrders
open Go.RowKit Go.Proofs.YtplokhniibdniaaDoorW.PrintWords
def quarrylaw11_DecimalOrders.Pure : Prop := ∀ (a0_0 : Bool) (a0_1 : ByteArray) (a0_2 : Int) (a1_0 : Bool) (a1_1 : ByteArray) (a1_2 : Int) (a2_0 : Bool) (a2_1 : ByteArray) (a2_2 : Int), (a0_1.size ≤ 140737488351232) → ((Lit.int .i64 a0_2).wf = true) → (a1_1.size ≤ 140737488351232) → ((Lit.int .i64 a1_2).wf = true) → (a2_1.size ≤ 140737488351232) → ((Lit.int .i64 a2_2).wf = true) → quarrylaw11_DecimalOrders.f a0_0 a0_1 a0_2 a1_0 a1_1 a1_2 a2_0 a2_1 a2_2 = some true
end Go.Proofs.YtplokhniibdniaaDoor.PDecimalOrders
