/- The one pure statement that is left of DecimalCompares: laid by wip/tools/grow.py. -/
import Derived.Test.YtplokhniibdniaaPDecimalComparesx4
namespace Go.Proofs.Ytplokhniibdniaa.PDecimalCompares
open Go.RowKit Go.Proofs.YtplokhniibdniaaW.PrintWords
def quarrylaw11_DecimalCompares.Pure : Prop := ∀ (a0_0 : Bool) (a0_1 : ByteArray) (a0_2 : Int) (a1_0 : Bool) (a1_1 : ByteArray) (a1_2 : Int), (a0_1.size ≤ 140737488351232) → ((Lit.int .i64 a0_2).wf = true) → (a1_1.size ≤ 140737488351232) → ((Lit.int .i64 a1_2).wf = true) → ∃ k, quarrylaw11_DecimalCompares.f k a0_0 a0_1 a0_2 a1_0 a1_1 a1_2 = some true
end Go.Proofs.Ytplokhniibdniaa.PDecimalCompares
