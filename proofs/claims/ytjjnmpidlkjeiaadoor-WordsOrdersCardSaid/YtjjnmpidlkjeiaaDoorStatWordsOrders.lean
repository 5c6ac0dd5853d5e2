/- The one pure statement that is left of WordsOrders: laid by wip/tools/grow.py. -/
import Derived.Test.YtjjnmpidlkjeiaaDoorPWordsOrdersx1
namespace Go.Proofs.YtjjnmpidlkjeiaaDoor.PWordsOrders
open Go.RowKit Go.Proofs.YtjjnmpidlkjeiaaDoorW.PrintWords
def quarrylaw03_WordsOrders.Pure : Prop := ∀ (a0 : Int) (a1 : Int) (a2 : Int), ((Lit.int .u64 a0).wf = true) → ((Lit.int .i64 a1).wf = true) → ((Lit.int .i64 a2).wf = true) → ∃ k, quarrylaw03_WordsOrders.f k a0 a1 a2 = some true
end Go.Proofs.YtjjnmpidlkjeiaaDoor.PWordsOrders
