/- The one pure statement that is left of WordsRanks: laid by wip/tools/grow.py. -/
import Derived.Test.YtjjnmpidlkjeiaaDoorPWordsRanksx1
namespace Go.Proofs.YtjjnmpidlkjeiaaDoor.PWordsRanks
open Go.RowKit Go.Proofs.YtjjnmpidlkjeiaaDoorW.PrintWords
def quarrylaw03_WordsRanks.Pure : Prop := ∀ (a0 : Int) (a1 : Int), ((Lit.int .u64 a0).wf = true) → ((Lit.int .i64 a1).wf = true) → ∃ k, quarrylaw03_WordsRanks.f k a0 a1 = some true
end Go.Proofs.YtjjnmpidlkjeiaaDoor.PWordsRanks
