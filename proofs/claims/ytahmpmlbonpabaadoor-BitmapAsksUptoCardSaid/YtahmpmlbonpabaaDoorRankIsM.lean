/- words.Rank in the form of a call that may make memory (so that the printed walks name the world behind it). -/
import Derived.Test.YtahmpmlbonpabaaDoorRankIs
namespace Go.Proofs.YtahmpmlbonpabaaDoor
open Go.RowKit Go.Proofs.YtahmpmlbonpabaaDoorW.PrintWords Go.Proofs.YtahmpmlbonpabaaDoorW.PrintLast Go.Proofs.YtahmpmlbonpabaaDoorW.PrintMore
def words_RankM.f (a0 a1 : Int) : Option Int := words_Rank.f a0 a1
theorem words_RankM.calls (a0 a1 : Int) (r : Int) (w : World) (h : words_RankM.f a0 a1 = some r) :
    Calls Tryd.prog 46 #[.int .u64 a0, .int .i64 a1] w fun e w' => e = .returned (.int .i64 r) ∧ Below w.heap.size w w' := by
  refine (words_Rank.calls a0 a1 r w h).mono ?_
  rintro e w' ⟨rfl, hd⟩
  exact ⟨rfl, hd.below⟩
end Go.Proofs.YtahmpmlbonpabaaDoor
