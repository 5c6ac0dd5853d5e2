/- bitmap.tail in the form of a call that may make memory (so that the printed walks name the world behind it). -/
import Derived.Test.YtahmpmlbonpabaaDoorPTailFx1
namespace Go.Proofs.YtahmpmlbonpabaaDoor
open Go.RowKit Go.Proofs.YtahmpmlbonpabaaDoorW.PrintWords Go.Proofs.YtahmpmlbonpabaaDoorW.PrintLast Go.Proofs.YtahmpmlbonpabaaDoorW.PrintMore
def bitmap_tail.f (a0 : Int) : Option Int := PTailF.bitmap_tail.f a0
theorem bitmap_tail.calls (a0 : Int) (r : Int) (w : World) (h : bitmap_tail.f a0 = some r) :
    Calls Tryd.prog 50 #[.int .i64 a0] w fun e w' => e = .returned (.int .u64 r) ∧ Below w.heap.size w w' := by
  refine (PTailF.bitmap_tail.calls a0 r w h).mono ?_
  rintro e w' ⟨rfl, hd⟩
  exact ⟨rfl, hd.below⟩
end Go.Proofs.YtahmpmlbonpabaaDoor
