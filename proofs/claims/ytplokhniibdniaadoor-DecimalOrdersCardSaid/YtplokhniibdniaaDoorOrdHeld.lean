/- DecimalOrders: what the three arguments' cells hold all along. -/
import Derived.Test.YtplokhniibdniaaDoorDecimalOrdersOCmpIs
import Derived.Test.YtplokhniibdniaaDoorDecimalOrdersOOfIs
import Derived.WalkKit
namespace Go.Proofs.YtplokhniibdniaaDoor.PDecimalOrders
open Go.RowKit Go.Proofs.YtplokhniibdniaaDoorW.PrintWords Go.Proofs.YtplokhniibdniaaDoorW.PrintLast Go.Proofs.YtplokhniibdniaaDoorW.PrintMore Go.Proofs.YtplokhniibdniaaDoor.Dec

structure Held (W0 W : World) (A B C : Array Value) : Prop where
  a : W.heap[W0.heap.size]? = some (.cells A 23 (0, 0))
  b : W.heap[W0.heap.size + 1]? = some (.cells B 23 (0, 0))
  c : W.heap[W0.heap.size + 1 + 1]? = some (.cells C 23 (0, 0))
  t : TabW W
  r : Below W0.heap.size W0 W
theorem Held.below {W0 W W' : World} {A B C : Array Value} (h : Held W0 W A B C) (k : Below W.heap.size W W') : Held W0 W' A B C :=
  ⟨blk_below h.a k, blk_below h.b k, blk_below h.c k, TabW.below h.t k, below_step h.r k⟩
theorem Held.start {W : World} (hT : TabW W) (A B C : Array Value) : Held W (((W.alloc (.cells A 23)).alloc (.cells B 23)).alloc (.cells C 23)) A B C := by
  have b1 := below_alloc (Below.refl W.heap.size W) (o := .cells A 23)
  have b2 := below_alloc b1 (o := .cells B 23)
  have b3 := below_alloc b2 (o := .cells C 23)
  refine ⟨blk_alloc (blk_alloc (blk_new W _) _) _, blk_alloc ?_ _, ?_, TabW.below hT b3, b3⟩
  · have := blk_new (W.alloc (.cells A 23)) (.cells B 23)
    rwa [World.size_alloc] at this
  · have := blk_new ((W.alloc (.cells A 23)).alloc (.cells B 23)) (.cells C 23)
    rwa [World.size_alloc, World.size_alloc] at this
theorem Held.drewN {W0 W : World} {A B C : Array Value} (h : Held W0 W A B C) (n : Nat) : Held W0 (W.drewN n) A B C :=
  ⟨h.a, h.b, h.c, TabW.drewN h.t n, pw_below_drewN h.r n⟩
theorem Held.flip {W0 W : World} {A B C : Array Value} (h : Held W0 W A B C) (hT : TabW W0) (u v : Value) :
    Held W0 ((W.setCell ⟨W0.heap.size, 0, none⟩ u).setCell ⟨W0.heap.size + 1, 0, none⟩ v).drew (A.setIfInBounds 0 u) (B.setIfInBounds 0 v) C := by
  have r : Below W0.heap.size W0 ((W.setCell ⟨W0.heap.size, 0, none⟩ u).setCell ⟨W0.heap.size + 1, 0, none⟩ v).drew :=
    pw_below_drewN (below_set (below_set h.r (Nat.le_refl _)) (Nat.le_add_right _ 1)) 1
  refine ⟨?_, ?_, ?_, TabW.below hT r, r⟩
  · exact blk_drew (blk_far (blk_set h.a 0 u) (p := ⟨W0.heap.size + 1, 0, none⟩) (by show W0.heap.size ≠ W0.heap.size + 1; omega) v)
  · exact blk_drew (blk_set (blk_far h.b (p := ⟨W0.heap.size, 0, none⟩) (by show W0.heap.size + 1 ≠ W0.heap.size; omega) u) 0 v)
  · exact blk_drew (blk_far (blk_far h.c (p := ⟨W0.heap.size, 0, none⟩) (by show W0.heap.size + 1 + 1 ≠ W0.heap.size; omega) u) (p := ⟨W0.heap.size + 1, 0, none⟩) (by show W0.heap.size + 1 + 1 ≠ W0.heap.size + 1; omega) v)
end Go.Proofs.YtplokhniibdniaaDoor.PDecimalOrders
