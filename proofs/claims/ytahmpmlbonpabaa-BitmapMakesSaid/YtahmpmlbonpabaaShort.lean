/- Facts that the printed walks hold behind a step, each in a word. -/
import Derived.Test.YtahmpmlbonpabaaWLast
import Derived.Test.YtahmpmlbonpabaaWMore
set_option linter.unusedVariables false
namespace Go.Proofs.Ytahmpmlbonpabaa
open Go.RowKit Go.Proofs.YtahmpmlbonpabaaW.PrintWords Go.Proofs.YtahmpmlbonpabaaW.PrintLast Go.Proofs.YtahmpmlbonpabaaW.PrintMore
theorem bb {w W w' : World} {g : Nat} {o : Obj} (B : Aside0 (w.heap[g]? = some o)) (hb : Below W.heap.size W w') (h : w.heap[g]? = some o → W.heap[g]? = some o := by (intro h_; (with_reducible repeat (first | refine blk_drewN ?_ _ | refine blk_drew ?_ | refine blk_alloc ?_ _)); exact h_)) : w'.heap[g]? = some o := blk_below (h B.out) hb
theorem bl {w W : World} {g : Nat} {o : Obj} (B : Aside0 (w.heap[g]? = some o)) (h : w.heap[g]? = some o → W.heap[g]? = some o := by (intro h_; (with_reducible repeat (first | refine blk_drewN ?_ _ | refine blk_drew ?_ | refine blk_alloc ?_ _)); exact h_)) : g < W.heap.size := blk_lt (h B.out)
theorem rb {α : Type} {d : Kd α} {e base : Nat} {w W w' : World} {ok : Nat → Prop} {v : Value} {xs : List α} (R : Aside0 (Kd.R d e w base ok v xs)) (hb : Below W.heap.size W w') (h : Kd.R d e w base ok v xs → Kd.R d e W base ok v xs := by (intro h_; (with_reducible repeat (first | apply Kd.R_alloc | apply Kd.R_drewN | apply Kd.R_drew)); exact h_)) : Kd.R d e w' base ok v xs := Kd.R_below (h R.out) hb
theorem bs {w0 w W w1 : World} (HB : Aside0 (Below w0.heap.size w0 w)) (hb : Below W.heap.size W w1) (h : Below w0.heap.size w0 w → Below w0.heap.size w0 W := by (intro h_; repeat (first | (with_reducible first | exact h_ | apply below_alloc | apply pw_below_drewN | apply below_drew1 | refine below_set ?_ (Aside0.out (by assumption))) | exact h_))) : Below w0.heap.size w0 w1 := below_step (h HB.out) hb
theorem bz {w0 w W : World} (HB : Aside0 (Below w0.heap.size w0 w)) (h : Below w0.heap.size w0 w → Below w0.heap.size w0 W := by (intro h_; repeat (first | (with_reducible first | exact h_ | apply below_alloc | apply pw_below_drewN | apply below_drew1 | refine below_set ?_ (Aside0.out (by assumption))) | exact h_))) : w0.heap.size ≤ W.heap.size := below_size (h HB.out)
end Go.Proofs.Ytahmpmlbonpabaa
