/- What the row of WholeOnce asks of the listed package-level variables, as the walks use it; and a world for the witness. Laid by wip/tools/tabs.py. -/
import Derived.Test.YtkjmbibnfohkjaaDoorRows
import Derived.Lib.LaidTab
import Derived.LaidSub
import Derived.Below
import Derived.Deep.Draws
import Derived.KernelRfl
namespace Go.Proofs.YtkjmbibnfohkjaaDoor
open Go.RowKit
set_option linter.unusedVariables false
/-- The listed variables read as laid, as far as the walks ask. -/
structure TabW (w : World) : Prop where
  ok : True
theorem below_drewN_ (w : World) : ∀ n, Below w.heap.size w (w.drewN n)
  | 0 => Below.refl _ _
  | n + 1 => by
    exact (below_drewN_ w n).drew
theorem TabW.below {w w' : World} (h : TabW w) (hb : Below w.heap.size w w') : TabW w' :=
  ⟨trivial⟩
theorem TabW.drewN {w : World} (h : TabW w) (n : Nat) : TabW (w.drewN n) := h.below (below_drewN_ w n)
theorem TabW.of_laid {W : World} (hL : laidMetH Tryd.prog Rows.wholeOnceRow.laid W) : TabW W := by
  exact ⟨trivial⟩
/-- A datum's cells, one behind the other. -/
def flatD : Nat → DataW Unit → List Value
  | 0, _ => []
  | _ + 1, .lit (.int k z) => [.int k z]
  | n + 1, .agg ps => ps.flatMap (flatD n)
  | _, _ => []
def layAt (g : Nat) (d : DataW Unit) (h : Array Obj) : Array Obj := h.modify g fun
  | .cells _ t fr => .cells (flatD 3 d).toArray t fr
  | o => o
/-- A world for the witness. -/
noncomputable def TabW.laidWorld (os : Os) : World :=
  { World.holding Tryd.prog os ⟨#[], #[], []⟩ with heap := layAt 5 Rows.laid_unicode_utf8_acceptRanges (layAt 4 Rows.laid_unicode_utf8_first ((World.holding Tryd.prog os ⟨#[], #[], []⟩).heap)) }
end Go.Proofs.YtkjmbibnfohkjaaDoor
