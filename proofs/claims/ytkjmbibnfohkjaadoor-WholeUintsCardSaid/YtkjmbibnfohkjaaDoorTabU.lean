/- What the row of WholeUints asks of the listed package-level variables, as the walks use it; and a world for the witness. Laid by wip/tools/tabs.py. -/
import Derived.Test.YtkjmbibnfohkjaaDoorRows
import Derived.Lib.LaidTab
import Derived.LaidSub
import Derived.Below
import Derived.Deep.Draws
import Derived.WalkSmall
import Derived.KernelRfl
import Derived.Lib.ItoaNum
namespace Go.Proofs.YtkjmbibnfohkjaaDoor
open Go.RowKit
set_option linter.unusedVariables false
/-- The listed variables read as laid, as far as the walks ask. -/
structure TabW (w : World) : Prop where
  ok : True
  lp : 0 < w.heap.size
  p10 : Lib.TabIs Tryd.prog w "internal/strconv.uint64pow10" .u64 Lib.pow10Tab
theorem below_drewN_ (w : World) : ∀ n, Below w.heap.size w (w.drewN n)
  | 0 => Below.refl _ _
  | n + 1 => by
    exact (below_drewN_ w n).drew
theorem gPow : Tryd.prog.globalNamed "internal/strconv.uint64pow10" = some 0 := by kernel_rfl
theorem TabW.below {w w' : World} (h : TabW w) (hb : Below w.heap.size w w') : TabW w' :=
  ⟨trivial, Nat.lt_of_lt_of_le h.lp hb.size, var?_below hb gPow h.lp h.p10⟩
theorem TabW.drewN {w : World} (h : TabW w) (n : Nat) : TabW (w.drewN n) := h.below (below_drewN_ w n)
theorem TabW.of_laid {W : World} (hL : laidMetH Tryd.prog Rows.wholeUintsRow.laid W) : TabW W := by
  have h1 : laidMetH Tryd.prog [("internal/strconv.uint64pow10", Rows.laid_internal_strconv_uint64pow10)] W := by
    have h := hL.filter (fun x => x.1 == "internal/strconv.uint64pow10")
    rw [show (Rows.wholeUintsRow.laid).filter (fun x => x.1 == "internal/strconv.uint64pow10") = [("internal/strconv.uint64pow10", Rows.laid_internal_strconv_uint64pow10)] from by kernel_rfl] at h
    exact h
  have gType : (Tryd.prog.globals[0]?).map (·.type) = some 125 := by kernel_rfl
  have hp : Lib.TabIs Tryd.prog W "internal/strconv.uint64pow10" .u64 Lib.pow10Tab :=
    Lib.tabIs_of_head (rest := []) gPow gType Tryd.underlying125 Tryd.underlying22 (by kernel_rfl) (by kernel_rfl) h1
  have hc := hp.cell gPow 0 (by decide)
  exact ⟨trivial, World.block_lt_of_cell? W ⟨0, 0, none⟩ hc, hp⟩
/-- A datum's cells, one behind the other. -/
def flatD : Nat → DataW Unit → List Value
  | 0, _ => []
  | _ + 1, .lit (.int k z) => [.int k z]
  | n + 1, .agg ps => ps.flatMap (flatD n)
  | _, _ => []
def layAt (g : Nat) (d : DataW Unit) (h : Array Obj) : Array Obj := h.modify g fun
  | .cells _ t fr => .cells (flatD 3 d).toArray t fr
  | o => o
/-- A world for the witness. -/
noncomputable def TabW.laidWorld (os : Os) : World :=
  { World.holding Tryd.prog os ⟨#[], #[], []⟩ with heap := layAt 1 Rows.laid_math_bits_deBruijn32tab (layAt 2 Rows.laid_math_bits_deBruijn64tab (layAt 0 Rows.laid_internal_strconv_uint64pow10 (layAt 5 Rows.laid_unicode_utf8_acceptRanges (layAt 4 Rows.laid_unicode_utf8_first ((World.holding Tryd.prog os ⟨#[], #[], []⟩).heap))))) }
end Go.Proofs.YtkjmbibnfohkjaaDoor
