/- What the rows' list of package-level variables gives: the table of math/bits.TrailingZeros64 reads as its initialiser lays it; and that this stays, whatever new memory is made. -/
import Derived.Test.YtahmpmlbonpabaaDoorRows
import Derived.Test.YtahmpmlbonpabaaDoorTz
import Derived.Lib.LaidTab
import Derived.Below
import Derived.Deep.Draws
namespace Go.Proofs.YtahmpmlbonpabaaDoor
open Go.RowKit

/-- The listed variables read as laid. -/
structure TabW (w : World) : Prop where
  lt : 0 < w.heap.size
  tz : TzTab w
theorem TabW.below {w w' : World} (h : TabW w) (hb : Below w.heap.size w w') : TabW w' :=
  ⟨Nat.lt_of_lt_of_le h.lt hb.size, fun j hj => (hb.cell (p := ⟨0, j, none⟩) h.lt).trans (h.tz j hj)⟩
theorem below_drewN_ (w : World) : ∀ n, Below w.heap.size w (w.drewN n)
  | 0 => Below.refl _ _
  | n + 1 => by
    exact (below_drewN_ w n).drew
theorem TabW.drewN {w : World} (h : TabW w) (n : Nat) : TabW (w.drewN n) := h.below (below_drewN_ w n)
theorem TabW.of_laid {W : World} (hL : laidMetH Tryd.prog [("math/bits.deBruijn64tab", Rows.laid_math_bits_deBruijn64tab)] W) : TabW W := by
  have gTab : Tryd.prog.globalNamed "math/bits.deBruijn64tab" = some 0 := by kernel_rfl
  have gType : (Tryd.prog.globals[0]?).map (·.type) = some 70 := by kernel_rfl
  have h : Lib.TabIs Tryd.prog W "math/bits.deBruijn64tab" .u8 (Lib.deBruijn64tab.map (fun n : Nat => (n : Int))) :=
    Lib.tabIs_of_head (rest := []) gTab gType Tryd.underlying70 Tryd.underlying5 (by kernel_rfl) (by kernel_rfl) hL
  have hc : TzTab W := by
    intro j hj
    have := h.cell gTab j (by rw [List.length_map]; exact hj)
    rw [this, List.getD_eq_getElem?_getD, List.getElem?_map, List.getElem?_eq_getElem hj, List.getD_eq_getElem?_getD, List.getElem?_eq_getElem hj]
    rfl
  exact ⟨World.block_lt_of_cell? W ⟨0, 0, none⟩ (hc 0 (by decide)), hc⟩
/-- A world for the witness. -/
noncomputable def TabW.laidWorld (os : Os) : World :=
  { World.holding Tryd.prog os ⟨#[], #[], []⟩ with heap := (World.holding Tryd.prog os ⟨#[], #[], []⟩).heap.modify 0 fun
      | .cells _ t frozen => .cells (Lib.deBruijn64tab.map (fun n : Nat => Value.int .u8 (n : Int))).toArray t frozen
      | o => o }
end Go.Proofs.YtahmpmlbonpabaaDoor
