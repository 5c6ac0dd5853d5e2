/- What the loop of whole.Text holds: the digits of a number, written from behind into a row of 20 places. -/
import Derived.Test.YtkjmbibnfohkjaaDoorShelf
import Derived.Test.YtkjmbibnfohkjaaDoorWMore
import Derived.Lib.ItoaMem
import Derived.Lib.Hide
import Derived.Laws.IdiomStrings
import Derived.Laws.Concat
namespace Go.Proofs.YtkjmbibnfohkjaaDoor
open Go.RowKit Go.Shelf
/-- What the text's loop holds: the number that is left, the digits that stand, the cells of the row. -/
structure TextRow (w wr : World) (m x a : Nat) (tail : List UInt8) : Prop where
  len : a + tail.length = 20
  lt : x < 10 ^ a
  dig : Lib.decDigits m = if x = 0 then tail else Lib.decDigits x ++ tail
  old : ∀ j, j < 20 → (∃ c : Int, wr.cell? ⟨w.heap.size, j, none⟩ = some (.int .u8 c)) ∧ wr.frozen? ⟨w.heap.size, j, none⟩ = false
  row : ∀ (j : Nat) (hj : j < tail.length), wr.cell? ⟨w.heap.size, a + j, none⟩ = some (.int .u8 (tail[j].toNat : Int))
  below : Below w.heap.size w wr
theorem TextRow.start (w : World) (m : Nat) (h0 : m ≠ 0) (hm : m < 18446744073709551616) (t : TypeId) : TextRow w (w.alloc (.cells (Array.replicate 20 (.int .u8 0)) t)) m m 20 [] := by
  refine ⟨rfl, Nat.lt_of_lt_of_le hm (by decide), by rw [if_neg h0, List.append_nil], ?_, fun j hj => absurd hj (Nat.not_lt_zero _), (Below.refl _ w).alloc (Nat.le_refl _) _⟩
  intro j hj
  constructor
  · refine ⟨0, ?_⟩
    rw [World.cell?_alloc_new, Array.getElem?_replicate, if_pos hj]
  · exact World.frozen?_alloc_new _ _ _ _
theorem TextRow.pos {w wr : World} {m x a : Nat} {tail : List UInt8} (h : TextRow w wr m x a tail) (hx : x ≠ 0) : ∃ b, a = b + 1 ∧ b < 20 := by
  have h1 := h.lt
  have h2 := h.len
  cases a with
  | zero =>
    rw [Nat.pow_zero] at h1
    omega
  | succ b => exact ⟨b, rfl, by omega⟩
theorem TextRow.step {w wr : World} {m x b : Nat} {tail : List UInt8} (h : TextRow w wr m x (b + 1) tail) (hx : x ≠ 0) :
    TextRow w (wr.setCell ⟨w.heap.size, b, none⟩ (.int .u8 (48 + (x : Int) % 10))) m (x / 10) b (UInt8.ofNat (48 + x % 10) :: tail) := by
  obtain ⟨h1, h2, h3, h4, h5, h6⟩ := h
  have hb : b < 20 := by omega
  have e8 : ((UInt8.ofNat (48 + x % 10)).toNat : Int) = 48 + (x : Int) % 10 := by
    have e : (UInt8.ofNat (48 + x % 10)).toNat = (48 + x % 10) % 256 := rfl
    rw [e]
    omega
  have same : (wr.setCell ⟨w.heap.size, b, none⟩ (.int .u8 (48 + (x : Int) % 10))).cell? ⟨w.heap.size, b, none⟩ = some (.int .u8 (48 + (x : Int) % 10)) := by
    obtain ⟨c, hc⟩ := (h4 b hb).1
    exact World.cell?_setCell_same' _ _ _ (by rw [hc]; rfl)
  have other : ∀ j, j ≠ b → (wr.setCell ⟨w.heap.size, b, none⟩ (.int .u8 (48 + (x : Int) % 10))).cell? ⟨w.heap.size, j, none⟩ = wr.cell? ⟨w.heap.size, j, none⟩ := by
    intro j hj
    exact World.cell?_setCell_other _ _ _ _ (by simp)
  refine ⟨by rw [List.length_cons]; omega, ?_, ?_, ?_, ?_, h6.setCell (p := ⟨w.heap.size, b, none⟩) (Nat.le_refl _) _⟩
  · rw [Nat.pow_succ] at h2
    omega
  · rw [h3, if_neg hx, Lib.decDigits]
    by_cases h : x < 10
    · rw [dif_pos h, if_pos (by omega), show x % 10 = x from by omega]
      rfl
    · rw [dif_neg h, if_neg (by omega), List.append_assoc]
      rfl
  · intro j hj
    refine ⟨?_, by rw [World.frozen?_setCell]; exact (h4 j hj).2⟩
    by_cases e : j = b
    · subst e
      exact ⟨_, same⟩
    · rw [other j e]
      exact (h4 j hj).1
  · intro j hj
    cases j with
    | zero =>
      rw [Nat.add_zero, same]
      simp only [List.getElem_cons_zero]
      rw [e8]
    | succ j =>
      rw [other _ (by omega), show b + (j + 1) = b + 1 + j from by omega]
      simp only [List.getElem_cons_succ]
      exact h5 j (by simpa using hj)
/-- The row's end reads as the text. -/
theorem TextRow.reads {w wr : World} {m a : Nat} {tail : List UInt8} (h : TextRow w wr m 0 a tail) : tail = Lib.decDigits m ∧ a = 20 - (Lib.decDigits m).length ∧ (Lib.decDigits m).length ≤ 20 ∧
    (convert 88 9 (.slice (some ⟨w.heap.size, a, none⟩) (20 - a) (20 - a))).run Tryd.prog wr = .ok (.string ⟨(Lib.decDigits m).toArray⟩) wr := by
  obtain ⟨h1, h2, h3, h4, h5, h6⟩ := h
  rw [if_pos rfl] at h3
  subst h3
  refine ⟨rfl, by omega, by omega, ?_⟩
  have e := run_convert_bytes_back (P := Tryd.prog) wr 88 9 5 ⟨w.heap.size, a, none⟩ (20 - a) (Lib.decDigits m) (by kernel_rfl) (by kernel_rfl) (by kernel_rfl) (fun j hj => by
    rw [Lib.add_plain]
    exact h5 j hj)
  rw [show (Lib.decDigits m).length = 20 - a from by omega] at e
  exact e
theorem text_slice (B a : Nat) (ha : a < 20) : ∀ W, (Instr.sliceAt 87 (.pointer (some ⟨B, 0, none⟩)) (some (.int .i64 (a : Int))) none none).run Tryd.prog W = .ok (.slice (some ⟨B, a, none⟩) (20 - a) (20 - a)) W := fun W => by
  have hal : Tryd.prog.arrayLen 87 = 20 := by kernel_rfl
  have hel : Tryd.prog.elem 87 = 5 := by kernel_rfl
  rw [run_sliceAt_array_l W 87 ⟨B, 0, none⟩ (by rw [hal, hel]; kernel_rfl) .i64 (a : Int) (by omega) (by rw [hal]; omega), hel]
  simp [go_sem, slicedAt]
  omega
theorem text_minus (m : Nat) (hm : (Lib.decDigits m).length ≤ 20) : ∀ W, (Op.stringOp .add ⟨#[45]⟩ ⟨(Lib.decDigits m).toArray⟩).run Tryd.prog W = .ok (.string ⟨(45 :: Lib.decDigits m).toArray⟩) W := fun W => by
  have h := run_string_add_lists (P := Tryd.prog) W [45] (Lib.decDigits m) (by decide) (by omega)
  exact h
end Go.Proofs.YtkjmbibnfohkjaaDoor
