/- Go's order on texts, as the printed functions tell it: the walk's rules for >, <= and >= by bytesLess alone. -/
import Derived.Laws.Strings
namespace Go.Proofs.YtkjmbibnfohkjaaDoor
open Go
theorem bytesLess_turn : ∀ x y : List UInt8, (!(Op.bytesLess x y || x == y)) = Op.bytesLess y x
  | [], [] => by simp [Op.bytesLess]
  | [], b :: y => by simp [Op.bytesLess]
  | a :: x, [] => by simp [Op.bytesLess]
  | a :: x, b :: y => by
    have ih := bytesLess_turn x y
    have h1 : ((a :: x : List UInt8) == b :: y) = (a == b && x == y) := rfl
    rw [h1]
    simp only [Op.bytesLess]
    rcases Nat.lt_trichotomy a.toNat b.toNat with h | h | h
    · have h2 : a < b := h
      have h3 : ¬ b < a := by rw [UInt8.lt_iff_toNat_lt]; omega
      have h4 : (b == a) = false := by
        rw [beq_eq_false_iff_ne]
        rintro rfl
        omega
      simp [h2, h3, h4]
    · obtain rfl : a = b := UInt8.toNat_inj.1 h
      have h2 : ¬ a < a := by rw [UInt8.lt_iff_toNat_lt]; omega
      simp only [h2, decide_false, Bool.false_or, beq_self_eq_true, Bool.true_and]
      exact ih
    · have h2 : b < a := h
      have h3 : ¬ a < b := by rw [UInt8.lt_iff_toNat_lt]; omega
      have h4 : (a == b) = false := by
        rw [beq_eq_false_iff_ne]
        rintro rfl
        omega
      simp [h2, h3, h4]
theorem bytesLess_turn' (x y : List UInt8) : (Op.bytesLess x y || x == y) = !Op.bytesLess y x := by rw [← bytesLess_turn x y, Bool.not_not]
@[go_sem] theorem binOp_string_gtr_by (t : TypeId) (a b : ByteArray) : binOp .gtr t (.string a) (.string b) = pure (.bool (Op.bytesLess b.toList a.toList)) := by
  rw [← bytesLess_turn]
  rfl
@[go_sem] theorem binOp_string_leq_by (t : TypeId) (a b : ByteArray) : binOp .leq t (.string a) (.string b) = pure (.bool !(Op.bytesLess b.toList a.toList)) := by
  rw [← bytesLess_turn']
  rfl
@[go_sem] theorem binOp_string_geq_by (t : TypeId) (a b : ByteArray) : binOp .geq t (.string a) (.string b) = pure (.bool !(Op.bytesLess a.toList b.toList)) := rfl
end Go.Proofs.YtkjmbibnfohkjaaDoor
