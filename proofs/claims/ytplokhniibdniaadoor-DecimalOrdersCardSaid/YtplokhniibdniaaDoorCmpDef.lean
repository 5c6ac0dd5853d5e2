/- What Cmp tells. Plain Lean. -/
import Derived.Test.YtplokhniibdniaaDoorFmDef
import Derived.Lib.Bytealg
import Derived.Shelf.Small.Strs
namespace Go.Proofs.YtplokhniibdniaaDoor.Dec
open Go.RowKit Go.Proofs.YtplokhniibdniaaDoorW.PrintWords Go.Proofs.YtplokhniibdniaaDoorW.PrintLast Go.Proofs.YtplokhniibdniaaDoorW.PrintMore

def sg (n : Bool) (s : ByteArray) : Int := if s.size = 0 then 0 else if n = true then -1 else 1
def cm (a b : Int) : Int := if a < b then -1 else if a > b then 1 else 0
theorem less_irrefl : ∀ x : List UInt8, Op.bytesLess x x = false
  | [] => rfl
  | a :: x => by
    have : ¬ a < a := by rw [UInt8.lt_iff_toNat_lt]; omega
    simp [Op.bytesLess, this, less_irrefl x]
theorem compare_less : ∀ x y : List UInt8, Lib.compareBytes x y = if Op.bytesLess y x = true then 1 else if Op.bytesLess x y = true then -1 else 0
  | [], [] => rfl
  | [], b :: y => rfl
  | a :: x, [] => rfl
  | a :: x, b :: y => by
    have ih := compare_less x y
    simp only [Lib.compareBytes, Op.bytesLess]
    rcases Nat.lt_trichotomy a.toNat b.toNat with h | h | h
    · have h2 : a < b := h
      have h3 : ¬ b < a := by rw [UInt8.lt_iff_toNat_lt]; omega
      have h4 : (b == a) = false := by
        rw [beq_eq_false_iff_ne]
        rintro rfl
        omega
      simp [h2, h3, h4]
    · obtain rfl : a = b := UInt8.toNat_inj.1 h
      have h2 : ¬ a < a := by rw [UInt8.lt_iff_toNat_lt]; omega
      simp only [h2, decide_false, Bool.false_or, beq_self_eq_true, Bool.true_and, if_false]
      exact ih
    · have h2 : b < a := h
      have h3 : ¬ a < b := by rw [UInt8.lt_iff_toNat_lt]; omega
      simp [h2, h3]

/-- What Cmp tells. -/
def cmpS (na : Bool) (sa : ByteArray) (ea : Int) (nb : Bool) (sb : ByteArray) (eb : Int) : Int × Int :=
  if (fm sa ea && fm sb eb) = false then (0, 1)
  else if sg na sa ≠ sg nb sb ∨ sg na sa = 0 then (cm (sg na sa) (sg nb sb), 0)
  else (sg na sa * (if cm ((sa.size : Int) + ea) ((sb.size : Int) + eb) = 0 then Lib.compareBytes sa.data.toList sb.data.toList else cm ((sa.size : Int) + ea) ((sb.size : Int) + eb)), 0)

theorem sg_vals (n : Bool) (s : ByteArray) : sg n s = 0 ∨ sg n s = 1 ∨ sg n s = -1 := by
  unfold sg
  split
  · exact .inl rfl
  · cases n
    · exact .inr (.inl rfl)
    · exact .inr (.inr rfl)
theorem cm_vals (a b : Int) : cm a b = 0 ∨ cm a b = 1 ∨ cm a b = -1 := by
  unfold cm
  split
  · exact .inr (.inr rfl)
  · split
    · exact .inr (.inl rfl)
    · exact .inl rfl
theorem cb_vals (x y : List UInt8) : Lib.compareBytes x y = 0 ∨ Lib.compareBytes x y = 1 ∨ Lib.compareBytes x y = -1 := by
  rw [compare_less]
  split
  · exact .inr (.inl rfl)
  · split
    · exact .inr (.inr rfl)
    · exact .inl rfl

theorem cb_self (x : List UInt8) : Lib.compareBytes x x = 0 := by
  rw [compare_less, less_irrefl]
  rfl
theorem cmp_self (n : Bool) (s : ByteArray) (e : Int) (h : fm s e = true) : cmpS n s e n s e = (0, 0) := by
  unfold cmpS
  rw [h, if_neg (by decide)]
  by_cases hz : sg n s = 0
  · rw [if_pos (.inr hz)]
    unfold cm
    rw [if_neg (by omega), if_neg (by omega)]
  · rw [if_neg (fun h' => h'.elim (fun g => g rfl) hz)]
    have hc : cm ((s.size : Int) + e) ((s.size : Int) + e) = 0 := by
      unfold cm
      rw [if_neg (by omega), if_neg (by omega)]
    rw [if_pos hc, cb_self, Int.mul_zero]
end Go.Proofs.YtplokhniibdniaaDoor.Dec
