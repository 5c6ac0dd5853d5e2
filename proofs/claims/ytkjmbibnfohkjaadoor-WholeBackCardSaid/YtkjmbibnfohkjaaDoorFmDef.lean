/- Is it a decimal in its one form? Plain Lean. -/
import Derived.Test.YtkjmbibnfohkjaaDoorDecMore
namespace Go.Proofs.YtkjmbibnfohkjaaDoor.Dec
open Go.RowKit Go.Proofs.YtkjmbibnfohkjaaDoorW.PrintWords Go.Proofs.YtkjmbibnfohkjaaDoorW.PrintLast Go.Proofs.YtkjmbibnfohkjaaDoorW.PrintMore

theorem i64_small {i : Int} (h0 : -4611686018427387904 ≤ i) (h1 : i < 4611686018427387904) : wrap64 i = i := by
  unfold wrap64
  omega

def digsFrom (s : ByteArray) (i : Nat) : Nat → Bool
  | 0 => true
  | d + 1 => isDig (bt s i) && digsFrom s (i + 1) d
def ends (s : ByteArray) (e : Int) : Bool := !decide (bt s 0 = 48) && (!decide (bt s ((s.size : Int) - 1) = 48) && (decide (-1073741824 ≤ e) && decide (e ≤ 1073741824)))
/-- Is it a decimal in its one form? -/
def fm (s : ByteArray) (e : Int) : Bool := if s.size = 0 then e == 0 else digsFrom s 0 s.size && ends s e

theorem dig_mod9 (c : Int) (h0 : 0 ≤ c) (h1 : c ≤ 255) : ((c - 48) % 256 > 9) ↔ isDig c = false := by
  unfold isDig
  rw [Bool.and_eq_false_iff]
  simp
  omega

theorem toList_nil (s : ByteArray) : s.toList = ([] : List UInt8) ↔ s.size = 0 := by
  rw [ByteArray.toList_eq, ← List.length_eq_zero_iff, Array.length_toList]
  exact Iff.rfl

theorem fm_exp {s : ByteArray} {e : Int} (h : fm s e = true) : -1073741824 ≤ e ∧ e ≤ 1073741824 := by
  unfold fm ends at h
  by_cases hz : s.size = 0
  · rw [if_pos hz] at h
    have : e = 0 := by simpa using h
    omega
  · rw [if_neg hz] at h
    simp at h
    exact ⟨h.2.2.2.1, h.2.2.2.2⟩
end Go.Proofs.YtkjmbibnfohkjaaDoor.Dec
