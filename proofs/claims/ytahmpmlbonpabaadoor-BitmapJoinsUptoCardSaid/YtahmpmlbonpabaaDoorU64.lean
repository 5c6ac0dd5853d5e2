/- Words of 64 bits: whole numbers of the kind u64 as bit vectors, and what Go's operations do to them. Plain Lean, no program. -/
import Derived.Laws.Bits64
import Derived.RowKit
namespace Go.Proofs.YtahmpmlbonpabaaDoor.U64
open Go.RowKit

/-- A number as 64 bits. -/
def B (x : Int) : BitVec 64 := BitVec.ofInt 64 x
/-- 64 bits as a number. -/
def I (b : BitVec 64) : Int := (b.toNat : Int)

theorem B_I (b : BitVec 64) : B (I b) = b := by
  unfold B I
  rw [BitVec.ofInt_natCast]
  simp
theorem wf_of {x : Int} (h : (Lit.int .u64 x).wf = true) : 0 ≤ x ∧ x < 18446744073709551616 := by
  have h' := h
  simp [Lit.wf, IntKind.min, IntKind.max, IntKind.bits, IntKind.signed] at h'
  omega
theorem back (r : BitVec 64) : IntKind.u64.wrap (r.toNat : Int) = I r := by
  rw [IntKind.wrap_u64]
  have := r.isLt
  unfold I
  omega
theorem xor_I (x y : Int) : bits .xor .u64 x y = I (B x ^^^ B y) := back _
theorem and_I (x y : Int) : bits .and .u64 x y = I (B x &&& B y) := back _
theorem or_I (x y : Int) : bits .or .u64 x y = I (B x ||| B y) := back _
theorem andNot_I (x y : Int) : bits .andNot .u64 x y = I (B x &&& ~~~ B y) := back _

theorem pow_cast (n : Nat) : ((2 : Int) ^ n) = ((2 ^ n : Nat) : Int) := by simp
theorem shr_I (a : BitVec 64) (n : Nat) : I a / 2 ^ n = I (a >>> n) := by
  unfold I
  rw [BitVec.toNat_ushiftRight, Nat.shiftRight_eq_div_pow, pow_cast]
  exact (Int.natCast_ediv _ _)

/-- Is the bit set? -/
theorem and_one (a : BitVec 64) : a &&& 1#64 = BitVec.setWidth 64 (BitVec.ofBool (a.getLsbD 0)) := by
  apply BitVec.eq_of_getLsbD_eq
  intro i hi
  simp [BitVec.getLsbD_one]
  rcases Nat.eq_zero_or_pos i with rfl | h
  · simp
  · have : i ≠ 0 := by omega
    simp [this]
theorem bit_I (a : BitVec 64) (n : Nat) : bits .and .u64 (I (a >>> n)) 1 = if a.getLsbD n then 1 else 0 := by
  rw [and_I, B_I]
  have : B 1 = 1#64 := rfl
  rw [this, and_one]
  simp only [BitVec.getLsbD_ushiftRight, Nat.add_zero]
  cases a.getLsbD n <;> rfl

#print axioms bit_I
end Go.Proofs.YtahmpmlbonpabaaDoor.U64
