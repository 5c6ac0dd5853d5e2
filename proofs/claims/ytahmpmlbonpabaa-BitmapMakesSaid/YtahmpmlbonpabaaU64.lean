/- Words of 64 bits: whole numbers of the kind u64 as bit vectors, and what Go's operations do to them. Plain Lean, no program. -/
import Derived.Laws.Bits64
import Derived.RowKit
namespace Go.Proofs.Ytahmpmlbonpabaa.U64
open Go.RowKit

/-- A number as 64 bits. -/
def B (x : Int) : BitVec 64 := BitVec.ofInt 64 x
/-- 64 bits as a number. -/
def I (b : BitVec 64) : Int := (b.toNat : Int)

theorem I_nonneg (b : BitVec 64) : 0 ≤ I b := Int.natCast_nonneg _
theorem I_lt (b : BitVec 64) : I b < 18446744073709551616 := by
  have := b.isLt
  unfold I
  omega
theorem B_I (b : BitVec 64) : B (I b) = b := by
  unfold B I
  rw [BitVec.ofInt_natCast]
  simp
theorem I_B {x : Int} (h0 : 0 ≤ x) (h1 : x < 18446744073709551616) : I (B x) = x := by
  unfold B I
  rw [BitVec.toNat_ofInt]
  omega
theorem I_inj {a b : BitVec 64} : I a = I b ↔ a = b := by
  constructor
  · intro h
    rw [← B_I a, h, B_I]
  · rintro rfl
    rfl
theorem wrap_I (x : Int) : IntKind.u64.wrap x = I (B x) := by
  rw [IntKind.wrap_u64]
  unfold I B
  rw [BitVec.toNat_ofInt]
  omega
theorem wf_of {x : Int} (h : (Lit.int .u64 x).wf = true) : 0 ≤ x ∧ x < 18446744073709551616 := by
  have h' := h
  simp [Lit.wf, IntKind.min, IntKind.max, IntKind.bits, IntKind.signed] at h'
  omega
theorem wf_mk {x : Int} (h0 : 0 ≤ x) (h1 : x < 18446744073709551616) : (Lit.int .u64 x).wf = true := by
  simp [Lit.wf, IntKind.min, IntKind.max, IntKind.bits, IntKind.signed]
  omega
theorem ex {x : Int} (h : (Lit.int .u64 x).wf = true) : ∃ b, x = I b := ⟨B x, (I_B (wf_of h).1 (wf_of h).2).symm⟩

theorem B_add (x y : Int) : B (x + y) = B x + B y := by
  unfold B
  exact BitVec.ofInt_add x y
theorem B_mul (x y : Int) : B (x * y) = B x * B y := by
  unfold B
  exact BitVec.ofInt_mul x y
theorem B_neg (x : Int) : B (-x) = -B x := by
  unfold B
  exact BitVec.ofInt_neg
theorem B_sub (x y : Int) : B (x - y) = B x - B y := by
  rw [Int.sub_eq_add_neg, B_add, B_neg, BitVec.sub_eq_add_neg]

theorem back (r : BitVec 64) : IntKind.u64.wrap (r.toNat : Int) = I r := by
  rw [IntKind.wrap_u64]
  have := r.isLt
  unfold I
  omega
theorem xor_I (x y : Int) : bits .xor .u64 x y = I (B x ^^^ B y) := back _
theorem and_I (x y : Int) : bits .and .u64 x y = I (B x &&& B y) := back _
theorem or_I (x y : Int) : bits .or .u64 x y = I (B x ||| B y) := back _
theorem andNot_I (x y : Int) : bits .andNot .u64 x y = I (B x &&& ~~~ B y) := back _

theorem pow_cast (n : Nat) : ((2 : Int) ^ n) = ((2 ^ n : Nat) : Int) := by simp
theorem B_two_pow (n : Nat) : B ((2 : Int) ^ n) = BitVec.twoPow 64 n := by
  unfold B
  rw [pow_cast, BitVec.ofInt_natCast]
  apply BitVec.eq_of_toNat_eq
  simp [BitVec.toNat_twoPow]
theorem shl_I (x : Int) (n : Nat) : IntKind.u64.wrap (x * 2 ^ n) = I (B x <<< n) := by
  rw [wrap_I, B_mul, B_two_pow, BitVec.mul_twoPow_eq_shiftLeft]
theorem shr_I (a : BitVec 64) (n : Nat) : I a / 2 ^ n = I (a >>> n) := by
  unfold I
  rw [BitVec.toNat_ushiftRight, Nat.shiftRight_eq_div_pow, pow_cast]
  exact (Int.natCast_ediv _ _)

/-- Is the bit set? -/
theorem and_one (a : BitVec 64) : a &&& 1#64 = BitVec.setWidth 64 (BitVec.ofBool (a.getLsbD 0)) := by
  apply BitVec.eq_of_getLsbD_eq
  intro i hi
  simp [BitVec.getLsbD_one]
  rcases Nat.eq_zero_or_pos i with rfl | h
  · simp
  · have : i ≠ 0 := by omega
    simp [this]
theorem bit_I (a : BitVec 64) (n : Nat) : bits .and .u64 (I (a >>> n)) 1 = if a.getLsbD n then 1 else 0 := by
  rw [and_I, B_I]
  have : B 1 = 1#64 := rfl
  rw [this, and_one]
  simp only [BitVec.getLsbD_ushiftRight, Nat.add_zero]
  cases a.getLsbD n <;> rfl

#print axioms bit_I
end Go.Proofs.Ytahmpmlbonpabaa.U64
