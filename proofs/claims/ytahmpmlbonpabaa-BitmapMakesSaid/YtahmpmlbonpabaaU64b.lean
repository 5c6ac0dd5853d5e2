/- Building a word bit by bit, and reading its bits. Plain Lean, no program. -/
import Derived.Test.YtahmpmlbonpabaaU64
import Derived.Test.YtahmpmlbonpabaaWMore
namespace Go.Proofs.Ytahmpmlbonpabaa.U64
open Go.RowKit Go.Proofs.YtahmpmlbonpabaaW.PrintWords Go.Proofs.YtahmpmlbonpabaaW.PrintLast Go.Proofs.YtahmpmlbonpabaaW.PrintMore

theorem u64_small {i : Int} (h0 : 0 ≤ i) (h1 : i < 64) : IntKind.u64.wrap i = i := by
  rw [IntKind.wrap_u64]
  omega
theorem i64_small {i : Int} (h0 : 0 ≤ i) (h1 : i < 4611686018427387904) : wrap64 i = i := by
  unfold wrap64
  omega
theorem shr_word (b : BitVec 64) (i : Nat) (hi : i < 64) : shr .u64 (I b) (IntKind.u64.wrap (i : Int)) = I (b >>> i) := by
  rw [u64_small (by omega) (by omega)]
  unfold shr
  rw [Int.toNat_natCast, Nat.min_eq_left (by simp [IntKind.bits]; omega), shr_I]
theorem shl_one (i : Nat) (hi : i < 64) : shl .u64 1 (IntKind.u64.wrap (i : Int)) = I (BitVec.twoPow 64 i) := by
  rw [u64_small (by omega) (by omega)]
  unfold shl
  rw [Int.toNat_natCast, Nat.min_eq_left (by simp [IntKind.bits]; omega), Int.one_mul, wrap_I, B_two_pow]
theorem wrap_add (a b : BitVec 64) : IntKind.u64.wrap (I a + I b) = I (a + b) := by
  rw [wrap_I, B_add, B_I, B_I]
/-- One bit more, above all that are set. -/
theorem add_bit (o : BitVec 64) (i : Nat) (hz : ∀ j, i ≤ j → o.getLsbD j = false) : o + BitVec.twoPow 64 i = o ||| BitVec.twoPow 64 i := by
  apply BitVec.add_eq_or_of_and_eq_zero
  apply BitVec.eq_of_getLsbD_eq
  intro j hj
  rw [BitVec.getLsbD_and, BitVec.getLsbD_twoPow]
  by_cases e : i = j
  · subst e
    rw [hz i (Nat.le_refl _)]
    simp
  · simp [e]

/-- A word of which the bits below a place say f, and the others nothing. -/
def Upto (o : BitVec 64) (f : Nat → Bool) (i : Nat) : Prop := ∀ j, o.getLsbD j = (decide (j < i) && f j)
theorem upto_zero (f : Nat → Bool) : Upto 0#64 f 0 := by
  intro j
  simp
theorem upto_clear {o : BitVec 64} {f : Nat → Bool} {i : Nat} (h : Upto o f i) (hf : f i = false) : Upto o f (i + 1) := by
  intro j
  rw [h j]
  by_cases e : j = i
  · subst e
    simp [hf]
  · by_cases l : j < i
    · simp [l, Nat.lt_succ_of_lt l]
    · have : ¬ j < i + 1 := by omega
      simp [l, this]
theorem upto_set {o : BitVec 64} {f : Nat → Bool} {i : Nat} (hi : i < 64) (h : Upto o f i) (hf : f i = true) : Upto (o + BitVec.twoPow 64 i) f (i + 1) := by
  intro j
  rw [add_bit o i (fun k hk => by rw [h k]; simp; omega), BitVec.getLsbD_or, h j, BitVec.getLsbD_twoPow]
  by_cases e : j = i
  · subst e
    simp [hf, hi]
  · by_cases l : j < i
    · have : ¬ i = j := by omega
      simp [l, Nat.lt_succ_of_lt l, this]
    · have h1 : ¬ j < i + 1 := by omega
      have h2 : ¬ i = j := by omega
      simp [l, h1, h2]
theorem upto_eq {o p : BitVec 64} {f : Nat → Bool} (h : Upto o f 64) (hp : ∀ j, j < 64 → p.getLsbD j = f j) : o = p := by
  apply BitVec.eq_of_getLsbD_eq
  intro j hj
  rw [h j, hp j hj]
  simp [hj]
end Go.Proofs.Ytahmpmlbonpabaa.U64
