/- WordsParities: for all words and carries the parities and the sum with its carry are the document's, told bit by bit; and all parities of the word 1 are odd. No condition. -/
import Derived.Test.YtjjnmpidlkjeiaaPWordsParitiesx1
import Derived.Test.YtjjnmpidlkjeiaaAdd
import Derived.Test.YtjjnmpidlkjeiaaPreMath
namespace Go.Proofs.Ytjjnmpidlkjeiaa.Pure
open Go.RowKit Go.Proofs.Ytjjnmpidlkjeiaa.PWordsParities Go.Proofs.YtjjnmpidlkjeiaaW.PrintWords Go.Proofs.YtjjnmpidlkjeiaaW.PrintLast Go.Proofs.YtjjnmpidlkjeiaaW.PrintMore
open Go.Proofs.Ytjjnmpidlkjeiaa Go.Proofs.Ytjjnmpidlkjeiaa.PreMath Go.Proofs.Ytjjnmpidlkjeiaa.U64

theorem parities_step (b : BitVec 64) (n : Nat) (hn : n < 64) : bits .xor .u64 (I b) (shl .u64 (I b) (n : Int)) = I (upstep n b) := by
  have e : shl .u64 (I b) (n : Int) = I (b <<< n) := by
    unfold shl
    rw [Int.toNat_natCast, Nat.min_eq_left (by simp [IntKind.bits]; omega), shl_I, B_I]
  rw [e, xor_I, B_I, B_I]
  rfl
theorem parities_prefix (b : BitVec 64) (k : Nat) : words_Prefix.f (k + 7) (I b) = some (I (pre b)) := by
  have s1 := parities_step b 1 (by omega)
  have s2 := parities_step (upstep 1 b) 2 (by omega)
  have s3 := parities_step (upstep 2 (upstep 1 b)) 4 (by omega)
  have s4 := parities_step (upstep 4 (upstep 2 (upstep 1 b))) 8 (by omega)
  have s5 := parities_step (upstep 8 (upstep 4 (upstep 2 (upstep 1 b)))) 16 (by omega)
  have s6 := parities_step (upstep 16 (upstep 8 (upstep 4 (upstep 2 (upstep 1 b))))) 32 (by omega)
  have w1 : wrap64 (((1 : Nat) : Int) * 2) = ((2 : Nat) : Int) := by unfold wrap64; omega
  have w2 : wrap64 (((2 : Nat) : Int) * 2) = ((4 : Nat) : Int) := by unfold wrap64; omega
  have w3 : wrap64 (((4 : Nat) : Int) * 2) = ((8 : Nat) : Int) := by unfold wrap64; omega
  have w4 : wrap64 (((8 : Nat) : Int) * 2) = ((16 : Nat) : Int) := by unfold wrap64; omega
  have w5 : wrap64 (((16 : Nat) : Int) * 2) = ((32 : Nat) : Int) := by unfold wrap64; omega
  have w6 : wrap64 (((32 : Nat) : Int) * 2) = ((64 : Nat) : Int) := by unfold wrap64; omega
  unfold words_Prefix.f
  rw [show (1 : Int) = ((1 : Nat) : Int) from rfl]
  rw [words_Prefix.l0, if_pos (by decide), if_pos (by decide), s1, w1]
  rw [words_Prefix.l0, if_pos (by decide), if_pos (by decide), s2, w2]
  rw [words_Prefix.l0, if_pos (by decide), if_pos (by decide), s3, w3]
  rw [words_Prefix.l0, if_pos (by decide), if_pos (by decide), s4, w4]
  rw [words_Prefix.l0, if_pos (by decide), if_pos (by decide), s5, w5]
  rw [words_Prefix.l0, if_pos (by decide), if_pos (by decide), s6, w6]
  rw [words_Prefix.l0, if_neg (by decide)]
  rfl

theorem parities_has (b : BitVec 64) (i : Nat) (hi : i < 64) : quarryref03_Has.f (I b) (i : Int) = some (b.getLsbD i) := by
  unfold quarryref03_Has.f
  rw [if_pos (by rw [u64_small (by omega) (by omega)]; omega), shr_word b i hi, bit_I]
  cases b.getLsbD i <;> rfl
/-- An odd number of the bits below a place. -/
def podd (x : BitVec 64) : Nat → Bool
  | 0 => false
  | i + 1 => par x i
theorem par_podd (x : BitVec 64) (i : Nat) : par x i = (podd x i ^^ x.getLsbD i) := by
  cases i with
  | zero => simp [par, podd]
  | succ j => rfl

theorem parities_loop (b : BitVec 64) (d : Nat) : ∀ (k i : Nat) (o : BitVec 64), i + d = 64 → d < k → Upto o (par b) i →
    quarryref03_Prefix.l0 k (I b) (I o) (podd b i) (i : Int) = some (I (pre b)) := by
  induction d with
  | zero =>
    intro k i o hid hk ho
    obtain ⟨k, rfl⟩ : ∃ m, k = m + 1 := ⟨k - 1, by omega⟩
    obtain rfl : i = 64 := by omega
    simp only [quarryref03_Prefix.l0]
    rw [if_neg (by omega), upto_eq ho (fun j hj => pre_bit b j hj)]
  | succ d ih =>
    intro k i o hid hk ho
    obtain ⟨k, rfl⟩ : ∃ m, k = m + 1 := ⟨k - 1, by omega⟩
    have hi : i < 64 := by omega
    have hw : wrap64 ((i : Int) + 1) = ((i + 1 : Nat) : Int) := by
      rw [i64_small (by omega) (by omega)]
      omega
    have hz : 0 ≤ IntKind.u64.wrap (i : Int) := by
      rw [u64_small (by omega) (by omega)]
      omega
    have hp := par_podd b i
    have hs : podd b (i + 1) = par b i := rfl
    have up1 := fun h => ih k (i + 1) (o + BitVec.twoPow 64 i) (by omega) (by omega) (upto_set hi ho h)
    have up0 := fun h => ih k (i + 1) o (by omega) (by omega) (upto_clear ho h)
    rw [hs] at up1 up0
    simp only [quarryref03_Prefix.l0]
    rw [if_pos (by omega), parities_has b i hi, hw, shl_one i hi, wrap_add, if_pos hz]
    simp only [Option.bind_some]
    cases hb : b.getLsbD i <;> cases hq : podd b i <;> rw [hb, hq] at hp
    · rw [if_neg (by decide), if_neg (by decide)]
      have := up0 hp
      rw [hp] at this
      exact this
    · rw [if_neg (by decide), if_pos rfl]
      have := up1 hp
      rw [hp] at this
      exact this
    · rw [if_pos rfl, if_neg (by decide)]
      have := up1 hp
      rw [hp] at this
      exact this
    · rw [if_pos rfl, if_pos rfl]
      have := up0 hp
      rw [hp] at this
      exact this

theorem parities_ref (b : BitVec 64) : quarryref03_Prefix.f 65 (I b) = some (I (pre b)) := parities_loop b 64 65 0 0#64 (by omega) (by omega) (upto_zero _)

theorem WordsParities : quarrylaw03_WordsParities.Pure := by
  intro a0 a1 c h0 h1
  obtain ⟨x, rfl⟩ := ex h0
  obtain ⟨y, rfl⟩ := ex h1
  refine ⟨65, ?_⟩
  have ha : words_Add.f (I x) (I y) c = some (I (x + y + cw c), BitVec.carry 64 x y c) := by
    unfold words_Add.f
    rw [if_pos ⟨⟨I_nonneg _, I_lt _⟩, ⟨I_nonneg _, I_lt _⟩⟩, B_I, B_I]
  have hr : quarryref03_Add.f (I x) (I y) c = some (I (x + y + cw c), BitVec.carry 64 x y c) := ha
  have h1 : words_Prefix.f 65 1 = some 18446744073709551615 := by
    have h := parities_prefix 1#64 58
    have e : I 1#64 = 1 := rfl
    have e2 : I (pre 1#64) = 18446744073709551615 := by decide
    rw [e, e2] at h
    exact h
  unfold quarrylaw03_WordsParities.f
  rw [ha, hr, parities_prefix x 58, parities_ref, h1]
  simp
end Go.Proofs.Ytjjnmpidlkjeiaa.Pure
