/- WordsTurns: for all words and carries: the parities put together with themselves moved up are the word, those of two words together are those of each put together; the carry of a sum, and the sum turned back. No condition. -/
import Derived.Test.YtjjnmpidlkjeiaaPWordsTurnsx1
import Derived.Test.YtjjnmpidlkjeiaaAdd
import Derived.Test.YtjjnmpidlkjeiaaPreMath
namespace Go.Proofs.Ytjjnmpidlkjeiaa.Pure
open Go.RowKit Go.Proofs.Ytjjnmpidlkjeiaa.PWordsTurns Go.Proofs.YtjjnmpidlkjeiaaW.PrintWords Go.Proofs.YtjjnmpidlkjeiaaW.PrintLast Go.Proofs.YtjjnmpidlkjeiaaW.PrintMore
open Go.Proofs.Ytjjnmpidlkjeiaa Go.Proofs.Ytjjnmpidlkjeiaa.PreMath Go.Proofs.Ytjjnmpidlkjeiaa.U64

theorem turns_step (b : BitVec 64) (n : Nat) (hn : n < 64) : bits .xor .u64 (I b) (shl .u64 (I b) (n : Int)) = I (upstep n b) := by
  have e : shl .u64 (I b) (n : Int) = I (b <<< n) := by
    unfold shl
    rw [Int.toNat_natCast, Nat.min_eq_left (by simp [IntKind.bits]; omega), shl_I, B_I]
  rw [e, xor_I, B_I, B_I]
  rfl
theorem turns_prefix (b : BitVec 64) (k : Nat) : words_Prefix.f (k + 7) (I b) = some (I (pre b)) := by
  have s1 := turns_step b 1 (by omega)
  have s2 := turns_step (upstep 1 b) 2 (by omega)
  have s3 := turns_step (upstep 2 (upstep 1 b)) 4 (by omega)
  have s4 := turns_step (upstep 4 (upstep 2 (upstep 1 b))) 8 (by omega)
  have s5 := turns_step (upstep 8 (upstep 4 (upstep 2 (upstep 1 b)))) 16 (by omega)
  have s6 := turns_step (upstep 16 (upstep 8 (upstep 4 (upstep 2 (upstep 1 b))))) 32 (by omega)
  have w1 : wrap64 (((1 : Nat) : Int) * 2) = ((2 : Nat) : Int) := by unfold wrap64; omega
  have w2 : wrap64 (((2 : Nat) : Int) * 2) = ((4 : Nat) : Int) := by unfold wrap64; omega
  have w3 : wrap64 (((4 : Nat) : Int) * 2) = ((8 : Nat) : Int) := by unfold wrap64; omega
  have w4 : wrap64 (((8 : Nat) : Int) * 2) = ((16 : Nat) : Int) := by unfold wrap64; omega
  have w5 : wrap64 (((16 : Nat) : Int) * 2) = ((32 : Nat) : Int) := by unfold wrap64; omega
  have w6 : wrap64 (((32 : Nat) : Int) * 2) = ((64 : Nat) : Int) := by unfold wrap64; omega
  unfold words_Prefix.f
  rw [show (1 : Int) = ((1 : Nat) : Int) from rfl]
  rw [words_Prefix.l0, if_pos (by decide), if_pos (by decide), s1, w1]
  rw [words_Prefix.l0, if_pos (by decide), if_pos (by decide), s2, w2]
  rw [words_Prefix.l0, if_pos (by decide), if_pos (by decide), s3, w3]
  rw [words_Prefix.l0, if_pos (by decide), if_pos (by decide), s4, w4]
  rw [words_Prefix.l0, if_pos (by decide), if_pos (by decide), s5, w5]
  rw [words_Prefix.l0, if_pos (by decide), if_pos (by decide), s6, w6]
  rw [words_Prefix.l0, if_neg (by decide)]
  rfl

theorem turns_sub (a b : BitVec 64) : IntKind.u64.wrap (I a - I b) = I (a - b) := by
  rw [wrap_I, B_sub, B_I, B_I]
theorem turns_back (x y : BitVec 64) (c : Bool) : x + y + cw c - y - cw c = x := by
  rw [show x + y + cw c - y = x + cw c from by rw [BitVec.add_assoc, BitVec.add_comm y, ← BitVec.add_assoc, BitVec.add_sub_cancel], BitVec.add_sub_cancel]
theorem turns_less (x y : BitVec 64) (c : Bool) : BitVec.carry 64 x y c = (decide (I (x + y + cw c) < I x) || (decide (I (x + y + cw c) = I x) && c)) := by
  rw [← over_is, ← sum_is]
  have := I_nonneg x
  have := I_lt x
  have := I_nonneg y
  have := I_lt y
  generalize I x = p at *
  generalize I y = q at *
  rw [Bool.eq_iff_iff]
  cases c
  · simp
    omega
  · simp
    omega

theorem WordsTurns : quarrylaw03_WordsTurns.Pure := by
  intro a0 a1 c h0 h1
  obtain ⟨x, rfl⟩ := ex h0
  obtain ⟨y, rfl⟩ := ex h1
  refine ⟨7, ?_⟩
  have hp := turns_prefix
  have ha : words_Add.f (I x) (I y) c = some (I (x + y + cw c), BitVec.carry 64 x y c) := by
    unfold words_Add.f
    rw [if_pos ⟨⟨I_nonneg _, I_lt _⟩, ⟨I_nonneg _, I_lt _⟩⟩, B_I, B_I]
  have hx : bits .xor .u64 (I (pre x)) (IntKind.u64.wrap (I (pre x) * 2)) = I x := by
    have e : IntKind.u64.wrap (I (pre x) * 2) = I (pre x <<< 1) := by
      have := shl_I (I (pre x)) 1
      rw [B_I] at this
      exact this
    rw [e, xor_I, B_I, B_I, pre_turn]
  have hxy : bits .xor .u64 (I x) (I y) = I (x ^^^ y) := by rw [xor_I, B_I, B_I]
  have hpp : bits .xor .u64 (I (pre x)) (I (pre y)) = I (pre (x ^^^ y)) := by rw [xor_I, B_I, B_I, pre_xor]
  have hl := turns_less x y c
  have hb : IntKind.u64.wrap (IntKind.u64.wrap (I (x + y + cw c) - I y) - I (cw c)) = I x := by rw [turns_sub, turns_sub, turns_back]
  rw [I_cw] at hb
  have p1 := turns_prefix x 0
  have p2 := turns_prefix (x ^^^ y) 0
  have p3 := turns_prefix y 0
  unfold quarrylaw03_WordsTurns.f
  rw [p1, ha]
  simp only [Option.bind_some]
  rw [hx, hxy, p2, p3]
  simp only [Option.bind_some]
  rw [hpp, hl]
  cases c
  · rw [if_neg (by decide)] at hb
    have hb' : IntKind.u64.wrap (IntKind.u64.wrap (I (x + y + cw false) - I y)) = I x := by
      rw [turns_sub] at hb ⊢
      rw [Int.sub_zero] at hb
      exact hb
    rw [if_neg (by decide), hb']
    by_cases g : I (x + y + cw false) < I x
    · simp [g]
    · by_cases g2 : I (x + y + cw false) = I x
      · simp [g2]
      · simp [g, g2]
  · rw [if_pos rfl] at hb
    rw [if_pos rfl, hb]
    by_cases g : I (x + y + cw true) < I x
    · simp [g]
    · by_cases g2 : I (x + y + cw true) = I x
      · simp [g2]
      · simp [g, g2]
end Go.Proofs.Ytjjnmpidlkjeiaa.Pure
