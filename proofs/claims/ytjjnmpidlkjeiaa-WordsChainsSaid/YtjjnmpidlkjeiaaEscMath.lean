/- The escaped bits of a word, reckoned at one time by a subtraction, are those told bit by bit. Plain Lean, no program. -/
import Init.Data.BitVec.Bitblast
namespace Go.Proofs.Ytjjnmpidlkjeiaa.EscMath
open BitVec

/-- Is the bit escaped? Bit by bit. -/
def esc (x : BitVec 64) (c : Bool) : Nat → Bool
  | 0 => c
  | i + 1 => x.getLsbD i && !esc x c i

def odds : BitVec 64 := 12297829382473034410#64
theorem odds_bit : ∀ i : Nat, i < 64 → odds.getLsbD i = decide (i % 2 = 1) := by decide

def fst (c : Bool) : BitVec 64 := if c then 1#64 else 0#64
theorem fst_bit (c : Bool) (i : Nat) : (fst c).getLsbD i = (decide (i = 0) && c) := by
  cases c <;> simp [fst, BitVec.getLsbD_one]

/-- What begins a row. -/
def beg (x : BitVec 64) (c : Bool) : BitVec 64 := x &&& ~~~ fst c
def lhs (x : BitVec 64) (c : Bool) : BitVec 64 := beg x c <<< 1 ||| odds
def code (x : BitVec 64) (c : Bool) : BitVec 64 := (lhs x c - beg x c) ^^^ odds
def fast (x : BitVec 64) (c : Bool) : BitVec 64 := code x c ^^^ (x ||| fst c)

theorem beg_bit (x : BitVec 64) (c : Bool) (i : Nat) (hi : i < 64) : (beg x c).getLsbD i = (x.getLsbD i && !(decide (i = 0) && c)) := by
  simp only [beg, BitVec.getLsbD_and, BitVec.getLsbD_not, fst_bit, hi, decide_true, Bool.true_and]
theorem lhs_bit (x : BitVec 64) (c : Bool) (i : Nat) (hi : i < 64) : (lhs x c).getLsbD i = ((decide (0 < i) && (beg x c).getLsbD (i - 1)) || decide (i % 2 = 1)) := by
  simp only [lhs, BitVec.getLsbD_or, odds_bit i hi, BitVec.getLsbD_shiftLeft, hi, decide_true, Bool.true_and]
  rcases Nat.eq_zero_or_pos i with rfl | h
  · simp
  · have h1 : ¬ i < 1 := by omega
    simp [h1, h]

theorem sub_bit (x y : BitVec 64) (i : Nat) (hi : i < 64) : (x - y).getLsbD i = (x.getLsbD i ^^ (!y.getLsbD i ^^ carry i x (~~~y) true)) := by
  have e : x - y = x + ~~~y + setWidth 64 (ofBool true) := by
    rw [BitVec.sub_eq_add_neg, BitVec.neg_eq_not_add, ← BitVec.add_assoc]
    rfl
  rw [e, getLsbD_add_add_bool hi, BitVec.getLsbD_not]
  simp [hi]

/-- What is borrowed. -/
def bor (x : BitVec 64) (c : Bool) (i : Nat) : Bool := !carry i (lhs x c) (~~~ beg x c) true

theorem bor_zero (x : BitVec 64) (c : Bool) : bor x c 0 = false := by simp [bor]
theorem bor_succ (x : BitVec 64) (c : Bool) (i : Nat) (hi : i < 64) :
    bor x c (i + 1) = ((!(lhs x c).getLsbD i && (beg x c).getLsbD i) || (bor x c i && (!(lhs x c).getLsbD i || (beg x c).getLsbD i))) := by
  unfold bor
  rw [carry_succ, BitVec.getLsbD_not]
  simp only [hi, decide_true, Bool.true_and]
  cases (lhs x c).getLsbD i <;> cases (beg x c).getLsbD i <;> cases carry i (lhs x c) (~~~ beg x c) true <;> rfl

theorem code_bit (x : BitVec 64) (c : Bool) (i : Nat) (hi : i < 64) :
    (code x c).getLsbD i = ((lhs x c).getLsbD i ^^ ((beg x c).getLsbD i ^^ bor x c i) ^^ decide (i % 2 = 1)) := by
  unfold code bor
  rw [BitVec.getLsbD_xor, sub_bit _ _ _ hi, odds_bit i hi]
  cases (lhs x c).getLsbD i <;> cases (beg x c).getLsbD i <;> cases carry i (lhs x c) (~~~ beg x c) true <;> rfl

/-- What the borrow is, beside what is escaped: at an odd place the borrow itself; at an even one it is only there where a row goes on. -/
theorem inv (x : BitVec 64) (c : Bool) : ∀ i : Nat, i < 64 →
    (i % 2 = 1 → esc x c i = bor x c i) ∧
    (i % 2 = 0 → 0 < i → esc x c i = ((beg x c).getLsbD (i - 1) ^^ bor x c i) ∧ (bor x c i = true → (beg x c).getLsbD (i - 1) = true))
  | 0, _ => ⟨fun h => by omega, fun _ h => by omega⟩
  | i + 1, hi => by
    have ih := inv x c i (by omega)
    have hs := bor_succ x c i (by omega)
    have hl := lhs_bit x c i (by omega)
    have hb := beg_bit x c i (by omega)
    have he : esc x c (i + 1) = (x.getLsbD i && !esc x c i) := rfl
    rcases Nat.mod_two_eq_zero_or_one i with h0 | h1
    · refine ⟨fun _ => ?_, fun h => by omega⟩
      rcases Nat.eq_zero_or_pos i with rfl | hp
      · rw [he, hs, hl, hb, bor_zero]
        have e0 : esc x c 0 = c := rfl
        rw [e0]
        cases x.getLsbD 0 <;> cases c <;> rfl
      · obtain ⟨e1, e2⟩ := ih.2 h0 hp
        have hn : i ≠ 0 := by omega
        rw [he, hs, hl, hb, e1]
        simp only [hn, hp, h0, decide_true, decide_false, Bool.false_and, Bool.true_and, Bool.not_false, Bool.and_true]
        revert e2
        cases (beg x c).getLsbD (i - 1) <;> cases bor x c i <;> cases x.getLsbD i <;> simp
    · refine ⟨fun h => by omega, fun _ _ => ?_⟩
      have e1 := ih.1 h1
      have hn : i ≠ 0 := by omega
      simp only [Nat.add_sub_cancel]
      rw [he, hs, hl, hb, e1]
      simp only [hn, h1, decide_true, decide_false, Bool.false_and, Bool.or_true, Bool.not_true, Bool.not_false, Bool.and_true, Bool.false_or]
      cases bor x c i <;> cases x.getLsbD i <;> simp

theorem fast_bit (x : BitVec 64) (c : Bool) (i : Nat) (hi : i < 64) : (fast x c).getLsbD i = esc x c i := by
  have hv := inv x c i hi
  unfold fast
  rw [BitVec.getLsbD_xor, BitVec.getLsbD_or, fst_bit, code_bit x c i hi, lhs_bit x c i hi, beg_bit x c i hi]
  rcases Nat.eq_zero_or_pos i with rfl | hp
  · rw [bor_zero]
    have e0 : esc x c 0 = c := rfl
    rw [e0]
    cases x.getLsbD 0 <;> cases c <;> rfl
  · have hn : i ≠ 0 := by omega
    rcases Nat.mod_two_eq_zero_or_one i with h0 | h1
    · rw [(hv.2 h0 hp).1]
      simp only [hn, hp, h0, decide_true, decide_false, Bool.false_and, Bool.true_and, Bool.not_false, Bool.and_true, Bool.or_false]
      cases (beg x c).getLsbD (i - 1) <;> cases bor x c i <;> cases x.getLsbD i <;> simp
    · rw [hv.1 h1]
      simp only [hn, hp, h1, decide_true, decide_false, Bool.false_and, Bool.true_and, Bool.not_false, Bool.and_true, Bool.or_false, Bool.or_true]
      cases bor x c i <;> cases x.getLsbD i <;> simp

theorem over_bit (x : BitVec 64) (c : Bool) : (code x c &&& x).getLsbD 63 = esc x c 64 := by
  have hv := (inv x c 63 (by omega)).1 (by omega)
  have he : esc x c 64 = (x.getLsbD 63 && !esc x c 63) := rfl
  rw [BitVec.getLsbD_and, code_bit x c 63 (by omega), lhs_bit x c 63 (by omega), beg_bit x c 63 (by omega), he, hv]
  simp
  cases bor x c 63 <;> cases x.getLsbD 63 <;> simp

#print axioms over_bit
end Go.Proofs.Ytjjnmpidlkjeiaa.EscMath
