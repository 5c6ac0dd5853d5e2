/- WordsEscapes: for every word and carry the escaped bits that the program reckons at one time, and what it carries, are the document's, told bit by bit; and those of the word 1 are 2. No condition. -/
import Derived.Test.YtjjnmpidlkjeiaaPWordsEscapesx1
import Derived.Test.YtjjnmpidlkjeiaaU64b
import Derived.Test.YtjjnmpidlkjeiaaEscMath
namespace Go.Proofs.Ytjjnmpidlkjeiaa.Pure
open Go.RowKit Go.Proofs.Ytjjnmpidlkjeiaa.PWordsEscapes Go.Proofs.YtjjnmpidlkjeiaaW.PrintWords Go.Proofs.YtjjnmpidlkjeiaaW.PrintLast
open Go.Proofs.Ytjjnmpidlkjeiaa Go.Proofs.Ytjjnmpidlkjeiaa.EscMath Go.Proofs.Ytjjnmpidlkjeiaa.U64

theorem div_63 (a : BitVec 64) : ((I a / 9223372036854775808) != 0) = a.getLsbD 63 := by
  have h := shr_I a 63
  have e : ((2 : Int) ^ 63) = 9223372036854775808 := by decide
  rw [e] at h
  rw [h]
  unfold I
  rw [BitVec.toNat_ushiftRight, Nat.shiftRight_eq_div_pow, BitVec.getLsbD, Nat.testBit_eq_decide_div_mod_eq]
  have := a.isLt
  by_cases hz : a.toNat / 2 ^ 63 = 0
  · simp [hz]
  · have h1 : a.toNat / 2 ^ 63 = 1 := by omega
    simp [h1]

theorem escaped_is (b : BitVec 64) (c : Bool) : words_Escaped.f (I b) c = some (I (fast b c), esc b c 64) := by
  have e1 : B 1 = 1#64 := rfl
  have e0 : B 0 = 0#64 := rfl
  have eo : B 12297829382473034410 = odds := rfl
  rw [← over_bit]
  unfold words_Escaped.f
  have two : ∀ x : BitVec 64, IntKind.u64.wrap (I x * 2) = I (x <<< 1) := by
    intro x
    have := shl_I (I x) 1
    rw [B_I] at this
    exact this
  have sub : ∀ x y : BitVec 64, IntKind.u64.wrap (I x - I y) = I (x - y) := by
    intro x y
    rw [wrap_I, B_sub, B_I, B_I]
  cases c
  · rw [if_neg (by decide)]
    simp only [andNot_I, or_I, xor_I, and_I, B_I, two, sub, e0, eo, div_63]
    rfl
  · rw [if_pos rfl]
    simp only [andNot_I, or_I, xor_I, and_I, B_I, two, sub, e1, eo, div_63]
    rfl

theorem has_is (b : BitVec 64) (i : Nat) (hi : i < 64) : quarryref03_Has.f (I b) (i : Int) = some (b.getLsbD i) := by
  unfold quarryref03_Has.f
  rw [if_pos (by rw [u64_small (by omega) (by omega)]; omega), shr_word b i hi, bit_I]
  cases b.getLsbD i <;> rfl

theorem loop_is (b : BitVec 64) (c : Bool) (d : Nat) : ∀ (k i : Nat) (o : BitVec 64), i + d = 64 → d < k → Upto o (esc b c) i →
    quarryref03_Escaped.l0 k (I b) (esc b c i) (I o) (i : Int) = some (I (fast b c), esc b c 64) := by
  induction d with
  | zero =>
    intro k i o hid hk ho
    obtain ⟨k, rfl⟩ : ∃ m, k = m + 1 := ⟨k - 1, by omega⟩
    obtain rfl : i = 64 := by omega
    simp only [quarryref03_Escaped.l0]
    rw [if_neg (by omega), upto_eq ho (fun j hj => fast_bit b c j hj)]
  | succ d ih =>
    intro k i o hid hk ho
    obtain ⟨k, rfl⟩ : ∃ m, k = m + 1 := ⟨k - 1, by omega⟩
    have hi : i < 64 := by omega
    have hw : wrap64 ((i : Int) + 1) = ((i + 1 : Nat) : Int) := by
      rw [i64_small (by omega) (by omega)]
      omega
    have he : esc b c (i + 1) = (b.getLsbD i && !esc b c i) := rfl
    simp only [quarryref03_Escaped.l0]
    rw [if_pos (by omega), has_is b i hi, hw, shl_one i hi, wrap_add]
    simp only [Option.bind_some]
    cases hc : esc b c i
    · rw [if_neg (by decide)]
      cases hb : b.getLsbD i
      · have h1 : esc b c (i + 1) = false := by rw [he, hb]; rfl
        rw [if_neg (by decide), ← h1]
        exact ih k (i + 1) o (by omega) (by omega) (upto_clear ho hc)
      · have h1 : esc b c (i + 1) = true := by rw [he, hb, hc]; rfl
        have h2 : (!false) = esc b c (i + 1) := by rw [h1]; rfl
        rw [if_pos rfl, h2]
        exact ih k (i + 1) o (by omega) (by omega) (upto_clear ho hc)
    · have h1 : esc b c (i + 1) = false := by rw [he, hc]; simp
      have h2 : (!true) = esc b c (i + 1) := by rw [h1]; rfl
      rw [if_pos rfl, if_pos (by rw [u64_small (by omega) (by omega)]; omega)]
      cases hb : b.getLsbD i
      · rw [if_neg (by decide), ← h1]
        exact ih k (i + 1) _ (by omega) (by omega) (upto_set hi ho hc)
      · rw [if_pos rfl, h2]
        exact ih k (i + 1) _ (by omega) (by omega) (upto_set hi ho hc)

/-- YOURS: ∀ (a0 : Int) (a1 : Bool), (Lit.int .u64 a0).wf = true → ∃ k, quarrylaw03_WordsEscapes.f k a0 a1 = some true
What it reaches (each with k first where it has rounds; `.mono`: more rounds tell the same; `.l0`, ..: its loops, with `.mono_l`): words_Escaped.f, quarryref03_Has.f, quarryref03_Escaped.f, quarrylaw03_WordsEscapes.f -/
theorem WordsEscapes : quarrylaw03_WordsEscapes.Pure := by
  intro a c ha
  obtain ⟨b, rfl⟩ := ex ha
  refine ⟨65, ?_⟩
  have h1 : words_Escaped.f 1 false = some (2, false) := by
    have h := escaped_is 1#64 false
    have e : I 1#64 = 1 := rfl
    rw [e] at h
    rw [h]
    decide
  have h2 : quarryref03_Escaped.f 65 (I b) c = some (I (fast b c), esc b c 64) :=
    loop_is b c 64 65 0 0#64 (by omega) (by omega) (upto_zero _)
  unfold quarrylaw03_WordsEscapes.f
  rw [escaped_is, h1, h2]
  simp only [Option.bind_some]
  simp

end Go.Proofs.Ytjjnmpidlkjeiaa.Pure
