/- WordsChains: for every row of words and every carry the escaped bits that are reckoned word by word, each with what the one ahead has carried, are those of the whole row, told bit by bit. No condition. -/
import Derived.Test.YtjjnmpidlkjeiaaPWordsChainsx1
import Derived.Test.YtjjnmpidlkjeiaaU64b
import Derived.Test.YtjjnmpidlkjeiaaEscMath
import Derived.Test.YtjjnmpidlkjeiaaWSized
namespace Go.Proofs.Ytjjnmpidlkjeiaa.Pure
open Go.RowKit Go.Proofs.Ytjjnmpidlkjeiaa.PWordsChains Go.Proofs.YtjjnmpidlkjeiaaW.PrintWords Go.Proofs.YtjjnmpidlkjeiaaW.PrintLast
open Go.Proofs.Ytjjnmpidlkjeiaa Go.Proofs.Ytjjnmpidlkjeiaa.EscMath Go.Proofs.Ytjjnmpidlkjeiaa.U64

theorem chains_div (a : BitVec 64) : ((I a / 9223372036854775808) != 0) = a.getLsbD 63 := by
  have h := shr_I a 63
  have e : ((2 : Int) ^ 63) = 9223372036854775808 := by decide
  rw [e] at h
  rw [h]
  unfold I
  rw [BitVec.toNat_ushiftRight, Nat.shiftRight_eq_div_pow, BitVec.getLsbD, Nat.testBit_eq_decide_div_mod_eq]
  have := a.isLt
  by_cases hz : a.toNat / 2 ^ 63 = 0
  · simp [hz]
  · have h1 : a.toNat / 2 ^ 63 = 1 := by omega
    simp [h1]

theorem chains_escaped (b : BitVec 64) (c : Bool) : words_Escaped.f (I b) c = some (I (fast b c), esc b c 64) := by
  have e1 : B 1 = 1#64 := rfl
  have e0 : B 0 = 0#64 := rfl
  have eo : B 12297829382473034410 = odds := rfl
  rw [← over_bit]
  unfold words_Escaped.f
  have two : ∀ x : BitVec 64, IntKind.u64.wrap (I x * 2) = I (x <<< 1) := by
    intro x
    have := shl_I (I x) 1
    rw [B_I] at this
    exact this
  have sub : ∀ x y : BitVec 64, IntKind.u64.wrap (I x - I y) = I (x - y) := by
    intro x y
    rw [wrap_I, B_sub, B_I, B_I]
  cases c
  · rw [if_neg (by decide)]
    simp only [andNot_I, or_I, xor_I, and_I, B_I, two, sub, e0, eo, chains_div]
    rfl
  · rw [if_pos rfl]
    simp only [andNot_I, or_I, xor_I, and_I, B_I, two, sub, e1, eo, chains_div]
    rfl

theorem chains_bit (b : BitVec 64) (i : Nat) (hi : i < 64) : bits .and .u64 (shr .u64 (I b) (IntKind.u64.wrap (i : Int))) 1 = if b.getLsbD i then 1 else 0 := by
  rw [shr_word b i hi, bit_I]

/-- The bits of one word: from a place on. -/
theorem chains_inner (l : List Int) (x1 c : Bool) (n : Nat) (hn : n < l.length) (b : BitVec 64) (hb : rd l (n : Int) = I b) (d : Nat) : ∀ (k j : Nat), j + d = 64 →
    quarrylaw03_WordsChains.l1 (k + d + 1) l x1 (esc b c j) (n : Int) (I (fast b c)) (esc b c 64) (j : Int) = quarrylaw03_WordsChains.l0 k l x1 (esc b c 64) (wrap64 ((n : Int) + 1)) := by
  induction d with
  | zero =>
    intro k j hj
    obtain rfl : j = 64 := by omega
    simp only [quarrylaw03_WordsChains.l1]
    rw [if_neg (by omega), if_neg (by simp)]
  | succ d ih =>
    intro k j hj
    have hj64 : j < 64 := by omega
    have hw : wrap64 ((j : Int) + 1) = ((j + 1 : Nat) : Int) := by
      rw [i64_small (by omega) (by omega)]
      omega
    have he : esc b c (j + 1) = (b.getLsbD j && !esc b c j) := rfl
    have h := ih k (j + 1) (by omega)
    have hk : k + (d + 1) + 1 = (k + d + 1) + 1 := by omega
    rw [hk]
    generalize k + d + 1 = K at h ⊢
    simp only [quarrylaw03_WordsChains.l1]
    rw [if_pos (by omega), if_pos (by rw [u64_small (by omega) (by omega)]; omega), hb, chains_bit _ j hj64, chains_bit _ j hj64, fast_bit b c j hj64, hw]
    rw [if_neg (by cases esc b c j <;> simp), if_pos (by omega), if_pos (by omega)]
    cases hx : b.getLsbD j
    · have h1 : esc b c (j + 1) = false := by rw [he, hx]; rfl
      rw [if_neg (by decide), ← h1]
      exact h
    · have h1 : (!esc b c j) = esc b c (j + 1) := by rw [he, hx]; rfl
      rw [if_pos rfl, h1]
      exact h

theorem chains_seven : words_Escaped.f 7 false = some (10, false) := by
  have h := chains_escaped 7#64 false
  have e : I 7#64 = 7 := rfl
  rw [e] at h
  rw [h]
  decide

theorem chains_outer (l : List Int) (hl : l.length * 8 ≤ 140737488351232) (hw : ∀ x ∈ l, (Lit.int .u64 x).wf = true) (d : Nat) : ∀ (k n : Nat) (c : Bool), n + d = l.length → 66 * d < k →
    quarrylaw03_WordsChains.l0 k l c c (n : Int) = some true := by
  induction d with
  | zero =>
    intro k n c hn hk
    obtain ⟨k, rfl⟩ : ∃ m, k = m + 1 := ⟨k - 1, by omega⟩
    simp only [quarrylaw03_WordsChains.l0]
    rw [if_neg (by omega), chains_seven]
    rfl
  | succ d ih =>
    intro k n c hn hk
    obtain ⟨k, rfl⟩ : ∃ m, k = (m + 64 + 1) + 1 := ⟨k - 66, by omega⟩
    have hlt : n < l.length := by omega
    obtain ⟨b, hb⟩ : ∃ b, rd l (n : Int) = I b := by
      apply ex
      apply hw
      unfold rd
      rw [Int.toNat_natCast, List.getD_eq_getElem?_getD, List.getElem?_eq_getElem hlt]
      exact List.getElem_mem hlt
    have h := ih k (n + 1) (esc b c 64) (by omega) (by omega)
    have hs : wrap64 ((n : Int) + 1) = ((n + 1 : Nat) : Int) := by
      rw [i64_small (by omega) (by omega)]
      omega
    simp only [quarrylaw03_WordsChains.l0]
    rw [if_pos (by omega), if_pos (by omega), hb, chains_escaped]
    simp only [Option.bind_some]
    have hi := chains_inner l (esc b c 64) c n hlt b hb 64 k 0 (by omega)
    have e0 : esc b c 0 = c := rfl
    rw [e0] at hi
    rw [show ((0 : Nat) : Int) = 0 from rfl] at hi
    rw [hi, hs]
    exact h

/-- YOURS: ∀ (l0 : List Int) (a1 : Bool), l0.length ≤ maxLen → l0.length * 8 ≤ 140737488351232 → (∀ x ∈ l0, (Lit.int .u64 x).wf = true) → ∃ k, quarrylaw03_WordsChains.f k l0 a1 = some true
What it reaches (each with k first where it has rounds; `.mono`: more rounds tell the same; `.l0`, ..: its loops, with `.mono_l`): words_Escaped.f, quarrylaw03_WordsChains.f -/
theorem WordsChains : quarrylaw03_WordsChains.Pure := by
  intro l c _ h2 h3
  exact ⟨66 * l.length + 1, chains_outer l h2 h3 l.length _ 0 c (by omega) (by omega)⟩

end Go.Proofs.Ytjjnmpidlkjeiaa.Pure
namespace Go.Proofs.Ytjjnmpidlkjeiaa.PrintWords
/-- The name under which the printed row looks for it. -/
abbrev sized_ints := @Go.Proofs.YtjjnmpidlkjeiaaW.PrintWords.sized_ints
end Go.Proofs.Ytjjnmpidlkjeiaa.PrintWords
