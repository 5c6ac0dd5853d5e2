/- WordsRanks: for every word and number Rank and Select tell what the document says, bit by bit; and the rank of the word 1 at 1 is 1. No condition. -/
import Derived.Test.YtjjnmpidlkjeiaaDoorStatWordsRanks
import Derived.Test.YtjjnmpidlkjeiaaDoorSelect2
namespace Go.Proofs.YtjjnmpidlkjeiaaDoor.Pure
open Go.RowKit Go.Proofs.YtjjnmpidlkjeiaaDoor.PWordsRanks Go.Proofs.YtjjnmpidlkjeiaaDoorW.PrintWords Go.Proofs.YtjjnmpidlkjeiaaDoorW.PrintLast Go.Proofs.YtjjnmpidlkjeiaaDoorW.PrintMore
open Go.Proofs.YtjjnmpidlkjeiaaDoor Go.Proofs.YtjjnmpidlkjeiaaDoor.Ones Go.Proofs.YtjjnmpidlkjeiaaDoor.U64

theorem ranks_has (x : Nat) (hx : x < 18446744073709551616) (i : Nat) (hi : i < 64) : quarryref03_Has.f (x : Int) (i : Int) = some (x.testBit i) := by
  have e : (x : Int) = I (BitVec.ofNat 64 x) := by
    unfold I
    rw [BitVec.toNat_ofNat, Nat.mod_eq_of_lt (by omega)]
  have hb : (BitVec.ofNat 64 x).getLsbD i = x.testBit i := by
    rw [BitVec.getLsbD_ofNat]
    simp [hi]
  unfold quarryref03_Has.f
  rw [if_pos (by rw [u64_small (by omega) (by omega)]; omega), e, shr_word _ i hi, bit_I, hb]
  cases x.testBit i <;> rfl

theorem ranks_loop (x : Nat) (hx : x < 18446744073709551616) (a : Int) (d : Nat) : ∀ (k i : Nat), i + d = 64 → (i : Int) ≤ a ∨ i = 0 → 2 * d + 1 < k →
    quarryref03_Rank.l0 k (x : Int) a ((count x i : Nat) : Int) (i : Int) = some (rankOf x a) := by
  induction d with
  | zero =>
    intro k i hi ha hk
    obtain ⟨k, rfl⟩ : ∃ m, k = m + 1 + 1 := ⟨k - 2, by omega⟩
    simp only [quarryref03_Rank.l0]
    rw [if_neg (by omega), quarryref03_Rank.j1, if_neg (by decide)]
    obtain rfl : i = 64 := by omega
    unfold rankOf
    rw [Nat.min_eq_right (by omega)]
  | succ d ih =>
    intro k i hi ha hk
    obtain ⟨k, rfl⟩ : ∃ m, k = m + 1 + 1 := ⟨k - 2, by omega⟩
    have hc := count_succ x i
    have hw : wrap64 ((i : Int) + 1) = ((i + 1 : Nat) : Int) := by
      rw [i64_small (by omega) (by omega)]
      omega
    have hle := count_le x i
    have hn : wrap64 (((count x i : Nat) : Int) + 1) = ((count x i + 1 : Nat) : Int) := by
      rw [i64_small (by omega) (by omega)]
      omega
    simp only [quarryref03_Rank.l0]
    rw [if_pos (by omega), quarryref03_Rank.j1]
    by_cases hlt : (i : Int) < a
    · rw [if_pos (by simpa using hlt), ranks_has x hx i (by omega), hw, hn]
      simp only [Option.bind_some]
      cases hb : x.testBit i <;> rw [hb] at hc
      · rw [if_neg (by decide)]
        have := ih k (i + 1) (by omega) (.inl (by omega)) (by omega)
        rw [hc] at this
        exact this
      · rw [if_pos rfl]
        have := ih k (i + 1) (by omega) (.inl (by omega)) (by omega)
        rw [hc] at this
        exact this
    · rw [if_neg (by simpa using hlt)]
      unfold rankOf
      rcases ha with ha | rfl
      · have : a.toNat = i := by omega
        rw [this, Nat.min_eq_left (by omega)]
      · have : a.toNat = 0 := by omega
        rw [this]
        rfl

def ints (l : List Nat) : List Int := l.map (fun n : Nat => (n : Int))
theorem each_loop (x : Nat) (hx : x < 18446744073709551616) (d : Nat) : ∀ (k i : Nat), i + d = 64 → d < k →
    quarryref03_Each.l0 k (x : Int) (ints (placesTo x i)) (i : Int) = some (ints (places x)) := by
  induction d with
  | zero =>
    intro k i hi hk
    obtain ⟨k, rfl⟩ : ∃ m, k = m + 1 := ⟨k - 1, by omega⟩
    simp only [quarryref03_Each.l0]
    obtain rfl : i = 64 := by omega
    rw [if_neg (by omega)]
    rfl
  | succ d ih =>
    intro k i hi hk
    obtain ⟨k, rfl⟩ : ∃ m, k = m + 1 := ⟨k - 1, by omega⟩
    have hw : wrap64 ((i : Int) + 1) = ((i + 1 : Nat) : Int) := by
      rw [i64_small (by omega) (by omega)]
      omega
    have hl : (ints (placesTo x i)).length ≤ 64 := by
      have h1 := count_le x i
      rw [count_len] at h1
      unfold ints
      rw [List.length_map]
      omega
    have hp : ints (placesTo x (i + 1)) = if x.testBit i then ints (placesTo x i) ++ [(i : Int)] else ints (placesTo x i) := by
      unfold placesTo ints
      rw [List.range_succ, List.filter_append, List.map_append]
      cases hb : x.testBit i <;> simp [hb]
    have h := ih k (i + 1) (by omega) (by omega)
    simp only [quarryref03_Each.l0]
    rw [if_pos (by omega), ranks_has x hx i (by omega), hw, if_pos (by omega)]
    simp only [Option.bind_some]
    cases hb : x.testBit i <;> rw [hp, hb] at h
    · exact h
    · exact h

theorem ref_select (x : Nat) (hx : x < 18446744073709551616) (k : Int) : quarryref03_Select.f 200 (x : Int) k = some (selectOf x k) := by
  have he : quarryref03_Each.f 200 (x : Int) = some (ints (places x)) := each_loop x hx 64 200 0 (by omega) (by omega)
  unfold quarryref03_Select.f selectOf
  rw [he]
  simp only [Option.bind_some]
  have hl : (ints (places x)).length = (places x).length := List.length_map _
  by_cases h0 : k < 0
  · rw [if_pos h0, if_neg (by omega)]
  · rw [if_neg h0, hl]
    by_cases h1 : k ≥ ((places x).length : Int)
    · rw [if_pos h1, List.getElem?_eq_none (by omega), if_pos (show 0 ≤ k by omega)]
    · have hlt : k.toNat < (places x).length := by omega
      rw [if_neg h1, if_pos (show 0 ≤ k by omega), if_pos (show k < ((places x).length : Int) by omega), if_pos (show 0 ≤ k by omega), List.getElem?_eq_getElem hlt]
      unfold rd ints
      rw [List.getD_eq_getElem?_getD, List.getElem?_map, List.getElem?_eq_getElem hlt]
      rfl

theorem WordsRanks : quarrylaw03_WordsRanks.Pure := by
  intro a n ha hn
  obtain ⟨h0, h1⟩ := wf_of ha
  obtain ⟨x, rfl⟩ := Int.eq_ofNat_of_zero_le h0
  have hx : x < 18446744073709551616 := by omega
  have hn' : i64ok n := by
    simp [Lit.wf, IntKind.min, IntKind.max, IntKind.bits, IntKind.signed] at hn
    unfold i64ok
    omega
  refine ⟨200, ?_⟩
  have r1 : words_Rank.f (x : Int) n = some (rankOf x n) := by
    unfold words_Rank.f
    rw [if_pos (by omega), Int.toNat_natCast]
  have r2 : quarryref03_Rank.f 200 (x : Int) n = some (rankOf x n) := ranks_loop x hx n 64 200 0 (by omega) (.inr rfl) (by omega)
  have r3 : words_Select.f (x : Int) n = some (selectOf x n) := by
    unfold words_Select.f
    rw [if_pos ⟨⟨h0, h1⟩, hn'⟩, Int.toNat_natCast]
  have r4 : words_Rank.f 1 1 = some 1 := by decide
  unfold quarrylaw03_WordsRanks.f
  rw [r1, r2, r3, ref_select x hx, r4]
  simp
end Go.Proofs.YtjjnmpidlkjeiaaDoor.Pure
