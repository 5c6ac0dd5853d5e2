/- WordsOrders: the bit of a rank has that rank; a set bit is the bit of its rank; ranks grow by one at a set bit alone. For every word and all numbers. -/
import Derived.Test.YtjjnmpidlkjeiaaDoorStatWordsOrders
import Derived.Test.YtjjnmpidlkjeiaaDoorSelect2
namespace Go.Proofs.YtjjnmpidlkjeiaaDoor.Pure
open Go.RowKit Go.Proofs.YtjjnmpidlkjeiaaDoor.PWordsOrders Go.Proofs.YtjjnmpidlkjeiaaDoorW.PrintWords Go.Proofs.YtjjnmpidlkjeiaaDoorW.PrintLast Go.Proofs.YtjjnmpidlkjeiaaDoorW.PrintMore
open Go.Proofs.YtjjnmpidlkjeiaaDoor Go.Proofs.YtjjnmpidlkjeiaaDoor.Ones Go.Proofs.YtjjnmpidlkjeiaaDoor.U64

theorem orders_bit (x : Nat) (hx : x < 18446744073709551616) (i : Nat) (hi : i < 64) : bits .and .u64 (shr .u64 (x : Int) (IntKind.u64.wrap (i : Int))) 1 = if x.testBit i then 1 else 0 := by
  have e : (x : Int) = I (BitVec.ofNat 64 x) := by
    unfold I
    rw [BitVec.toNat_ofNat, Nat.mod_eq_of_lt (by omega)]
  have hb : (BitVec.ofNat 64 x).getLsbD i = x.testBit i := by
    rw [BitVec.getLsbD_ofNat]
    simp [hi]
  rw [e, shr_word _ i hi, bit_I, hb]
theorem orders_rank (x : Nat) (hx : x < 18446744073709551616) (i : Int) : words_Rank.f (x : Int) i = some (rankOf x i) := by
  unfold words_Rank.f
  rw [if_pos (by omega), Int.toNat_natCast]
theorem orders_select (x : Nat) (hx : x < 18446744073709551616) (i : Int) (hi : i64ok i) : words_Select.f (x : Int) i = some (selectOf x i) := by
  unfold words_Select.f
  rw [if_pos ⟨⟨by omega, by omega⟩, hi⟩, Int.toNat_natCast]
theorem rankOf_nat (x i : Nat) (hi : i ≤ 64) : rankOf x (i : Int) = ((count x i : Nat) : Int) := by
  unfold rankOf
  rw [Int.toNat_natCast, Nat.min_eq_left hi]

theorem orders_high (p q i : Int) (h : i = 9223372036854775807 ∨ p = q) : (if p = q then some true else some (i == 9223372036854775807)) = some true := by
  rcases h with h | h
  · have hb : (i == 9223372036854775807) = true := beq_iff_eq.2 h
    rw [hb]
    split <;> rfl
  · rw [if_pos h]
theorem orders_same (x : Nat) (i : Int) (h : i > 63) (hi : i < 9223372036854775808) : i = 9223372036854775807 ∨ rankOf x i = rankOf x (wrap64 (i + 1)) := by
  by_cases h2 : i = 9223372036854775807
  · exact .inl h2
  · right
    have e : wrap64 (i + 1) = i + 1 := by unfold wrap64; omega
    rw [e]
    unfold rankOf
    rw [Nat.min_eq_right (by omega), Nat.min_eq_right (by omega)]
theorem orders_true (x : Nat) (hx : x < 18446744073709551616) (i : Int) (h : i = 9223372036854775807 ∨ rankOf x i = rankOf x (wrap64 (i + 1))) (k : Nat) : quarrylaw03_WordsOrders.j1 (k + 1) (x : Int) i true = some true := by
  have e1 := orders_rank x hx i
  have e2 := orders_rank x hx (wrap64 (i + 1))
  rw [quarrylaw03_WordsOrders.j1, if_pos rfl, e1, e2, Option.bind_some, Option.bind_some]
  by_cases hpq : rankOf x i = rankOf x (wrap64 (i + 1))
  · rw [if_pos hpq]
  · rw [if_neg hpq]
    have h' := h.resolve_right hpq
    clear h hpq e1 e2 hx
    rw [beq_iff_eq.2 h']
theorem orders_mid (x : Nat) (hx : x < 18446744073709551616) (n : Nat) (hn : n < 64) (k : Nat) : quarrylaw03_WordsOrders.j1 (k + 1) (x : Int) (n : Int) false = some true := by
  have e : wrap64 ((n : Int) + 1) = ((n + 1 : Nat) : Int) := by unfold wrap64; omega
  have hc := count_succ x n
  have hl := count_le x n
  have e1 := orders_rank x hx (n : Int)
  have e2 := orders_rank x hx ((n + 1 : Nat) : Int)
  rw [rankOf_nat x n (by omega)] at e1
  rw [rankOf_nat x (n + 1) (by omega), hc] at e2
  have e3 := orders_select x hx ((count x n : Nat) : Int) (by unfold i64ok; omega)
  have e4 := orders_bit x hx n hn
  have e5 : 0 ≤ IntKind.u64.wrap (n : Int) := by rw [u64_small (by omega) (by omega)]; omega
  rw [quarrylaw03_WordsOrders.j1, if_neg (by decide), e, e2, e1, Option.bind_some, Option.bind_some, if_pos e5, e4, Option.bind_some, e3, Option.bind_some]
  cases hb : x.testBit n
  · rw [if_neg (by decide), if_neg (by decide)]
    have : wrap64 (((count x n + 0 : Nat) : Int) - ((count x n : Nat) : Int)) = 0 := by unfold wrap64; omega
    rw [this]
    rfl
  · rw [if_pos rfl, if_pos rfl, if_pos rfl]
    have : wrap64 (((count x n + 1 : Nat) : Int) - ((count x n : Nat) : Int)) = 1 := by unfold wrap64; omega
    rw [if_pos this, select_at x n hn hb]
    simp
theorem orders_tail (x : Nat) (hx : x < 18446744073709551616) (i : Int) (hi : i64ok i) (k : Nat) : quarrylaw03_WordsOrders.j0 (k + 2) (x : Int) i false = some true := by
  unfold i64ok at hi
  have hN := orders_true x hx i
  have hM := orders_mid x hx
  have hH := orders_same x i
  rw [quarrylaw03_WordsOrders.j0, if_neg (by decide)]
  by_cases h0 : i < 0
  · rw [if_pos h0]
    have e1 : rankOf x i = 0 := rank_zero x (by omega)
    have e2 : rankOf x (wrap64 (i + 1)) = 0 := rank_zero x (by unfold wrap64; omega)
    exact hN (.inr (e1.trans e2.symm)) k
  · rw [if_neg h0]
    by_cases h1 : i > 63
    · rw [decide_eq_true h1]
      exact hN (hH h1 hi.2) k
    · rw [decide_eq_false h1]
      obtain ⟨n, rfl⟩ := Int.eq_ofNat_of_zero_le (show 0 ≤ i by omega)
      exact hM n (by omega) k

theorem WordsOrders : quarrylaw03_WordsOrders.Pure := by
  intro a k i ha hk hi
  obtain ⟨h0, h1⟩ := wf_of ha
  obtain ⟨x, rfl⟩ := Int.eq_ofNat_of_zero_le h0
  have hx : x < 18446744073709551616 := by omega
  have hk' : i64ok k := by
    simp [Lit.wf, IntKind.min, IntKind.max, IntKind.bits, IntKind.signed] at hk
    unfold i64ok
    omega
  have hi' : i64ok i := by
    simp [Lit.wf, IntKind.min, IntKind.max, IntKind.bits, IntKind.signed] at hi
    unfold i64ok
    omega
  refine ⟨2, ?_⟩
  unfold quarrylaw03_WordsOrders.f
  rw [orders_select x hx k hk']
  simp only [Option.bind_some]
  have r64 : rankOf x 64 = ((count x 64 : Nat) : Int) := rankOf_nat x 64 (by omega)
  by_cases hs : 0 ≤ selectOf x k
  · obtain ⟨n, e, h2, h3, h4, h5, h6⟩ := select_ge hs
    rw [e, if_neg (by omega), if_neg (by omega), if_pos (by omega), if_pos (by rw [u64_small (by omega) (by omega)]; omega), orders_bit x hx n h2, h3, if_pos rfl, if_pos rfl, orders_rank x hx, rankOf_nat x n (by omega)]
    simp only [Option.bind_some]
    rw [if_pos h4, if_neg (by omega), orders_rank x hx, r64]
    simp only [Option.bind_some]
    have g1 : decide ((n : Int) < 0) = false := decide_eq_false (by omega)
    have g2 : decide (k ≥ ((count x 64 : Nat) : Int)) = false := decide_eq_false (by omega)
    rw [g1, g2]
    exact orders_tail x hx i hi' 0
  · obtain ⟨e, h2⟩ := select_lt (show selectOf x k < 0 by omega)
    rw [e, if_neg (by omega), if_neg (by omega), if_neg (by omega), orders_rank x hx, r64]
    simp only [Option.bind_some]
    have g1 : decide ((-1 : Int) < 0) = true := rfl
    rw [g1]
    by_cases h3 : k < 0
    · rw [if_pos h3]
      exact orders_tail x hx i hi' 0
    · have g2 : decide (k ≥ ((count x 64 : Nat) : Int)) = true := decide_eq_true (by omega)
      rw [if_neg h3, g2]
      exact orders_tail x hx i hi' 0
end Go.Proofs.YtjjnmpidlkjeiaaDoor.Pure
