/- The next row of set bits, by the counts of low noughts of the shifted word and of its complement. Plain Lean. -/
import Derived.Test.YtjjnmpidlkjeiaaDoorRunsPure
namespace Go.Proofs.YtjjnmpidlkjeiaaDoor
theorem ones_is (x : Nat) : ∀ n i c, c ≤ n → (∀ j, j < c → x.testBit (i + j) = true) → (c = n ∨ x.testBit (i + c) = false) → ones x n i = c
  | 0, i, c, hc, _, _ => by
    unfold ones
    omega
  | n + 1, i, c, hc, h1, h2 => by
    unfold ones
    by_cases hb : x.testBit i = true
    · rw [if_pos hb]
      have hc0 : c ≠ 0 := by
        rintro rfl
        rcases h2 with h2 | h2
        · omega
        · rw [Nat.add_zero, hb] at h2
          cases h2
      obtain ⟨d, rfl⟩ : ∃ d, c = d + 1 := ⟨c - 1, by omega⟩
      rw [ones_is x n (i + 1) d (by omega) (fun j hj => by rw [show i + 1 + j = i + (j + 1) from by omega]; exact h1 (j + 1) (by omega)) (h2.elim (fun h => .inl (by omega)) (fun h => .inr (by rw [show i + 1 + d = i + (d + 1) from by omega]; exact h)))]
    · rw [if_neg hb]
      by_cases hc0 : c = 0
      · exact hc0.symm
      · exact absurd (h1 0 (by omega)) (by simpa using hb)
/-- No row is open at the place. -/
def Shut (x p : Nat) : Prop := p = 0 ∨ 64 ≤ p ∨ x.testBit p = false
theorem bit_lt {x i : Nat} (hx : x < 18446744073709551616) (h : x.testBit i = true) : i < 64 := by
  by_cases hi : i < 64
  · exact hi
  · have : x.testBit i = false := Nat.testBit_lt_two_pow (Nat.lt_of_lt_of_le hx (by
      have : 2 ^ 64 ≤ 2 ^ i := Nat.pow_le_pow_right (by decide) (by omega)
      exact this))
    rw [this] at h
    cases h
theorem runs_none (x p : Nat) (h : x >>> p = 0) : runs x (64 - p) p = [] := by
  rw [runs_skip x (64 - p) (64 - p) p (Nat.le_refl _), Nat.sub_self, runs]
  intro j h1 _
  have : x.testBit j = false := by
    rw [show j = p + (j - p) from by omega, ← Nat.testBit_shiftRight, h, Nat.zero_testBit]
  unfold begins
  rw [this]
  rfl
theorem not_bit (y j : Nat) (hy : y < 18446744073709551616) (hj : j < 64) : (18446744073709551615 - y).testBit j = !y.testBit j := by
  have := Nat.testBit_two_pow_sub_succ (x := y) (n := 64) hy j
  rw [show (2 : Nat) ^ 64 - (y + 1) = 18446744073709551615 - y from by omega] at this
  rw [this, decide_eq_true hj, Bool.true_and]
theorem run_next (x p : Nat) (hx : x < 18446744073709551616) (hp : p < 64) (hS : Shut x p) (h0 : x >>> p ≠ 0) :
    p + Lib.ctz 64 (x >>> p) < 64 ∧ 0 < Lib.ctz 64 (18446744073709551615 - x >>> (p + Lib.ctz 64 (x >>> p))) ∧
    p + Lib.ctz 64 (x >>> p) + Lib.ctz 64 (18446744073709551615 - x >>> (p + Lib.ctz 64 (x >>> p))) ≤ 64 ∧
    runs x (64 - p) p = (p + Lib.ctz 64 (x >>> p), Lib.ctz 64 (18446744073709551615 - x >>> (p + Lib.ctz 64 (x >>> p)))) :: runs x (64 - (p + Lib.ctz 64 (x >>> p) + Lib.ctz 64 (18446744073709551615 - x >>> (p + Lib.ctz 64 (x >>> p))))) (p + Lib.ctz 64 (x >>> p) + Lib.ctz 64 (18446744073709551615 - x >>> (p + Lib.ctz 64 (x >>> p)))) ∧
    Shut x (p + Lib.ctz 64 (x >>> p) + Lib.ctz 64 (18446744073709551615 - x >>> (p + Lib.ctz 64 (x >>> p)))) := by
  have hlt : ∀ k, x >>> k < 18446744073709551616 := fun k => Nat.lt_of_le_of_lt (by rw [Nat.shiftRight_eq_div_pow]; exact Nat.div_le_self _ _) hx
  obtain ⟨hz, hb, hlow, _⟩ := ctz_bits (x >>> p) h0 (hlt p)
  generalize Lib.ctz 64 (x >>> p) = z at *
  rw [Nat.testBit_shiftRight] at hb
  have ha := bit_lt hx hb
  have hlow' : ∀ j, p ≤ j → j < p + z → x.testBit j = false := by
    intro j h1 h2
    have := hlow (j - p) (by omega)
    rwa [Nat.testBit_shiftRight, show p + (j - p) = j from by omega] at this
  obtain ⟨a, rfl⟩ : ∃ a, a = p + z := ⟨_, rfl⟩
  clear hlow
  generalize hae : p + z = a at *
  have hy := hlt a
  have hbit : ∀ j, (x >>> a).testBit j = x.testBit (a + j) := fun j => Nat.testBit_shiftRight _
  have key : ∃ n, Lib.ctz 64 (18446744073709551615 - x >>> a) = n ∧ 0 < n ∧ a + n ≤ 64 ∧ (∀ j, j < n → x.testBit (a + j) = true) ∧ (a + n = 64 ∨ x.testBit (a + n) = false) := by
    by_cases hfull : 18446744073709551615 - x >>> a = 0
    · have e : x >>> a = 18446744073709551615 := by omega
      have h64 : ∀ j, j < 64 → x.testBit (a + j) = true := by
        intro j hj
        rw [← hbit, e]
        have := Nat.testBit_two_pow_sub_one 64 j
        rw [show (2 : Nat) ^ 64 - 1 = 18446744073709551615 from by decide] at this
        rw [this, decide_eq_true hj]
      have ha0 : a = 0 := by
        have := bit_lt hx (h64 63 (by decide))
        omega
      refine ⟨64, by rw [hfull]; rfl, by decide, by omega, h64, .inl (by omega)⟩
    · obtain ⟨h1, h2, h3, _⟩ := ctz_bits _ hfull (Nat.lt_of_le_of_lt (Nat.sub_le _ _) (by decide))
      generalize Lib.ctz 64 (18446744073709551615 - x >>> a) = c at *
      rw [not_bit _ _ hy h1, hbit] at h2
      have h3' : ∀ j, j < c → x.testBit (a + j) = true := by
        intro j hj
        have := h3 j hj
        rw [not_bit _ _ hy (by omega), hbit] at this
        simpa using this
      have hc0 : c ≠ 0 := by
        rintro rfl
        rw [Nat.add_zero, hb] at h2
        cases h2
      have hle : a + c ≤ 64 := by
        have := bit_lt hx (h3' (c - 1) (by omega))
        omega
      exact ⟨c, rfl, by omega, hle, h3', .inr (by simpa using h2)⟩
  obtain ⟨n, hn, hn0, hle, hset, hend⟩ := key
  rw [hn]
  have hbeg : begins x a = true := by
    unfold begins
    rw [hb]
    by_cases h : 0 < a
    · have hprev : x.testBit (a - 1) = false := by
        by_cases hz0 : z = 0
        · rcases hS with h' | h' | h'
          · omega
          · omega
          · exfalso
            rw [show p = a from by omega, hb] at h'
            cases h'
        · exact hlow' (a - 1) (by omega) (by omega)
      rw [hprev]
      simp
    · rw [decide_eq_false h]
      rfl
  have hones : ones x (64 - a) a = n := ones_is x _ a n (by omega) hset (hend.elim (fun h => .inl (by omega)) .inr)
  refine ⟨ha, hn0, hle, ?_, ?_⟩
  · rw [runs_skip x z (64 - p) p (by omega), hae, show 64 - p - z = 64 - a from by omega, runs_row x (64 - a) a (by omega) hbeg, hones, show 64 - a - n = 64 - (a + n) from by omega]
    intro j h1 h2
    unfold begins
    rw [hlow' j h1 (by omega)]
    rfl
  · rcases hend with h | h
    · exact .inr (.inl (by omega))
    · exact .inr (.inr h)
end Go.Proofs.YtjjnmpidlkjeiaaDoor
