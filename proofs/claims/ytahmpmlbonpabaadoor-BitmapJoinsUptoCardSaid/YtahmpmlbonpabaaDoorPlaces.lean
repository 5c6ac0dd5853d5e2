/- The places of a word's set bits, rising: the lowest one, and those of the word without it. Plain Lean, no program. -/
import Derived.Lib.TrailingZeros
namespace Go.Proofs.YtahmpmlbonpabaaDoor

/-- The places of the set bits below n, rising. -/
def placesTo (x : Nat) (n : Nat) : List Nat := (List.range n).filter (x.testBit ·)
def places (x : Nat) : List Nat := placesTo x 64

theorem ctz_bits (x : Nat) (h0 : x ≠ 0) (h : x < 18446744073709551616) :
    Lib.ctz 64 x < 64 ∧ x.testBit (Lib.ctz 64 x) = true ∧ (∀ j, j < Lib.ctz 64 x → x.testBit j = false) ∧ (∀ j, (x &&& (x - 1)).testBit j = (decide (j ≠ Lib.ctz 64 x) && x.testBit j)) := by
  obtain ⟨m, hm, hk⟩ := Lib.ctzFrom_spec 64 x (by omega) h
  have e : Lib.ctz 64 x = Lib.ctzFrom 64 x := by simp [Lib.ctz, h0]
  rw [e]
  generalize Lib.ctzFrom 64 x = c at *
  have hp : 0 < 2 ^ c := Nat.two_pow_pos c
  have bit : ∀ j, x.testBit j = (decide (c ≤ j) && (2 * m + 1).testBit (j - c)) := by
    intro j
    rw [hm, Nat.testBit_two_pow_mul]
  have hx1 : x - 1 = 2 ^ c * (2 * m) + (2 ^ c - 1) := by
    have : 2 ^ c * (2 * m + 1) = 2 ^ c * (2 * m) + 2 ^ c := by rw [Nat.mul_add, Nat.mul_one]
    omega
  have bit1 : ∀ j, (x - 1).testBit j = if j < c then true else (2 * m).testBit (j - c) := by
    intro j
    rw [hx1, Nat.testBit_two_pow_mul_add _ (by omega)]
    by_cases hj : j < c
    · rw [if_pos hj, if_pos hj, Nat.testBit_two_pow_sub_one]
      simp [hj]
    · rw [if_neg hj, if_neg hj]
  refine ⟨hk, ?_, ?_, ?_⟩
  · rw [bit]
    simp
  · intro j hj
    rw [bit]
    have : ¬ c ≤ j := by omega
    simp [this]
  · intro j
    rw [Nat.testBit_and, bit, bit1]
    by_cases hj : j < c
    · have h1 : ¬ c ≤ j := by omega
      simp [h1]
    · rw [if_neg hj]
      have h1 : c ≤ j := by omega
      by_cases he : j = c
      · subst he
        simp
      · obtain ⟨d, hd⟩ : ∃ d, j - c = d + 1 := ⟨j - c - 1, by omega⟩
        rw [hd]
        simp only [h1, decide_true, Bool.true_and, he, ne_eq, not_false_eq_true]
        rw [Nat.testBit_succ, Nat.testBit_succ]
        have a1 : (2 * m + 1) / 2 = m := by omega
        have a2 : 2 * m / 2 = m := by omega
        rw [a1, a2, Bool.and_self]

theorem filter_split (p q : Nat → Bool) (c : Nat) (hlow : ∀ j, j < c → p j = false) (hc : p c = true) (hq : ∀ j, q j = (decide (j ≠ c) && p j)) : ∀ n, c < n →
    (List.range n).filter p = c :: (List.range n).filter q := by
  intro n hn
  obtain ⟨d, rfl⟩ : ∃ d, n = (c + 1) + d := ⟨n - (c + 1), by omega⟩
  clear hn
  rw [List.range_add, List.filter_append, List.filter_append, List.range_succ, List.filter_append, List.filter_append]
  have z1 : (List.range c).filter p = [] := by
    rw [List.filter_eq_nil_iff]
    intro a ha
    rw [hlow a (List.mem_range.1 ha)]
    decide
  have z2 : (List.range c).filter q = [] := by
    rw [List.filter_eq_nil_iff]
    intro a ha
    rw [hq a, hlow a (List.mem_range.1 ha)]
    simp
  have z3 : [c].filter p = [c] := by simp [hc]
  have z4 : [c].filter q = [] := by simp [hq]
  rw [z1, z2, z3, z4]
  simp only [List.nil_append, List.singleton_append]
  congr 1
  apply List.filter_congr
  intro a ha
  obtain ⟨b, _, rfl⟩ := List.mem_map.1 ha
  rw [hq]
  have : c + 1 + b ≠ c := by omega
  simp [this]

theorem places_cons (x : Nat) (h0 : x ≠ 0) (h : x < 18446744073709551616) : places x = Lib.ctz 64 x :: places (x &&& (x - 1)) := by
  obtain ⟨h1, h2, h3, h4⟩ := ctz_bits x h0 h
  exact filter_split (x.testBit ·) ((x &&& (x - 1)).testBit ·) (Lib.ctz 64 x) h3 h2 h4 64 h1
theorem places_zero : places 0 = [] := by
  unfold places placesTo
  rw [List.filter_eq_nil_iff]
  intro a _
  simp
theorem places_length (x : Nat) : (places x).length ≤ 64 := by
  have := List.length_filter_le (x.testBit ·) (List.range 64)
  simpa [places, placesTo] using this
end Go.Proofs.YtahmpmlbonpabaaDoor
