/- The bytes' bits together are the word's set bits; a word's bits below a place. Plain Lean, no program. -/
import Derived.Test.YtahmpmlbonpabaaDoorOnes
namespace Go.Proofs.YtahmpmlbonpabaaDoor.Ones

/-- How many bits below n are set. -/
def count (x n : Nat) : Nat := (List.range n).countP (x.testBit ·)
theorem count_split (x k m : Nat) : count x (k + m) = count (x % 2 ^ k) k + count (x / 2 ^ k) m := by
  unfold count
  rw [List.range_add, List.countP_append, List.countP_map]
  congr 1
  · apply List.countP_congr
    intro i hi
    rw [Nat.testBit_mod_two_pow]
    simp [List.mem_range.1 hi]
  · apply List.countP_congr
    intro i _
    simp only [Function.comp_apply, Nat.testBit_div_two_pow]
    rw [Nat.add_comm i k]
theorem pop8_count : ∀ b, b < 256 → pop8 b = count b 8 := by decide +kernel
theorem sum8_count : ∀ n x, sum8 pop8 x n = count x (8 * n)
  | 0, x => rfl
  | n + 1, x => by
    have e : 8 * (n + 1) = 8 + 8 * n := by omega
    rw [e, count_split]
    show pop8 (x % 256) + sum8 pop8 (x / 256) n = count (x % 256) 8 + count (x / 256) (8 * n)
    rw [pop8_count _ (Nat.mod_lt _ (by decide)), sum8_count n]
theorem count_low (x i : Nat) (hi : i ≤ 64) : count (x % 2 ^ i) 64 = count x i := by
  obtain ⟨d, hd⟩ : ∃ d, 64 = i + d := ⟨64 - i, by omega⟩
  rw [hd, count_split]
  have h0 : x % 2 ^ i / 2 ^ i = 0 := Nat.div_eq_of_lt (Nat.mod_lt _ (Nat.two_pow_pos i))
  rw [h0, Nat.mod_mod]
  have h1 : count 0 d = 0 := by
    unfold count
    rw [List.countP_eq_zero]
    intro a _
    simp
  rw [h1, Nat.add_zero]
  unfold count
  apply List.countP_congr
  intro j hj
  rw [Nat.testBit_mod_two_pow]
  simp [List.mem_range.1 hj]
/-- How many bits below a place are set; none of one below 0; all of one from 64 on. -/
def rankOf (x : Nat) (i : Int) : Int := (count x (min i.toNat 64) : Int)
theorem rank_zero (x : Nat) {i : Int} (h : i ≤ 0) : rankOf x i = 0 := by
  unfold rankOf
  have : i.toNat = 0 := by omega
  rw [this]
  rfl
end Go.Proofs.YtahmpmlbonpabaaDoor.Ones
