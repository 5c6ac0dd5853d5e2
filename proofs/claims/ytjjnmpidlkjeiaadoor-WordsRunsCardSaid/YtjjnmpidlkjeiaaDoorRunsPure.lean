/- Rows of set bits of a word: plain Lean. -/
import Derived.Test.YtjjnmpidlkjeiaaDoorPlaces
namespace Go.Proofs.YtjjnmpidlkjeiaaDoor
/-- How many set places stand in a row from i on, n at most. -/
def ones (x : Nat) : Nat → Nat → Nat
  | 0, _ => 0
  | n + 1, i => if x.testBit i then ones x n (i + 1) + 1 else 0
theorem ones_le (x : Nat) : ∀ n i, ones x n i ≤ n
  | 0, _ => Nat.le_refl _
  | n + 1, i => by
    unfold ones
    split
    · have := ones_le x n (i + 1)
      omega
    · omega
/-- Does a row begin here? -/
def begins (x i : Nat) : Bool := x.testBit i && !(decide (0 < i) && x.testBit (i - 1))
/-- The rows that begin among the n places from i on. -/
def runs (x : Nat) : Nat → Nat → List (Nat × Nat)
  | 0, _ => []
  | n + 1, i => if begins x i then (i, ones x (n + 1) i) :: runs x n (i + 1) else runs x n (i + 1)
theorem runs_skip (x : Nat) : ∀ z n i, z ≤ n → (∀ j, i ≤ j → j < i + z → begins x j = false) → runs x n i = runs x (n - z) (i + z)
  | 0, _, _, _, _ => rfl
  | z + 1, 0, _, h, _ => by omega
  | z + 1, n + 1, i, h, hz => by
    rw [runs, hz i (by omega) (by omega), if_neg (by decide), runs_skip x z n (i + 1) (by omega) (fun j h1 h2 => hz j (by omega) (by omega))]
    congr 1
    · omega
    · omega
theorem ones_set (x : Nat) : ∀ n i j, j < ones x n i → x.testBit (i + j) = true
  | 0, _, _, h => by simp [ones] at h
  | n + 1, i, j, h => by
    unfold ones at h
    split at h
    · cases j with
      | zero => assumption
      | succ j =>
        have := ones_set x n (i + 1) j (by omega)
        rw [show i + (j + 1) = i + 1 + j from by omega]
        exact this
    · omega
theorem ones_stop (x : Nat) : ∀ n i, ones x n i < n → x.testBit (i + ones x n i) = false
  | 0, _, h => by omega
  | n + 1, i, h => by
    unfold ones at h ⊢
    split
    · rename_i hb
      rw [if_pos hb] at h
      have := ones_stop x n (i + 1) (by omega)
      rw [show i + (ones x n (i + 1) + 1) = i + 1 + ones x n (i + 1) from by omega]
      exact this
    · rename_i hb
      simpa using hb
/-- A row, and what comes behind it. -/
theorem runs_row (x n i : Nat) (hn : 0 < n) (hb : begins x i = true) : runs x n i = (i, ones x n i) :: runs x (n - ones x n i) (i + ones x n i) := by
  obtain ⟨n, rfl⟩ : ∃ m, n = m + 1 := ⟨n - 1, by omega⟩
  have hset : x.testBit i = true := by
    unfold begins at hb
    simp at hb
    exact hb.1
  have ho : ones x (n + 1) i = ones x n (i + 1) + 1 := by
    rw [ones, if_pos hset]
  rw [runs, if_pos hb, ho, runs_skip x (ones x n (i + 1)) n (i + 1) (ones_le x n (i + 1))]
  · congr 2
    · omega
    · omega
  · intro j h1 h2
    have a1 : x.testBit j = true := by
      have := ones_set x n (i + 1) (j - (i + 1)) (by omega)
      rwa [show i + 1 + (j - (i + 1)) = j from by omega] at this
    have a2 : x.testBit (j - 1) = true := by
      by_cases hj : j = i + 1
      · rw [hj, Nat.add_sub_cancel]; exact hset
      · have := ones_set x n (i + 1) (j - 1 - (i + 1)) (by omega)
        rwa [show i + 1 + (j - 1 - (i + 1)) = j - 1 from by omega] at this
    unfold begins
    rw [a1, a2, decide_eq_true (show 0 < j by omega)]
    rfl
end Go.Proofs.YtjjnmpidlkjeiaaDoor
