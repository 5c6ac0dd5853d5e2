/- The parities of a word, reckoned by six shifts, are those told bit by bit; put together with themselves moved up they are the word. Plain Lean, no program. -/
import Init.Data.BitVec.Bitblast
namespace Go.Proofs.YtahmpmlbonpabaaDoor.PreMath
open BitVec

/-- An odd number of the n bits that end at the bit i. -/
def win (x : BitVec 64) : Nat → Nat → Bool
  | 0, _ => false
  | n + 1, i => win x n i ^^ (decide (n ≤ i) && x.getLsbD (i - n))
theorem win_add (x : BitVec 64) (n i : Nat) : ∀ m, win x (n + m) i = (win x n i ^^ (decide (n ≤ i) && win x m (i - n)))
  | 0 => by simp [win]
  | m + 1 => by
    show (win x (n + m) i ^^ (decide (n + m ≤ i) && x.getLsbD (i - (n + m)))) = (win x n i ^^ (decide (n ≤ i) && (win x m (i - n) ^^ (decide (m ≤ i - n) && x.getLsbD (i - n - m)))))
    rw [win_add x n i m]
    have e : i - (n + m) = i - n - m := by omega
    rw [e]
    by_cases h : n ≤ i
    · have h2 : decide (n + m ≤ i) = decide (m ≤ i - n) := by
        apply decide_eq_decide.mpr
        omega
      rw [h2]
      simp [h]
    · have h2 : ¬ n + m ≤ i := by omega
      simp [h, h2]
/-- An odd number of the bits 0 to i. -/
def par (x : BitVec 64) : Nat → Bool
  | 0 => x.getLsbD 0
  | i + 1 => par x i ^^ x.getLsbD (i + 1)
theorem win_all (x : BitVec 64) : ∀ i n, i < n → win x n i = par x i
  | 0, n, h => by
    obtain ⟨m, rfl⟩ : ∃ m, n = 1 + m := ⟨n - 1, by omega⟩
    rw [win_add]
    simp [win, par]
  | i + 1, n, h => by
    obtain ⟨m, rfl⟩ : ∃ m, n = 1 + m := ⟨n - 1, by omega⟩
    rw [win_add]
    have := win_all x i m (by omega)
    simp [win, par, this, Bool.xor_comm]
def upstep (n : Nat) (x : BitVec 64) : BitVec 64 := x ^^^ x <<< n
def pre (x : BitVec 64) : BitVec 64 := upstep 32 (upstep 16 (upstep 8 (upstep 4 (upstep 2 (upstep 1 x)))))
theorem upstep_bit (x y : BitVec 64) (n : Nat) (h : ∀ i, i < 64 → y.getLsbD i = win x n i) (i : Nat) (hi : i < 64) : (upstep n y).getLsbD i = win x (n + n) i := by
  unfold upstep
  rw [BitVec.getLsbD_xor, BitVec.getLsbD_shiftLeft, win_add, h i hi]
  by_cases g : n ≤ i
  · have g2 : ¬ i < n := by omega
    rw [h (i - n) (by omega)]
    simp [g, g2, hi]
  · have g2 : i < n := by omega
    simp [g, g2]
theorem pre_bit (x : BitVec 64) (i : Nat) (hi : i < 64) : (pre x).getLsbD i = par x i := by
  rw [← win_all x i 64 hi]
  exact upstep_bit x _ 32 (upstep_bit x _ 16 (upstep_bit x _ 8 (upstep_bit x _ 4 (upstep_bit x _ 2 (upstep_bit x x 1 (fun j _ => by simp [win])))))) i hi
theorem pre_turn (x : BitVec 64) : pre x ^^^ pre x <<< 1 = x := by
  apply BitVec.eq_of_getLsbD_eq
  intro i hi
  rw [BitVec.getLsbD_xor, BitVec.getLsbD_shiftLeft, pre_bit x i hi]
  cases i with
  | zero => simp [par]
  | succ j =>
    rw [show j + 1 - 1 = j from rfl, pre_bit x j (by omega)]
    simp only [par, hi, decide_true, Bool.true_and]
    have g : ¬ j + 1 < 1 := by omega
    simp only [g, decide_false, Bool.not_false, Bool.true_and]
    cases par x j <;> cases x.getLsbD (j + 1) <;> rfl
theorem par_xor (x y : BitVec 64) : ∀ i, par (x ^^^ y) i = (par x i ^^ par y i)
  | 0 => by simp [par]
  | i + 1 => by
    simp only [par, par_xor x y i, BitVec.getLsbD_xor]
    cases par x i <;> cases par y i <;> cases x.getLsbD (i + 1) <;> cases y.getLsbD (i + 1) <;> rfl
theorem pre_xor (x y : BitVec 64) : pre (x ^^^ y) = pre x ^^^ pre y := by
  apply BitVec.eq_of_getLsbD_eq
  intro i hi
  rw [BitVec.getLsbD_xor, pre_bit _ i hi, pre_bit _ i hi, pre_bit _ i hi, par_xor]
end Go.Proofs.YtahmpmlbonpabaaDoor.PreMath
