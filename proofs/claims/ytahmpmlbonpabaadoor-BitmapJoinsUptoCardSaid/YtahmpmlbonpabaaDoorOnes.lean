/- How many bits of a word are set, reckoned byte by byte by masks and shifts. Plain Lean, no program. -/
import Derived.Test.YtahmpmlbonpabaaDoorPlaces
namespace Go.Proofs.YtahmpmlbonpabaaDoor.Ones

/-- A mask of n bytes. -/
def mask (m : Nat) : Nat → Nat
  | 0 => 0
  | n + 1 => m + 256 * mask m n
/-- A number's bytes, each turned by f. -/
def each (f : Nat → Nat) : Nat → Nat → Nat
  | _, 0 => 0
  | x, n + 1 => f (x % 256) + 256 * each f (x / 256) n

theorem and_low (a m k : Nat) (hm : m < 256) : a &&& (m + 256 * k) = ((a % 256) &&& m) + 256 * ((a / 256) &&& k) := by
  have h1 : ((a % 2 ^ 8) &&& m) < 2 ^ 8 := Nat.lt_of_le_of_lt Nat.and_le_right hm
  show a &&& (m + 2 ^ 8 * k) = ((a % 2 ^ 8) &&& m) + 2 ^ 8 * ((a / 2 ^ 8) &&& k)
  apply Nat.eq_of_testBit_eq
  intro i
  rw [Nat.testBit_and, Nat.add_comm m, Nat.add_comm ((a % 2 ^ 8) &&& m), Nat.testBit_two_pow_mul_add _ (by omega), Nat.testBit_two_pow_mul_add _ h1]
  by_cases hi : i < 8
  · rw [if_pos hi, if_pos hi, Nat.testBit_and, Nat.testBit_mod_two_pow]
    simp [hi]
  · rw [if_neg hi, if_neg hi, Nat.testBit_and, Nat.testBit_div_two_pow]
    have : 8 + (i - 8) = i := by omega
    rw [Nat.add_comm (i - 8) 8, this]

theorem mask_and (m : Nat) (hm : m < 256) : ∀ n a, a &&& mask m n = each (fun b => b &&& m) a n
  | 0, a => by simp [mask, each]
  | n + 1, a => by
    show a &&& (m + 256 * mask m n) = _
    rw [and_low a m _ hm, mask_and m hm n]
    rfl

theorem each_lt (f : Nat → Nat) (hf : ∀ b, b < 256 → f b < 256) : ∀ n x, each f x n < 256 ^ n
  | 0, x => by simp [each]
  | n + 1, x => by
    have h1 := each_lt f hf n (x / 256)
    have h2 := hf (x % 256) (Nat.mod_lt _ (by decide))
    show f (x % 256) + 256 * each f (x / 256) n < 256 ^ (n + 1)
    rw [Nat.pow_succ]
    omega
theorem each_add (f g : Nat → Nat) : ∀ n x, each f x n + each g x n = each (fun b => f b + g b) x n
  | 0, x => rfl
  | n + 1, x => by
    have := each_add f g n (x / 256)
    simp only [each]
    omega
/-- Bytes that stay below 256 can be turned again. -/
theorem each_each (f g : Nat → Nat) (hf : ∀ b, b < 256 → f b < 256) : ∀ n x, each g (each f x n) n = each (fun b => g (f b)) x n
  | 0, x => rfl
  | n + 1, x => by
    have h2 := hf (x % 256) (Nat.mod_lt _ (by decide))
    have e1 : (f (x % 256) + 256 * each f (x / 256) n) % 256 = f (x % 256) := by omega
    have e2 : (f (x % 256) + 256 * each f (x / 256) n) / 256 = each f (x / 256) n := by omega
    simp only [each, e1, e2, each_each f g hf n (x / 256)]
/-- A number moved down, its bytes masked: what comes from the byte above is masked away. -/
theorem shift_mask (s m : Nat) (hs : s ≤ 8) (hm : m < 256) (hz : ∀ b, b < 256 → ∀ c, c < 256 → ((b / 2 ^ s + 2 ^ (8 - s) * (c % 2 ^ s)) &&& m) = (b / 2 ^ s) &&& m) :
    ∀ n x, (x / 2 ^ s) &&& mask m n = each (fun b => (b / 2 ^ s) &&& m) x n
  | 0, x => by simp [mask, each]
  | n + 1, x => by
    show (x / 2 ^ s) &&& (m + 256 * mask m n) = _
    rw [and_low _ m _ hm]
    have e1 : x / 2 ^ s / 256 = (x / 256) / 2 ^ s := by rw [Nat.div_div_eq_div_mul, Nat.div_div_eq_div_mul, Nat.mul_comm]
    have hp : 2 ^ s * 2 ^ (8 - s) = 256 := by
      rw [← Nat.pow_add]
      have : s + (8 - s) = 8 := by omega
      rw [this]
    have e2 : x / 2 ^ s % 256 = (x % 256) / 2 ^ s + 2 ^ (8 - s) * ((x / 256) % 256 % 2 ^ s) := by
      have hps : 0 < 2 ^ s := Nat.two_pow_pos s
      have hx : x = 256 * (x / 256) + x % 256 := by omega
      have h3 : x / 2 ^ s = 2 ^ (8 - s) * (x / 256) + (x % 256) / 2 ^ s := by
        have : x / 2 ^ s = (2 ^ s * (2 ^ (8 - s) * (x / 256)) + x % 256) / 2 ^ s := by
          rw [← Nat.mul_assoc, hp, ← hx]
        rw [this, Nat.mul_add_div hps]
      rw [h3]
      have h4 : (x / 256) % 256 % 2 ^ s = (x / 256) % 2 ^ s := by
        apply Nat.mod_mod_of_dvd
        exact ⟨2 ^ (8 - s), hp.symm⟩
      rw [h4]
      generalize x / 256 = q
      have hr : (x % 256) / 2 ^ s < 2 ^ (8 - s) := by
        rw [Nat.div_lt_iff_lt_mul hps, Nat.mul_comm, hp]
        exact Nat.mod_lt _ (by decide)
      generalize (x % 256) / 2 ^ s = r at *
      have h5 : q = 2 ^ s * (q / 2 ^ s) + q % 2 ^ s := (Nat.div_add_mod q (2 ^ s)).symm
      have h6 : 2 ^ (8 - s) * q + r = 256 * (q / 2 ^ s) + (r + 2 ^ (8 - s) * (q % 2 ^ s)) := by
        conv => lhs; rw [h5]
        rw [Nat.mul_add, ← Nat.mul_assoc, Nat.mul_comm (2 ^ (8 - s)), hp]
        omega
      rw [h6]
      have h7 : r + 2 ^ (8 - s) * (q % 2 ^ s) < 256 := by
        have h8 : q % 2 ^ s < 2 ^ s := Nat.mod_lt _ hps
        have h9 : 2 ^ (8 - s) * (q % 2 ^ s) ≤ 2 ^ (8 - s) * (2 ^ s - 1) := Nat.mul_le_mul_left _ (by omega)
        have h10 : 2 ^ (8 - s) * (2 ^ s - 1) + 2 ^ (8 - s) = 256 := by
          rw [Nat.mul_sub, Nat.mul_one, Nat.mul_comm, hp]
          have : 2 ^ (8 - s) ≤ 256 := by
            rw [← hp]
            exact Nat.le_mul_of_pos_left _ hps
          omega
        omega
      omega
    rw [e1, e2, hz _ (Nat.mod_lt _ (by decide)) _ (Nat.mod_lt _ (by decide)), shift_mask s m hs hm hz n (x / 256)]
    rfl

def pop8 (b : Nat) : Nat := b % 2 + b / 2 % 2 + b / 4 % 2 + b / 8 % 2 + b / 16 % 2 + b / 32 % 2 + b / 64 % 2 + b / 128 % 2

def f1 (b : Nat) : Nat := (b / 2 &&& 85) + (b &&& 85)
def f2 (b : Nat) : Nat := (b / 4 &&& 51) + (b &&& 51)
theorem f1_lt : ∀ b, b < 256 → f1 b < 256 := by decide +kernel
theorem f2_lt : ∀ b, b < 256 → f2 b < 256 := by decide +kernel
theorem f21_small : ∀ b, b < 256 → f2 (f1 b) % 16 + f2 (f1 b) / 16 = pop8 b ∧ f2 (f1 b) < 256 := by decide +kernel
theorem m1 : mask 85 8 = 6148914691236517205 := by decide
theorem m2 : mask 51 8 = 3689348814741910323 := by decide
theorem m3 : mask 15 8 = 1085102592571150095 := by decide
theorem z1 : ∀ b, b < 256 → ∀ c, c < 256 → ((b / 2 ^ 1 + 2 ^ (8 - 1) * (c % 2 ^ 1)) &&& 85) = (b / 2 ^ 1) &&& 85 := by decide +kernel
theorem z2 : ∀ b, b < 256 → ∀ c, c < 256 → ((b / 2 ^ 2 + 2 ^ (8 - 2) * (c % 2 ^ 2)) &&& 51) = (b / 2 ^ 2) &&& 51 := by decide +kernel

theorem stage1 (x : Nat) : (x / 2 &&& 6148914691236517205) + (x &&& 6148914691236517205) = each f1 x 8 := by
  rw [← m1, show x / 2 = x / 2 ^ 1 from rfl, shift_mask 1 85 (by decide) (by decide) z1, mask_and 85 (by decide) 8 x, each_add]
  rfl
theorem stage2 (x : Nat) : (x / 4 &&& 3689348814741910323) + (x &&& 3689348814741910323) = each f2 x 8 := by
  rw [← m2, show x / 4 = x / 2 ^ 2 from rfl, shift_mask 2 51 (by decide) (by decide) z2, mask_and 51 (by decide) 8 x, each_add]
  rfl
/-- What the two stages leave: in each half byte the bits of that half. -/
def two (x : Nat) : Nat := each (fun b => f2 (f1 b)) x 8
theorem two_is (x : Nat) : each f2 (each f1 x 8) 8 = two x := each_each f1 f2 f1_lt 8 x
def sum8 (f : Nat → Nat) : Nat → Nat → Nat
  | _, 0 => 0
  | x, n + 1 => f (x % 256) + sum8 f (x / 256) n

theorem third : ∀ n x, ((each (fun b => f2 (f1 b)) x n) / 16 + each (fun b => f2 (f1 b)) x n) &&& mask 15 n = each pop8 x n
  | 0, x => by simp [mask, each]
  | n + 1, x => by
    have hb := f21_small (x % 256) (Nat.mod_lt _ (by decide))
    have ih := third n (x / 256)
    have hnext : (each (fun b => f2 (f1 b)) (x / 256) n) % 16 ≤ 4 ∨ n = 0 := by
      cases n with
      | zero => exact .inr rfl
      | succ n =>
        left
        have h4 : ∀ b, b < 256 → f2 (f1 b) % 16 ≤ 4 := by decide +kernel
        have := h4 (x / 256 % 256) (Nat.mod_lt _ (by decide))
        simp only [each]
        omega
    have h8 : ∀ b, b < 256 → f2 (f1 b) / 16 ≤ 4 ∧ f2 (f1 b) % 16 ≤ 4 := by decide +kernel
    have hh := h8 (x % 256) (Nat.mod_lt _ (by decide))
    show _ &&& (15 + 256 * mask 15 n) = pop8 (x % 256) + 256 * each pop8 (x / 256) n
    rw [and_low _ 15 _ (by decide)]
    have hE : each (fun b => f2 (f1 b)) x (n + 1) = f2 (f1 (x % 256)) + 256 * each (fun b => f2 (f1 b)) (x / 256) n := rfl
    rw [hE]
    generalize hy : each (fun b => f2 (f1 b)) (x / 256) n = y at *
    generalize hc : f2 (f1 (x % 256)) = c at *
    have e1 : (c + 256 * y) / 16 = c / 16 + 16 * y := by omega
    have hy0 : n = 0 → y = 0 := by
      rintro rfl
      rw [← hy]
      rfl
    have hy4 : y % 16 ≤ 4 := by
      rcases hnext with h | h
      · exact h
      · rw [hy0 h]
        decide
    have e2 : ((c + 256 * y) / 16 + (c + 256 * y)) % 256 = (c / 16 + c + 16 * (y % 16)) := by omega
    have e3 : ((c + 256 * y) / 16 + (c + 256 * y)) / 256 = y / 16 + y := by omega
    rw [e2, e3, ih]
    congr 1
    have e4 : (c / 16 + c + 16 * (y % 16)) &&& 15 = (c / 16 + c + 16 * (y % 16)) % 16 := by
      have := Nat.and_two_pow_sub_one_eq_mod (c / 16 + c + 16 * (y % 16)) 4
      simpa using this
    rw [e4]
    omega

theorem each_le (f : Nat → Nat) (c : Nat) (hf : ∀ b, b < 256 → f b ≤ c) : ∀ n x, 255 * each f x n ≤ c * (256 ^ n - 1)
  | 0, x => by simp [each]
  | n + 1, x => by
    have h1 := each_le f c hf n (x / 256)
    have h2 := hf (x % 256) (Nat.mod_lt _ (by decide))
    have h3 : 0 < 256 ^ n := Nat.pow_pos (by decide)
    simp only [each]
    have e : c * (256 ^ (n + 1) - 1) = c * 255 + 256 * (c * (256 ^ n - 1)) := by
      rw [Nat.pow_succ]
      obtain ⟨m, hm⟩ : ∃ m, 256 ^ n = m + 1 := ⟨256 ^ n - 1, by omega⟩
      rw [hm, Nat.add_sub_cancel, show (m + 1) * 256 - 1 = 255 + 256 * m from by omega, Nat.mul_add, Nat.mul_left_comm]
    rw [e]
    generalize c * (256 ^ n - 1) = q at *
    omega

theorem pop8_le : ∀ b, b < 256 → pop8 b ≤ 8 := by decide +kernel
/-- The bytes' sum, by three shifts. -/
theorem fold (x : Nat) :
    let t := each pop8 x 8
    let u := (t + t / 256) % 18446744073709551616
    let v := (u + u / 65536) % 18446744073709551616
    let z := (v + v / 4294967296) % 18446744073709551616
    z % 128 = sum8 pop8 x 8 ∧ z < 4611686018427387904 := by
  have g : ∀ y, pop8 (y % 256) ≤ 8 := fun y => pop8_le _ (Nat.mod_lt _ (by decide))
  have g0 := g x
  have g1 := g (x / 256)
  have g2 := g (x / 256 / 256)
  have g3 := g (x / 256 / 256 / 256)
  have g4 := g (x / 256 / 256 / 256 / 256)
  have g5 := g (x / 256 / 256 / 256 / 256 / 256)
  have g6 := g (x / 256 / 256 / 256 / 256 / 256 / 256)
  have g7 := g (x / 256 / 256 / 256 / 256 / 256 / 256 / 256)
  simp only [each, sum8]
  generalize pop8 (x % 256) = a0 at *
  generalize pop8 (x / 256 % 256) = a1 at *
  generalize pop8 (x / 256 / 256 % 256) = a2 at *
  generalize pop8 (x / 256 / 256 / 256 % 256) = a3 at *
  generalize pop8 (x / 256 / 256 / 256 / 256 % 256) = a4 at *
  generalize pop8 (x / 256 / 256 / 256 / 256 / 256 % 256) = a5 at *
  generalize pop8 (x / 256 / 256 / 256 / 256 / 256 / 256 % 256) = a6 at *
  generalize pop8 (x / 256 / 256 / 256 / 256 / 256 / 256 / 256 % 256) = a7 at *
  clear g
  obtain ⟨t7, h7⟩ : ∃ t7, a7 + 256 * 0 = t7 := ⟨_, rfl⟩
  rw [h7]
  obtain ⟨t6, h6⟩ : ∃ t6, a6 + 256 * t7 = t6 := ⟨_, rfl⟩
  rw [h6]
  obtain ⟨t5, h5⟩ : ∃ t5, a5 + 256 * t6 = t5 := ⟨_, rfl⟩
  rw [h5]
  obtain ⟨t4, h4⟩ : ∃ t4, a4 + 256 * t5 = t4 := ⟨_, rfl⟩
  rw [h4]
  obtain ⟨t3, h3⟩ : ∃ t3, a3 + 256 * t4 = t3 := ⟨_, rfl⟩
  rw [h3]
  obtain ⟨t2, h2⟩ : ∃ t2, a2 + 256 * t3 = t2 := ⟨_, rfl⟩
  rw [h2]
  obtain ⟨t1, h1⟩ : ∃ t1, a1 + 256 * t2 = t1 := ⟨_, rfl⟩
  rw [h1]
  obtain ⟨t0, h0⟩ : ∃ t0, a0 + 256 * t1 = t0 := ⟨_, rfl⟩
  rw [h0]
  have b7 : t7 ≤ 8 := by omega
  have b6 : t6 ≤ 2056 := by clear h0 h1 h2 h3 h4 h5 h7; omega
  have b5 : t5 ≤ 526344 := by clear h0 h1 h2 h3 h4 h6 h7; omega
  have b4 : t4 ≤ 134744072 := by clear h0 h1 h2 h3 h5 h6 h7; omega
  have b3 : t3 ≤ 34494482440 := by clear h0 h1 h2 h4 h5 h6 h7; omega
  have b2 : t2 ≤ 8830587504648 := by clear h0 h1 h3 h4 h5 h6 h7; omega
  have b1 : t1 ≤ 2260630401189896 := by clear h0 h2 h3 h4 h5 h6 h7; omega
  have b0 : t0 ≤ 578721382704613384 := by clear h1 h2 h3 h4 h5 h6 h7; omega
  have e7 : t7 = a7 := by omega
  have u0 : t0 / 256 = t1 := by clear h1 h2 h3 h4 h5 h6 h7; omega
  rw [u0, Nat.mod_eq_of_lt (show t0 + t1 < 18446744073709551616 by clear h0 h1 h2 h3 h4 h5 h6 h7; omega)]
  have v0 : (t0 + t1) / 65536 = t2 + t3 := by clear h3 h4 h5 h6 h7; omega
  rw [v0, Nat.mod_eq_of_lt (show t0 + t1 + (t2 + t3) < 18446744073709551616 by clear h0 h1 h2 h3 h4 h5 h6 h7; omega)]
  have l0 : t0 = (a0 + 256 * a1 + 65536 * a2 + 16777216 * a3) + 4294967296 * t4 := by clear h4 h5 h6 h7; omega
  have l1 : t1 = (a1 + 256 * a2 + 65536 * a3 + 16777216 * a4) + 4294967296 * t5 := by clear h0 h5 h6 h7; omega
  have l2 : t2 = (a2 + 256 * a3 + 65536 * a4 + 16777216 * a5) + 4294967296 * t6 := by clear h0 h1 h6 h7; omega
  have l3 : t3 = (a3 + 256 * a4 + 65536 * a5 + 16777216 * a6) + 4294967296 * t7 := by clear h0 h1 h2 h7; omega
  have w0 : (t0 + t1 + (t2 + t3)) / 4294967296 = t4 + t5 + t6 + t7 := by clear h0 h1 h2 h3 h4 h5 h6 h7; omega
  rw [w0, Nat.mod_eq_of_lt (show t0 + t1 + (t2 + t3) + (t4 + t5 + t6 + t7) < 18446744073709551616 by clear l0 l1 l2 l3 h0 h1 h2 h3 h4 h5 h6 h7; omega)]
  refine ⟨?_, by clear l0 l1 l2 l3 h0 h1 h2 h3 h4 h5 h6 h7; omega⟩
  clear l0 l1 l2 l3 u0 v0 w0 b0 b1 b2 b3 b4 b5 b6 b7
  have z0 : t0 + t1 + (t2 + t3) + (t4 + t5 + t6 + t7) = (a0 + a1 + a2 + a3 + a4 + a5 + a6 + a7) + 256 * (t1 + t2 + t3 + t4 + t5 + t6 + t7) := by omega
  rw [z0]
  clear z0 h0 h1 h2 h3 h4 h5 h6 h7
  omega
end Go.Proofs.YtahmpmlbonpabaaDoor.Ones
