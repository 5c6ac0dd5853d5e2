/- Joined texts of one law. -/
import Derived.Test.YtahmpmlbonpabaaStatBitmapMakes
import Derived.Test.YtahmpmlbonpabaaWbit
import Derived.Test.YtahmpmlbonpabaaU64b
/- Rows of words: what the printed functions of the bitmap tell, in terms of the set places below a place and of the place of a rank. -/
namespace Go.Proofs.Ytahmpmlbonpabaa.BitmapMakesPure
open Go.RowKit Go.Proofs.Ytahmpmlbonpabaa.PBitmapMakes Go.Proofs.YtahmpmlbonpabaaW.PrintWords Go.Proofs.YtahmpmlbonpabaaW.PrintLast Go.Proofs.YtahmpmlbonpabaaW.PrintMore
open Go.Proofs.Ytahmpmlbonpabaa Go.Proofs.Ytahmpmlbonpabaa.Ones Go.Proofs.Ytahmpmlbonpabaa.U64

def ints (ws : List Nat) : List Int := ws.map (fun n : Nat => (n : Int))
/-- A row of words within its bounds. -/
structure Row (ws : List Nat) : Prop where
  word : ∀ w ∈ ws, w < 18446744073709551616
  len : ws.length * 8 ≤ 140737488351232
theorem ints_len (ws : List Nat) : (ints ws).length = ws.length := List.length_map _
theorem ints_rd (ws : List Nat) (i : Nat) : rd (ints ws) (i : Int) = ((ws.getD i 0 : Nat) : Int) := by
  unfold rd ints
  rw [Int.toNat_natCast, List.getD_eq_getElem?_getD, List.getElem?_map, List.getD_eq_getElem?_getD]
  cases ws[i]? <;> rfl
theorem Row.at {ws : List Nat} (h : Row ws) (i : Nat) : ws.getD i 0 < 18446744073709551616 := by
  rw [List.getD_eq_getElem?_getD]
  cases hi : ws[i]? with
  | none => decide
  | some w => exact h.word w (List.mem_of_getElem? hi)
theorem row_ex {l : List Int} (h1 : l.length * 8 ≤ 140737488351232) (h2 : ∀ x ∈ l, (Lit.int .u64 x).wf = true) : ∃ ws, l = ints ws ∧ Row ws := by
  refine ⟨l.map Int.toNat, ?_, ⟨?_, by rw [List.length_map]; exact h1⟩⟩
  · unfold ints
    rw [List.map_map]
    conv => lhs; rw [← List.map_id l]
    apply List.map_congr_left
    intro x hx
    have := wf_of (h2 x hx)
    simp
    omega
  · intro w hw
    obtain ⟨x, hx, rfl⟩ := List.mem_map.1 hw
    have := wf_of (h2 x hx)
    omega
theorem i64_in {i : Int} (h0 : -4611686018427387904 ≤ i) (h1 : i < 4611686018427387904) : wrap64 i = i := by
  unfold wrap64
  omega
theorem tmod_nat (n : Nat) : Int.tmod (n : Int) 64 = ((n % 64 : Nat) : Int) := (Int.ofNat_tmod n 64).symm
theorem tdiv_nat (n : Nat) : Int.tdiv (n : Int) 64 = ((n / 64 : Nat) : Int) := (Int.ofNat_tdiv n 64).symm
def need (n : Nat) : Nat := if n % 64 = 0 then n / 64 else n / 64 + 1
theorem size_is (n : Nat) (hn : n < 9223372036854775808) : bitmap_size.f (n : Int) = some ((need n : Nat) : Int) := by
  unfold bitmap_size.f need
  rw [tmod_nat, tdiv_nat, i64_in (by omega) (by omega)]
  by_cases h : n % 64 = 0
  · rw [if_pos (by omega), if_pos h]
  · rw [if_neg (by omega), if_neg h, i64_in (by omega) (by omega)]
    congr 1
def tailN (n : Nat) : Nat := if n % 64 = 0 then 18446744073709551615 else 2 ^ (n % 64) - 1
theorem tail_is (n : Nat) : bitmap_tail.f (n : Int) = some ((tailN n : Nat) : Int) := by
  unfold bitmap_tail.f PTailF.bitmap_tail.f tailN
  rw [tmod_nat]
  by_cases h : n % 64 = 0
  · rw [if_pos (by omega), if_pos h]
    rfl
  · have hr : n % 64 < 64 := Nat.mod_lt _ (by decide)
    have hp : (2 : Nat) ^ (n % 64) ≤ 2 ^ 63 := Nat.pow_le_pow_right (by decide) (by omega)
    have hp0 : 0 < (2 : Nat) ^ (n % 64) := Nat.two_pow_pos _
    rw [if_neg (by omega), if_neg h, if_pos (by omega)]
    congr 1
    unfold shl
    rw [Int.toNat_natCast, Nat.min_eq_left (by simp [IntKind.bits]; omega), Int.one_mul, pow_cast, IntKind.wrap_u64, IntKind.wrap_u64]
    generalize (2 : Nat) ^ (n % 64) = q at *
    omega

/-- Is it a row? -/
def formedB (n : Int) (ws : List Nat) : Bool := decide (0 ≤ n) && (decide (ws.length = need n.toNat) && (decide (n = 0) || decide (ws.getD (ws.length - 1) 0 &&& (18446744073709551615 - tailN n.toNat) = 0)))

theorem andNot_nat (a b : Nat) (ha : a < 18446744073709551616) (hb : b < 18446744073709551616) : Go.bits .andNot .u64 (a : Int) (b : Int) = ((a &&& (18446744073709551615 - b) : Nat) : Int) := by
  rw [andNot_I]
  unfold I B
  rw [BitVec.toNat_and, BitVec.toNat_not, BitVec.ofInt_natCast, BitVec.ofInt_natCast, BitVec.toNat_ofNat, BitVec.toNat_ofNat, Nat.mod_eq_of_lt (by omega), Nat.mod_eq_of_lt (by omega)]
theorem tailN_lt (n : Nat) : tailN n < 18446744073709551616 := by
  unfold tailN
  have hr : n % 64 < 64 := Nat.mod_lt _ (by decide)
  have hp : (2 : Nat) ^ (n % 64) ≤ 2 ^ 63 := Nat.pow_le_pow_right (by decide) (by omega)
  generalize (2 : Nat) ^ (n % 64) = q at *
  split <;> omega
theorem formed_is (n : Int) (hn : n < 9223372036854775808) (ws : List Nat) (h : Row ws) : bitmap_Formed.f n (ints ws) = some (formedB n ws) := by
  unfold bitmap_Formed.f formedB
  by_cases h0 : n < 0
  · rw [if_pos h0]
    have : ¬ 0 ≤ n := by omega
    simp [this]
  · obtain ⟨m, rfl⟩ := Int.eq_ofNat_of_zero_le (show 0 ≤ n by omega)
    rw [if_neg h0, size_is m (by omega), Option.bind_some, ints_len, Int.toNat_natCast]
    by_cases h1 : ws.length = need m
    · rw [if_pos (by omega)]
      by_cases h2 : (m : Int) = 0
      · rw [if_pos h2]
        simp [h1, h2]
      · have hl := h.len
        have hpos : 0 < ws.length := by
          rw [h1]
          unfold need
          split <;> omega
        have e : wrap64 ((ws.length : Int) - 1) = ((ws.length - 1 : Nat) : Int) := by
          rw [i64_in (by omega) (by omega)]
          omega
        rw [if_neg h2, e, if_pos (by omega), if_pos (by omega), tail_is, Option.bind_some, ints_rd, andNot_nat _ _ (h.at _) (tailN_lt m)]
        congr 1
        rw [decide_eq_false h2, decide_eq_true h1]
        simp
        rw [Bool.eq_iff_iff]
        simp
    · rw [if_neg (by omega), decide_eq_false h1]
      simp

theorem and_comp_zero (a r : Nat) (ha : a < 18446744073709551616) (hr : r < 64) (h : a &&& (18446744073709551615 - (2 ^ r - 1)) = 0) : a < 2 ^ r := by
  apply Nat.lt_of_not_le
  intro hge
  obtain ⟨i, hi, hb⟩ := Nat.exists_ge_and_testBit_of_ge_two_pow hge
  have hi64 : i < 64 := by
    apply Nat.lt_of_not_le
    intro h64
    have : a < 2 ^ i := Nat.lt_of_lt_of_le ha (by
      have : (2 : Nat) ^ 64 ≤ 2 ^ i := Nat.pow_le_pow_right (by decide) h64
      exact this)
    rw [Nat.testBit_lt_two_pow this] at hb
    cases hb
  have hp : (2 : Nat) ^ r ≤ 2 ^ 63 := Nat.pow_le_pow_right (by decide) (by omega)
  have hp0 : 0 < (2 : Nat) ^ r := Nat.two_pow_pos _
  have hc : (18446744073709551615 - (2 ^ r - 1)).testBit i = true := by
    have e : 18446744073709551615 - (2 ^ r - 1) = 2 ^ 64 - ((2 ^ r - 1) + 1) := by
      have : (2 : Nat) ^ 64 = 18446744073709551616 := by decide
      omega
    rw [e, Nat.testBit_two_pow_sub_succ (by have : (2 : Nat) ^ 64 = 18446744073709551616 := by decide
                                            omega)]
    rw [Nat.testBit_two_pow_sub_one]
    simp
    omega
  have := congrArg (fun x => x.testBit i) h
  simp only [Nat.testBit_and, hb, hc] at this
  simp at this

/-- What a row is: its length is a number of places within its words, and none behind it is set. -/
theorem formed_gives {n : Int} {ws : List Nat} (h : Row ws) (hf : formedB n ws = true) : ∃ N : Nat, n = (N : Int) ∧ N ≤ 64 * ws.length ∧ ws.length = need N ∧ ∀ i, N ≤ i → wbit ws i = false := by
  unfold formedB at hf
  simp only [Bool.and_eq_true, Bool.or_eq_true, decide_eq_true_eq] at hf
  obtain ⟨h0, h1, h2⟩ := hf
  obtain ⟨N, rfl⟩ := Int.eq_ofNat_of_zero_le h0
  rw [Int.toNat_natCast] at h1 h2
  refine ⟨N, rfl, ?_, h1, ?_⟩
  · rw [h1]
    unfold need
    split <;> omega
  · intro i hi
    unfold wbit
    by_cases hlt : i / 64 < ws.length
    · rcases h2 with h2 | h2
      · have : N = 0 := by omega
        subst this
        rw [h1] at hlt
        simp [need] at hlt
      · have hq : i / 64 = ws.length - 1 ∧ N % 64 ≠ 0 ∧ N % 64 ≤ i % 64 := by
          unfold need at h1
          by_cases hz : N % 64 = 0
          · rw [if_pos hz] at h1
            omega
          · rw [if_neg hz] at h1
            omega
        rw [hq.1]
        unfold tailN at h2
        rw [if_neg hq.2.1] at h2
        have := and_comp_zero _ _ (h.at _) (Nat.mod_lt N (by decide)) h2
        exact Nat.testBit_lt_two_pow (Nat.lt_of_lt_of_le this (Nat.pow_le_pow_right (by decide) hq.2.2))
    · rw [List.getD_eq_getElem?_getD, List.getElem?_eq_none (by omega)]
      simp
end Go.Proofs.Ytahmpmlbonpabaa.BitmapMakesPure

/- What the reference of the bitmap tells of a row of words: whole or not. -/
namespace Go.Proofs.Ytahmpmlbonpabaa.BitmapMakesPure
open Go.RowKit Go.Proofs.Ytahmpmlbonpabaa.PBitmapMakes Go.Proofs.YtahmpmlbonpabaaW.PrintWords Go.Proofs.YtahmpmlbonpabaaW.PrintLast Go.Proofs.YtahmpmlbonpabaaW.PrintMore
open Go.Proofs.Ytahmpmlbonpabaa Go.Proofs.Ytahmpmlbonpabaa.Ones Go.Proofs.Ytahmpmlbonpabaa.U64

theorem refneed_is (n : Nat) (hn : n < 9223372036854775808) : quarryref04_need.f (n : Int) = some ((need n : Nat) : Int) := by
  unfold quarryref04_need.f need
  rw [tmod_nat, tdiv_nat]
  by_cases h : n % 64 = 0
  · rw [if_pos (by omega), if_pos h, i64_in (by omega) (by omega)]
  · rw [if_neg (by omega), if_neg h, i64_in (i := ((n / 64 : Nat) : Int)) (by omega) (by omega), i64_in (by omega) (by omega)]
    congr 1
theorem refbit_at (x : Nat) (hx : x < 18446744073709551616) (i : Nat) (hi : i < 64) : (Int.tmod (shr .u64 (x : Int) (i : Int)) 2 == 1) = x.testBit i := by
  have e : (x : Int) = I (BitVec.ofNat 64 x) := by
    unfold I
    rw [BitVec.toNat_ofNat, Nat.mod_eq_of_lt (by omega)]
  have ei : (i : Int) = IntKind.u64.wrap (i : Int) := by
    rw [IntKind.wrap_u64]
    omega
  rw [e, ei, shr_word _ i hi]
  unfold I
  rw [BitVec.toNat_ushiftRight, BitVec.toNat_ofNat, Nat.mod_eq_of_lt (by omega), Nat.shiftRight_eq_div_pow, Nat.testBit_eq_decide_div_mod_eq]
  generalize x / 2 ^ i = y
  rw [show Int.tmod (y : Int) 2 = ((y % 2 : Nat) : Int) from (Int.ofNat_tmod y 2).symm]
  by_cases h : y % 2 = 1
  · rw [h]
    rfl
  · have h0 : y % 2 = 0 := by omega
    rw [h0]
    rfl
theorem refbit_is {ws : List Nat} (h : Row ws) (i : Nat) (hi : i < 64 * ws.length) : quarryref04_bit.f (ints ws) (i : Int) = some (wbit ws i) := by
  have hl := h.len
  unfold quarryref04_bit.f
  have hr : i % 64 < 64 := Nat.mod_lt _ (by decide)
  have hu : IntKind.u64.wrap ((i % 64 : Nat) : Int) = ((i % 64 : Nat) : Int) := by rw [IntKind.wrap_u64]; omega
  rw [tmod_nat, tdiv_nat, i64_in (by omega) (by omega), if_pos (by omega), ints_len, if_pos (by omega), hu, if_pos (by omega), ints_rd]
  rw [refbit_at _ (h.at (i / 64)) _ hr]
  rfl
theorem refformed_l0 {ws : List Nat} (h : Row ws) (n : Int) : ∀ m i k, i + m = 64 * ws.length → m < k → ∃ b, quarryref04_Formed.l0 k (i : Int) n (ints ws) = some b ∧ (b = true ↔ ∀ j, i ≤ j → j < 64 * ws.length → wbit ws j = false) := by
  have hl := h.len
  have hw : wrap64 (64 * ((ints ws).length : Int)) = ((64 * ws.length : Nat) : Int) := by
    rw [ints_len, i64_in (by omega) (by omega)]
    omega
  intro m
  induction m with
  | zero =>
    intro i k hi hk
    obtain ⟨k, rfl⟩ : ∃ k', k = k' + 1 := ⟨k - 1, by omega⟩
    refine ⟨true, ?_, ⟨fun _ j h1 h2 => by omega, fun _ => rfl⟩⟩
    rw [quarryref04_Formed.l0, hw, if_neg (by omega)]
  | succ m ih =>
    intro i k hi hk
    obtain ⟨k, rfl⟩ : ∃ k', k = k' + 1 := ⟨k - 1, by omega⟩
    have hstep : quarryref04_Formed.l0 (k + 1) (i : Int) n (ints ws) = if wbit ws i = true then some false else quarryref04_Formed.l0 k ((i + 1 : Nat) : Int) n (ints ws) := by
      rw [quarryref04_Formed.l0, hw, if_pos (by omega), refbit_is h i (by omega), Option.bind_some, i64_in (by omega) (by omega)]
      rfl
    by_cases hb : wbit ws i = true
    · refine ⟨false, by rw [hstep, if_pos hb], ⟨fun g => absurd g (by decide), fun g => ?_⟩⟩
      have := g i (Nat.le_refl _) (by omega)
      rw [hb] at this
      cases this
    · obtain ⟨b, e1, e2⟩ := ih (i + 1) k (by omega) (by omega)
      refine ⟨b, by rw [hstep, if_neg hb, e1], ?_⟩
      rw [e2]
      constructor
      · intro g j h1 h2
        by_cases hj : j = i
        · subst hj
          cases hc : wbit ws j
          · rfl
          · exact absurd hc hb
        · exact g j (by omega) h2
      · intro g j h1 h2
        exact g j (by omega) h2
theorem formedB_iff {ws : List Nat} (h : Row ws) (n : Int) : formedB n ws = true ↔ (0 ≤ n ∧ ws.length = need n.toNat ∧ ∀ j, n.toNat ≤ j → j < 64 * ws.length → wbit ws j = false) := by
  constructor
  · intro hf
    obtain ⟨N, rfl, h1, h2, h3⟩ := formed_gives h hf
    refine ⟨by omega, ?_, ?_⟩
    · rw [Int.toNat_natCast]; exact h2
    · intro j hj _
      rw [Int.toNat_natCast] at hj
      exact h3 j hj
  · rintro ⟨h0, h1, h2⟩
    unfold formedB
    rw [decide_eq_true h0, decide_eq_true h1, Bool.true_and, Bool.true_and]
    by_cases hn : n = 0
    · rw [decide_eq_true hn, Bool.true_or]
    · rw [decide_eq_false hn, Bool.false_or]
      apply decide_eq_true
      obtain ⟨N, rfl⟩ : ∃ N : Nat, n = (N : Int) := ⟨n.toNat, by omega⟩
      rw [Int.toNat_natCast] at *
      by_cases hr : N % 64 = 0
      · unfold tailN
        rw [if_pos hr, Nat.sub_self, Nat.and_zero]
      · unfold need at h1
        rw [if_neg hr] at h1
        unfold tailN
        rw [if_neg hr]
        apply Nat.eq_of_testBit_eq
        intro i
        have hp : 2 ^ (N % 64) ≤ 2 ^ 63 := Nat.pow_le_pow_right (by decide) (by omega)
        have hpos : 0 < 2 ^ (N % 64) := Nat.pow_pos (by decide)
        rw [Nat.testBit_and, Nat.zero_testBit, show 18446744073709551615 - (2 ^ (N % 64) - 1) = 2 ^ 64 - ((2 ^ (N % 64) - 1) + 1) from by omega, Nat.testBit_two_pow_sub_succ (by omega), Nat.testBit_two_pow_sub_one]
        by_cases hi : i < 64
        · by_cases hi2 : i < N % 64
          · rw [decide_eq_true hi2, Bool.not_true, Bool.and_false, Bool.and_false]
          · have := h2 (64 * (ws.length - 1) + i) (by omega) (by omega)
            rw [wbit_at ws _ i hi] at this
            rw [this, Bool.false_and]
        · rw [decide_eq_false hi, Bool.false_and, Bool.and_false]
theorem refformed_is {ws : List Nat} (h : Row ws) (n : Int) (hn : n < 9223372036854775808) (k : Nat) (hk : 64 * ws.length + 5 < k) : quarryref04_Formed.f k n (ints ws) = some (formedB n ws) := by
  obtain ⟨k, rfl⟩ : ∃ k', k = k' + 1 := ⟨k - 1, by omega⟩
  have hno : ¬ (0 ≤ n ∧ ws.length = need n.toNat) → formedB n ws = false := by
    intro g
    cases hf : formedB n ws
    · rfl
    · have := (formedB_iff h n).1 hf
      exact absurd ⟨this.1, this.2.1⟩ g
  unfold quarryref04_Formed.f
  by_cases h0 : n < 0
  · rw [if_pos h0, quarryref04_Formed.j0, if_pos rfl, hno (by omega)]
  · obtain ⟨N, rfl⟩ : ∃ N : Nat, n = (N : Int) := ⟨n.toNat, by omega⟩
    rw [if_neg h0, refneed_is N (by omega), Option.bind_some, quarryref04_Formed.j0, ints_len]
    by_cases hl : ws.length = need N
    · have hN : N ≤ 64 * ws.length := by
        rw [hl]
        unfold need
        split <;> omega
      obtain ⟨b, e1, e2⟩ := refformed_l0 h N (64 * ws.length - N) N k (by omega) (by omega)
      rw [if_neg (by rw [hl]; simp), e1]
      congr 1
      rw [Bool.eq_iff_iff, e2, formedB_iff h]
      rw [Int.toNat_natCast]
      exact ⟨fun g => ⟨by omega, hl, g⟩, fun g => g.2.2⟩
    · rw [if_pos (by simp; omega), hno (by rw [Int.toNat_natCast]; exact fun g => hl g.2)]
end Go.Proofs.Ytahmpmlbonpabaa.BitmapMakesPure

/- A row of words out of its places: word by word; one row alone has these places. What the reference's Of and Set tell. -/
set_option linter.unusedVariables false
namespace Go.Proofs.Ytahmpmlbonpabaa.BitmapMakesPure
open Go.RowKit Go.Proofs.Ytahmpmlbonpabaa.PBitmapMakes Go.Proofs.YtahmpmlbonpabaaW.PrintWords Go.Proofs.YtahmpmlbonpabaaW.PrintLast Go.Proofs.YtahmpmlbonpabaaW.PrintMore
open Go.Proofs.Ytahmpmlbonpabaa Go.Proofs.Ytahmpmlbonpabaa.Ones Go.Proofs.Ytahmpmlbonpabaa.U64

/-- A word's upper places, gathered from the top. -/
def wordAcc (p : Nat → Bool) (i : Nat) : Nat → Nat
  | 0 => 0
  | m + 1 => 2 * wordAcc p i m + (if p (64 * i + (63 - m)) then 1 else 0)
theorem wordAcc_lt (p : Nat → Bool) (i : Nat) : ∀ m, wordAcc p i m < 2 ^ m
  | 0 => Nat.one_pos
  | m + 1 => by
    have := wordAcc_lt p i m
    rw [wordAcc, Nat.pow_succ]
    split <;> omega
theorem wordAcc_bit (p : Nat → Bool) (i : Nat) : ∀ m, m ≤ 64 → ∀ b, b < m → (wordAcc p i m).testBit b = p (64 * i + (64 - m) + b)
  | 0, _, b, hb => by omega
  | m + 1, hm, b, hb => by
    rw [wordAcc]
    cases b with
    | zero =>
      rw [Nat.testBit_zero, show 64 * i + (64 - (m + 1)) + 0 = 64 * i + (63 - m) from by omega]
      cases p (64 * i + (63 - m))
      · rw [if_neg (by decide)]
        exact decide_eq_false (by omega)
      · rw [if_pos rfl]
        exact decide_eq_true (by omega)
    | succ b =>
      rw [Nat.testBit_add_one]
      have e : (2 * wordAcc p i m + (if p (64 * i + (63 - m)) then 1 else 0)) / 2 = wordAcc p i m := by split <;> omega
      rw [e, wordAcc_bit p i m (by omega) b (by omega)]
      congr 1
      omega
theorem word_eq (p : Nat → Bool) (i : Nat) {v : Nat} (hv : v < 18446744073709551616) (h : ∀ b, b < 64 → v.testBit b = p (64 * i + b)) : v = wordAcc p i 64 := by
  apply Nat.eq_of_testBit_eq
  intro b
  have hl := wordAcc_lt p i 64
  by_cases hb : b < 64
  · rw [h b hb, wordAcc_bit p i 64 (Nat.le_refl _) b hb]
    rfl
  · have h2 : (2 : Nat) ^ 64 ≤ 2 ^ b := Nat.pow_le_pow_right (by decide) (by omega)
    rw [Nat.testBit_lt_two_pow (Nat.lt_of_lt_of_le hl h2), Nat.testBit_lt_two_pow (Nat.lt_of_lt_of_le hv h2)]
def rows (p : Nat → Bool) (m : Nat) : List Nat := (List.range m).map (fun i => wordAcc p i 64)
theorem rows_len (p : Nat → Bool) (m : Nat) : (rows p m).length = m := by
  unfold rows
  rw [List.length_map, List.length_range]
theorem rows_get (p : Nat → Bool) (m i : Nat) (h : i < m) : (rows p m).getD i 0 = wordAcc p i 64 := by
  unfold rows
  rw [List.getD_eq_getElem?_getD, List.getElem?_map, List.getElem?_range h]
  rfl
theorem rows_succ (p : Nat → Bool) (m : Nat) : rows p (m + 1) = rows p m ++ [wordAcc p m 64] := by
  unfold rows
  rw [List.range_succ, List.map_append]
  rfl
theorem rows_lt (p : Nat → Bool) (m : Nat) : ∀ w ∈ rows p m, w < 18446744073709551616 := by
  intro w hw
  obtain ⟨i, _, rfl⟩ := List.mem_map.1 hw
  exact wordAcc_lt p i 64
theorem rows_bit (p : Nat → Bool) (m j : Nat) (h : j < 64 * m) : wbit (rows p m) j = p j := by
  have e : j = 64 * (j / 64) + j % 64 := by omega
  have hr : j % 64 < 64 := Nat.mod_lt _ (by decide)
  rw [e, wbit_at _ _ _ hr, rows_get p m _ (by omega), wordAcc_bit p _ 64 (Nat.le_refl _) _ hr]
  rfl
theorem rows_congr {p q : Nat → Bool} (m : Nat) (h : ∀ j, j < 64 * m → p j = q j) : rows p m = rows q m := by
  unfold rows
  apply List.map_congr_left
  intro i hi
  have hi := List.mem_range.1 hi
  have hl := wordAcc_lt p i 64
  refine word_eq q i hl (fun b hb => ?_)
  rw [wordAcc_bit p i 64 (Nat.le_refl _) b hb, ← h (64 * i + b) (by omega)]
  rfl
theorem wbit_far (ws : List Nat) (j : Nat) (h : 64 * ws.length ≤ j) : wbit ws j = false := by
  unfold wbit
  rw [List.getD_eq_getElem?_getD, List.getElem?_eq_none (by omega)]
  simp
/-- A row is what its places say. -/
theorem rows_of {ws : List Nat} (hw : ∀ w ∈ ws, w < 18446744073709551616) (p : Nat → Bool) (h : ∀ j, j < 64 * ws.length → wbit ws j = p j) : ws = rows p ws.length := by
  apply List.ext_getElem (rows_len _ _).symm
  intro i h1 h2
  have e := rows_get p ws.length i h1
  rw [List.getD_eq_getElem?_getD, List.getElem?_eq_getElem h2] at e
  refine Eq.trans ?_ e.symm
  refine word_eq p i (hw _ (List.getElem_mem h1)) (fun b hb => ?_)
  rw [← h (64 * i + b) (by omega), wbit_at _ _ _ hb, List.getD_eq_getElem?_getD, List.getElem?_eq_getElem h1]
  rfl
/-- The places below the length. -/
def upTo (N : Nat) (p : Nat → Bool) (j : Nat) : Bool := decide (j < N) && p j
def rowOf (p : Nat → Bool) (N : Nat) : List Nat := rows (upTo N p) (need N)
theorem need_ge (N : Nat) : N ≤ 64 * need N := by
  unfold need
  split <;> omega
theorem need_le (N : Nat) : 64 * need N < N + 64 := by
  unfold need
  split <;> omega
theorem rowOf_congr {p q : Nat → Bool} (N : Nat) (h : ∀ j, j < N → p j = q j) : rowOf p N = rowOf q N := by
  unfold rowOf
  apply rows_congr
  intro j _
  unfold upTo
  by_cases hj : j < N
  · rw [h j hj]
  · rw [decide_eq_false hj]
    rfl
/-- The last word without what stands behind the length. -/
def cutRow (L : List Nat) (N : Nat) : List Nat := if N = 0 then L else L.set (L.length - 1) (L.getD (L.length - 1) 0 &&& tailN N)
theorem tailN_bit (N b : Nat) (hb : b < 64) : (tailN N).testBit b = (decide (N % 64 = 0) || decide (b < N % 64)) := by
  unfold tailN
  by_cases h : N % 64 = 0
  · rw [if_pos h, decide_eq_true h, show (18446744073709551615 : Nat) = 2 ^ 64 - 1 from by decide, Nat.testBit_two_pow_sub_one, decide_eq_true hb]
    rfl
  · rw [if_neg h, decide_eq_false h, Nat.testBit_two_pow_sub_one]
    rfl
theorem cutRow_is {L : List Nat} {N : Nat} (hL : ∀ w ∈ L, w < 18446744073709551616) (hlen : L.length = need N) (q : Nat → Bool) (hq : ∀ j, j < N → wbit L j = q j) : cutRow L N = rowOf q N := by
  have hl : (cutRow L N).length = L.length := by
    unfold cutRow
    split
    · rfl
    · rw [List.length_set]
  have hat : ∀ i, L.getD i 0 < 18446744073709551616 := by
    intro i
    rw [List.getD_eq_getElem?_getD]
    cases hi : L[i]? with
    | none => decide
    | some w => exact hL w (List.mem_of_getElem? hi)
  have hw : ∀ w ∈ cutRow L N, w < 18446744073709551616 := by
    intro w h
    unfold cutRow at h
    split at h
    · exact hL w h
    · rcases List.mem_or_eq_of_mem_set h with h | h
      · exact hL w h
      · rw [h]
        exact Nat.lt_of_le_of_lt Nat.and_le_left (hat _)
  have hn1 := need_ge N
  have hn2 := need_le N
  have e := rows_of hw (upTo N q) (fun j hj => by
    rw [hl] at hj
    unfold cutRow
    by_cases h0 : N = 0
    · subst h0
      rw [hlen] at hj
      simp [need] at hj
    rw [if_neg h0]
    have hr : j % 64 < 64 := Nat.mod_lt _ (by decide)
    have hdm : j = 64 * (j / 64) + j % 64 := by omega
    unfold upTo
    by_cases hlast : j / 64 = L.length - 1
    · have hv : wbit (L.set (L.length - 1) (L.getD (L.length - 1) 0 &&& tailN N)) j = ((L.getD (L.length - 1) 0 &&& tailN N).testBit (j % 64)) := by
        unfold wbit
        rw [hlast, List.getD_eq_getElem?_getD, List.getElem?_set_self (by omega)]
        rfl
      rw [hv, Nat.testBit_and, tailN_bit N _ hr]
      have hb : wbit L j = (L.getD (L.length - 1) 0).testBit (j % 64) := by
        unfold wbit
        rw [hlast]
      rw [← hb]
      unfold need at hlen hn1 hn2
      by_cases hz : N % 64 = 0
      · rw [if_pos hz] at hlen
        have hjN : j < N := by omega
        rw [decide_eq_true hz, decide_eq_true hjN, hq j hjN, Bool.true_or, Bool.and_true, Bool.true_and]
      · rw [if_neg hz] at hlen
        rw [decide_eq_false hz, Bool.false_or]
        by_cases hjN : j < N
        · rw [decide_eq_true hjN, decide_eq_true (by omega), hq j hjN, Bool.and_true, Bool.true_and]
        · rw [decide_eq_false hjN, decide_eq_false (by omega), Bool.and_false, Bool.false_and]
    · have hv : wbit (L.set (L.length - 1) (L.getD (L.length - 1) 0 &&& tailN N)) j = wbit L j := by
        unfold wbit
        rw [List.getD_eq_getElem?_getD, List.getElem?_set_ne (by omega), ← List.getD_eq_getElem?_getD]
      have hjN : j < N := by
        unfold need at hlen
        split at hlen <;> omega
      rw [hv, hq j hjN, decide_eq_true hjN, Bool.true_and])
  rw [hl, hlen] at e
  exact e
/-- The truths of places. -/
def sets (p : Nat → Bool) (N : Nat) : List Bool := (List.range N).map p
theorem sets_len (p : Nat → Bool) (N : Nat) : (sets p N).length = N := by
  unfold sets
  rw [List.length_map, List.length_range]
theorem sets_rd (p : Nat → Bool) (N i : Nat) (h : i < N) : rdOf false (sets p N) (i : Int) = p i := by
  unfold rdOf sets
  rw [Int.toNat_natCast, List.getD_eq_getElem?_getD, List.getElem?_map, List.getElem?_range h]
  rfl
theorem sets_congr {p q : Nat → Bool} (N : Nat) (h : ∀ j, j < N → p j = q j) : sets p N = sets q N := by
  unfold sets
  apply List.map_congr_left
  intro j hj
  exact h j (List.mem_range.1 hj)
theorem sets_get (p : Nat → Bool) (N j : Nat) (h : j < (sets p N).length) : (sets p N)[j] = p j := by
  simp [sets]
theorem sets_set (p : Nat → Bool) (N i : Nat) (v : Bool) : (sets p N).set i v = sets (fun j => if j = i then v else p j) N := by
  apply List.ext_getElem
  · rw [List.length_set, sets_len, sets_len]
  · intro j h1 h2
    rw [List.getElem_set, sets_get, sets_get]
    by_cases hj : j = i
    · rw [if_pos hj.symm, if_pos hj]
    · rw [if_neg (fun h => hj h.symm), if_neg hj]
theorem sets_succ (p : Nat → Bool) (i : Nat) : sets p (i + 1) = sets p i ++ [p i] := by
  unfold sets
  rw [List.range_succ, List.map_append]
  rfl
theorem upTo_rd (p : Nat → Bool) (N j : Nat) : (if ((j : Nat) : Int) < ((sets p N).length : Int) then rdOf false (sets p N) (j : Int) else false) = upTo N p j := by
  unfold upTo
  rw [sets_len]
  by_cases h : j < N
  · rw [if_pos (by omega), sets_rd p N j h, decide_eq_true h, Bool.true_and]
  · rw [if_neg (by omega), decide_eq_false h, Bool.false_and]
theorem refof_l1 (p : Nat → Bool) (N i : Nat) (hN : i < 1048576) (n : Int) (out : List Int) (hout : out.length < 17592186044416) (k : Nat) : ∀ d m, m + d = 64 →
    quarryref04_Of.l1 (k + d + 1) (sets p N) (i : Int) ((wordAcc (upTo N p) i m : Nat) : Int) (63 - (m : Int)) n out = quarryref04_Of.l0 k (sets p N) ((i + 1 : Nat) : Int) n (out ++ [((wordAcc (upTo N p) i 64 : Nat) : Int)]) := by
  intro d
  induction d with
  | zero =>
    intro m hm
    obtain rfl : m = 64 := by omega
    rw [quarryref04_Of.l1, if_neg (by omega), if_pos hout, i64_in (by omega) (by omega)]
    rfl
  | succ d ih =>
    intro m hm
    have hlt := wordAcc_lt (upTo N p) i m
    have hp : (2 : Nat) ^ m ≤ 2 ^ 63 := Nat.pow_le_pow_right (by decide) (by omega)
    have e0 : wrap64 (64 * (i : Int)) = ((64 * i : Nat) : Int) := by rw [i64_in (by omega) (by omega)]; omega
    have e1 : wrap64 (((64 * i : Nat) : Int) + (63 - (m : Int))) = ((64 * i + (63 - m) : Nat) : Int) := by rw [i64_in (by omega) (by omega)]; omega
    have e2 : wrap64 (63 - (m : Int) - 1) = 63 - ((m + 1 : Nat) : Int) := by rw [i64_in (by omega) (by omega)]; omega
    have e3 : IntKind.u64.wrap (2 * ((wordAcc (upTo N p) i m : Nat) : Int)) = ((2 * wordAcc (upTo N p) i m : Nat) : Int) := by rw [IntKind.wrap_u64]; omega
    have e4 : IntKind.u64.wrap (((2 * wordAcc (upTo N p) i m : Nat) : Int) + 1) = ((2 * wordAcc (upTo N p) i m + 1 : Nat) : Int) := by rw [IntKind.wrap_u64]; omega
    have hu := upTo_rd p N (64 * i + (63 - m))
    have hs : wordAcc (upTo N p) i (m + 1) = 2 * wordAcc (upTo N p) i m + (if upTo N p (64 * i + (63 - m)) then 1 else 0) := rfl
    have ih' := ih (m + 1) (by omega)
    rw [show k + (d + 1) + 1 = (k + d + 1) + 1 from rfl, quarryref04_Of.l1, if_pos (by omega), e0, e1, e2, e3, e4]
    clear e0 e1 e2 e3 e4 hp hlt ih
    by_cases hb : upTo N p (64 * i + (63 - m)) = true
    · rw [hb, if_pos rfl] at hs
      rw [hs] at ih'
      rw [hb] at hu
      by_cases hc : ((64 * i + (63 - m) : Nat) : Int) < ((sets p N).length : Int)
      · rw [if_pos hc] at hu
        rw [if_pos hc, if_pos (by omega), hu, if_pos rfl]
        exact ih'
      · rw [if_neg hc] at hu
        cases hu
    · have hb2 : upTo N p (64 * i + (63 - m)) = false := by simpa using hb
      rw [hb2, if_neg (by decide), Nat.add_zero] at hs
      rw [hs] at ih'
      rw [hb2] at hu
      by_cases hc : ((64 * i + (63 - m) : Nat) : Int) < ((sets p N).length : Int)
      · rw [if_pos hc] at hu
        rw [if_pos hc, if_pos (by omega), hu, if_neg (by decide)]
        exact ih'
      · rw [if_neg hc]
        exact ih'
theorem refof_l0 (p : Nat → Bool) (N : Nat) (hN : N ≤ 67108864) : ∀ d i k, i + d = need N → 66 * d < k →
    quarryref04_Of.l0 k (sets p N) (i : Int) (N : Int) (ints (rows (upTo N p) i)) = some ((N : Int), ints (rowOf p N)) := by
  have hneed := need_le N
  intro d
  induction d with
  | zero =>
    intro i k hi hk
    obtain ⟨k, rfl⟩ : ∃ k', k = k' + 1 := ⟨k - 1, by omega⟩
    rw [quarryref04_Of.l0, sets_len, refneed_is N (by omega), Option.bind_some, if_neg (by omega), show i = need N from by omega]
    rfl
  | succ d ih =>
    intro i k hi hk
    obtain ⟨k, rfl⟩ : ∃ k', k = k' + 64 + 1 + 1 := ⟨k - 66, by omega⟩
    have e := ih (i + 1) k (by omega) (by omega)
    have hl := refof_l1 p N i (by omega) (N : Int) (ints (rows (upTo N p) i)) (by rw [ints_len, rows_len]; omega) k 64 0 (by omega)
    rw [rows_succ] at e
    unfold ints at e
    rw [List.map_append] at e
    rw [quarryref04_Of.l0, sets_len, refneed_is N (by omega), Option.bind_some, if_pos (by omega)]
    exact hl.trans e
theorem refof_is (p : Nat → Bool) (N : Nat) (hN : N ≤ 67108864) (k : Nat) (hk : 66 * need N < k) : quarryref04_Of.f k (sets p N) = some ((N : Int), ints (rowOf p N)) := by
  unfold quarryref04_Of.f
  rw [sets_len]
  exact refof_l0 p N hN (need N) 0 k (by omega) (by omega)
theorem same_l0 (l : List Int) (hl : l.length < 4611686018427387904) (m n : Int) : ∀ d i k, i + d = l.length → d < k → quarryref00_SameBits.l0 k (i : Int) m l n l = some true := by
  intro d
  induction d with
  | zero =>
    intro i k hi hk
    obtain ⟨k, rfl⟩ : ∃ k', k = k' + 1 := ⟨k - 1, by omega⟩
    rw [quarryref00_SameBits.l0, if_neg (by omega)]
  | succ d ih =>
    intro i k hi hk
    obtain ⟨k, rfl⟩ : ∃ k', k = k' + 1 := ⟨k - 1, by omega⟩
    rw [quarryref00_SameBits.l0, if_pos (by omega), if_pos (by omega), if_pos (by omega), if_pos rfl, i64_in (i := (i : Int) + 1) (by omega) (by omega)]
    exact ih (i + 1) k (by omega) (by omega)
theorem same_self (n : Int) (l : List Int) (hl : l.length < 4611686018427387904) (k : Nat) (hk : l.length + 1 < k) : quarryref00_SameBits.f k n l n l = some true := by
  obtain ⟨k, rfl⟩ : ∃ k', k = k' + 1 := ⟨k - 1, by omega⟩
  unfold quarryref00_SameBits.f
  rw [if_pos rfl, bne_self_eq_false, quarryref00_SameBits.j0, if_neg (by decide)]
  exact same_l0 l hl n n l.length 0 k (by omega) (by omega)
/-- A list on its way to another one, cell by cell. -/
theorem mix_set {α : Type} (L o : List α) (h : L.length = o.length) (i : Nat) (hi : i < L.length) : (L.take i ++ o.drop i).set i L[i] = L.take (i + 1) ++ o.drop (i + 1) := by
  have h1 : (L.take i).length = i := by rw [List.length_take]; omega
  have h2 : o.drop i = o[i]'(by omega) :: o.drop (i + 1) := List.drop_eq_getElem_cons (by omega)
  rw [List.set_append_right i L[i] (by omega), h1, Nat.sub_self, h2, List.set_cons_zero, List.take_succ_eq_append_getElem hi, List.append_assoc]
  rfl
theorem mix_len {α : Type} (L o : List α) (h : L.length = o.length) (i : Nat) : (L.take i ++ o.drop i).length = L.length := by
  rw [List.length_append, List.length_take, List.length_drop]
  omega
end Go.Proofs.Ytahmpmlbonpabaa.BitmapMakesPure

/- Make of any count and places, the program's and the reference's: the row of these places, or a refusal. -/
set_option linter.unusedVariables false
namespace Go.Proofs.Ytahmpmlbonpabaa.BitmapMakesPure
open Go.RowKit Go.Proofs.Ytahmpmlbonpabaa.PBitmapMakes Go.Proofs.YtahmpmlbonpabaaW.PrintWords Go.Proofs.YtahmpmlbonpabaaW.PrintLast Go.Proofs.YtahmpmlbonpabaaW.PrintMore
open Go.Proofs.Ytahmpmlbonpabaa Go.Proofs.Ytahmpmlbonpabaa.Ones Go.Proofs.Ytahmpmlbonpabaa.U64

theorem ints_set (L : List Nat) (i v : Nat) : (ints L).set i (v : Int) = ints (L.set i v) := by
  unfold ints
  rw [List.map_set]
theorem or_nat (a b : Nat) (ha : a < 18446744073709551616) (hb : b < 18446744073709551616) : Go.bits .or .u64 (a : Int) (b : Int) = ((a ||| b : Nat) : Int) := by
  rw [or_I]
  unfold I B
  rw [BitVec.toNat_or, BitVec.ofInt_natCast, BitVec.ofInt_natCast, BitVec.toNat_ofNat, BitVec.toNat_ofNat, Nat.mod_eq_of_lt (by omega), Nat.mod_eq_of_lt (by omega)]
/-- Does one of the first places stand there? -/
def has (l : List Int) (i : Nat) (j : Nat) : Bool := (l.take i).any (fun x => x == (j : Int))
theorem has_zero (l : List Int) (j : Nat) : has l 0 j = false := by
  unfold has
  rw [List.take_zero, List.any_nil]
theorem has_succ (l : List Int) (i : Nat) (h : i < l.length) (j : Nat) : has l (i + 1) j = (has l i j || (l[i] == (j : Int))) := by
  unfold has
  rw [List.take_succ_eq_append_getElem h, List.any_append]
  simp
theorem rd_at (l : List Int) (i : Nat) (h : i < l.length) : rd l (i : Int) = l[i] := by
  unfold rd
  rw [Int.toNat_natCast, List.getD_eq_getElem?_getD, List.getElem?_eq_getElem h]
  rfl
/-- A word with one more place. -/
theorem rows_set (p q : Nat → Bool) (m c : Nat) (hc : c < 64 * m) (hq : ∀ j, q j = (p j || decide (j = c))) :
    (rows p m).set (c / 64) ((rows p m).getD (c / 64) 0 ||| 2 ^ (c % 64)) = rows q m := by
  have hr : c % 64 < 64 := Nat.mod_lt _ (by decide)
  have hlt : ∀ w ∈ (rows p m).set (c / 64) ((rows p m).getD (c / 64) 0 ||| 2 ^ (c % 64)), w < 18446744073709551616 := by
    intro w hw
    rcases List.mem_or_eq_of_mem_set hw with h | h
    · exact rows_lt p m w h
    · rw [h]
      have h1 : (rows p m).getD (c / 64) 0 < 2 ^ 64 := by
        rw [rows_get p m _ (by omega)]
        exact wordAcc_lt p _ 64
      exact Nat.or_lt_two_pow h1 (Nat.pow_lt_pow_right (by decide) hr)
  have e := rows_of hlt q (fun j hj => by
    rw [List.length_set, rows_len] at hj
    have hjr : j % 64 < 64 := Nat.mod_lt _ (by decide)
    rw [hq j]
    have hb := rows_bit p m j hj
    unfold wbit at hb ⊢
    by_cases hd : j / 64 = c / 64
    · rw [hd] at hb ⊢
      rw [List.getD_eq_getElem?_getD, List.getElem?_set_self (by rw [rows_len]; omega)]
      show ((rows p m).getD (c / 64) 0 ||| 2 ^ (c % 64)).testBit (j % 64) = _
      rw [Nat.testBit_or, hb, Nat.testBit_two_pow]
      congr 1
      by_cases hjc : j = c
      · subst hjc
        rw [decide_eq_true rfl, decide_eq_true rfl]
      · rw [decide_eq_false hjc, decide_eq_false (by omega)]
    · rw [List.getD_eq_getElem?_getD, List.getElem?_set_ne (fun h => hd h.symm), ← List.getD_eq_getElem?_getD, hb, decide_eq_false (fun h => hd (by rw [h])), Bool.or_false])
  rw [List.length_set, rows_len] at e
  exact e
theorem zero_rows (p : Nat → Bool) (m : Nat) (h : ∀ j, p j = false) : rows p m = List.replicate m 0 := by
  symm
  have e := rows_of (ws := List.replicate m 0) (fun w hw => by rw [(List.mem_replicate.1 hw).2]; decide) p (fun j hj => by
    rw [List.length_replicate] at hj
    unfold wbit
    rw [h j, List.getD_eq_getElem?_getD, List.getElem?_replicate, if_pos (by omega)]
    exact Nat.zero_testBit _)
  rw [List.length_replicate] at e
  exact e
def out (n x : Int) : Bool := decide (x < 0) || decide (n ≤ x)
theorem out_false {n x : Int} (h : out n x = false) : 0 ≤ x ∧ x < n := by
  unfold out at h
  simp at h
  omega
theorem out_true {n x : Int} (h : out n x = true) : x < 0 ∨ n ≤ x := by
  unfold out at h
  simpa using h
/-- What Make comes to, of a count that may be. -/
def made (N : Nat) (l : List Int) : Int × List Int × Int := if l.any (out N) = true then (0, [], 2) else ((N : Int), ints (rowOf (has l l.length) N), 0)
theorem make_l0 (N : Nat) (hN : N ≤ 16777216) (l : List Int) (hl : l.length < 4611686018427387904) : ∀ d i k, i + d = l.length → d < k → (l.take i).any (out N) = false →
    bitmap_Make.l0 k (N : Int) l (l.length : Int) (i : Int) (N : Int) (ints (rowOf (has l i) N)) = some (made N l) := by
  have hn1 := need_ge N
  have hn2 := need_le N
  intro d
  induction d with
  | zero =>
    intro i k hi hk ha
    obtain ⟨k, rfl⟩ : ∃ k', k = k' + 1 := ⟨k - 1, by omega⟩
    obtain rfl : i = l.length := by omega
    rw [List.take_of_length_le (Nat.le_refl _)] at ha
    unfold made
    rw [bitmap_Make.l0, if_neg (by omega), ha, if_neg (by decide)]
  | succ d ih =>
    intro i k hi hk ha
    obtain ⟨k, rfl⟩ : ∃ k', k = k' + 1 := ⟨k - 1, by omega⟩
    have hil : i < l.length := by omega
    rw [bitmap_Make.l0, if_pos (by omega), if_pos (by omega), if_pos (by omega), rd_at l i hil]
    cases hx : out N l[i]
    · obtain ⟨x0, x1⟩ := out_false hx
      obtain ⟨c, hc⟩ := Int.eq_ofNat_of_zero_le x0
      have hcN : c < N := by omega
      have ha2 : (l.take (i + 1)).any (out N) = false := by
        rw [List.take_succ_eq_append_getElem hil, List.any_append, ha, Bool.false_or]
        simp [hx]
      have hr : c % 64 < 64 := Nat.mod_lt _ (by decide)
      have hp : (2 : Nat) ^ (c % 64) < 18446744073709551616 := (Nat.pow_lt_pow_right (a := 2) (by decide) hr : 2 ^ (c % 64) < 2 ^ 64)
      have hsh : shl .u64 1 ((c % 64 : Nat) : Int) = ((2 ^ (c % 64) : Nat) : Int) := by
        unfold shl
        rw [Int.toNat_natCast, Nat.min_eq_left (by simp [IntKind.bits]; omega), Int.one_mul, pow_cast, IntKind.wrap_u64]
        generalize (2 : Nat) ^ (c % 64) = q at *
        omega
      have hset : ints ((rowOf (has l i) N).set (c / 64) ((rowOf (has l i) N).getD (c / 64) 0 ||| 2 ^ (c % 64))) = ints (rowOf (has l (i + 1)) N) := by
        unfold rowOf
        rw [rows_set (upTo N (has l i)) (upTo N (has l (i + 1))) (need N) c (by omega) (fun j => by
          unfold upTo
          rw [has_succ l i hil, hc]
          by_cases hjc : j = c
          · subst hjc
            rw [decide_eq_true hcN]
            simp
          · rw [decide_eq_false hjc, Bool.or_false]
            have : (((c : Nat) : Int) == (j : Int)) = false := by simp; omega
            rw [this, Bool.or_false])]
      have hw : (rowOf (has l i) N).getD (c / 64) 0 < 18446744073709551616 := by
        unfold rowOf
        rw [rows_get _ _ _ (by omega)]
        exact wordAcc_lt _ _ 64
      have hlen : (rowOf (has l i) N).length = need N := rows_len _ _
      rw [if_neg (by omega), if_neg (by omega), hc, tdiv_nat, tmod_nat, i64_in (i := ((c / 64 : Nat) : Int)) (by omega) (by omega), if_pos (by omega), ints_len, hlen, if_pos (by omega), if_pos (by omega), i64_in (i := (i : Int) + 1) (by omega) (by omega), hsh, ints_rd, or_nat _ _ hw hp, Int.toNat_natCast, ints_set, hset]
      exact ih (i + 1) k (by omega) (by omega) ha2
    · have hany : l.any (out N) = true := List.any_eq_true.2 ⟨l[i], List.getElem_mem hil, hx⟩
      unfold made
      rw [hany, if_pos rfl]
      rcases out_true hx with h1 | h1
      · rw [if_pos h1]
      · by_cases h2 : l[i] < 0
        · rw [if_pos h2]
        · rw [if_neg h2, if_pos h1]
theorem make_is (n : Int) (hn : n < 9223372036854775808) (l : List Int) (hl : l.length < 4611686018427387904) (k : Nat) (hk : l.length + 1 < k) :
    bitmap_Make.f k n l = some (if n < 0 ∨ 16777216 < n then (0, [], 2) else made n.toNat l) := by
  obtain ⟨k, rfl⟩ : ∃ k', k = k' + 1 := ⟨k - 1, by omega⟩
  unfold bitmap_Make.f
  by_cases h0 : n < 0
  · rw [if_pos h0, if_pos (.inl h0), bitmap_Make.j0, if_pos rfl]
  · rw [if_neg h0, bitmap_Make.j0]
    by_cases h1 : n > 16777216
    · rw [decide_eq_true h1, if_pos rfl, if_pos (.inr h1)]
    · obtain ⟨N, rfl⟩ := Int.eq_ofNat_of_zero_le (show 0 ≤ n by omega)
      have hn1 := need_ge N
      have hn2 := need_le N
      have e := make_l0 N (by omega) l hl l.length 0 k (by omega) (by omega) (by rw [List.take_zero, List.any_nil])
      have hz : rowOf (has l 0) N = List.replicate (need N) 0 := by
        unfold rowOf
        exact zero_rows _ _ (fun j => by unfold upTo; rw [has_zero, Bool.and_false])
      have hzi : ints (List.replicate (need N) 0) = List.replicate (need N) 0 := by
        unfold ints
        rw [List.map_replicate]
        rfl
      rw [hz, hzi, show ((0 : Nat) : Int) = 0 from rfl] at e
      rw [decide_eq_false h1, if_neg (by decide), if_neg (by omega), size_is N (by omega), Option.bind_some, if_pos (by omega), Int.toNat_natCast, if_pos (by omega), Int.toNat_natCast]
      exact e
/-- The row of places is whole. -/
theorem made_formed (N : Nat) (hN : N ≤ 16777216) (l : List Int) : bitmap_Formed.f (made N l).1 (made N l).2.1 = some true := by
  unfold made
  by_cases ha : l.any (out N) = true
  · rw [if_pos ha]
    decide +kernel
  · rw [if_neg ha]
    have hn1 := need_ge N
    have hn2 := need_le N
    have hlen : (rowOf (has l l.length) N).length = need N := rows_len _ _
    have hrow : Row (rowOf (has l l.length) N) := ⟨rows_lt _ _, by rw [hlen]; omega⟩
    show bitmap_Formed.f (N : Int) (ints (rowOf (has l l.length) N)) = some true
    rw [formed_is _ (by omega) _ hrow]
    congr 1
    rw [formedB_iff hrow]
    rw [Int.toNat_natCast, hlen]
    refine ⟨by omega, rfl, fun j h1 h2 => ?_⟩
    unfold rowOf
    rw [rows_bit _ _ _ h2]
    unfold upTo
    rw [decide_eq_false (by omega), Bool.false_and]
theorem refmake_l1 (N : Nat) (hN : N ≤ 65536) (l : List Int) (hl : l.length < 4611686018427387904) (ha : l.any (out N) = false) : ∀ d i k, i + d = l.length → d + 66 * need N + 1 < k →
    quarryref04_Make.l1 k l (sets (has l i) N) (i : Int) = some ((N : Int), ints (rowOf (has l l.length) N), 0) := by
  intro d
  induction d with
  | zero =>
    intro i k hi hk
    obtain ⟨k, rfl⟩ : ∃ k', k = k' + 1 := ⟨k - 1, by omega⟩
    obtain rfl : i = l.length := by omega
    rw [quarryref04_Make.l1, if_neg (by omega), refof_is _ N (by omega) k (by omega), Option.bind_some]
  | succ d ih =>
    intro i k hi hk
    obtain ⟨k, rfl⟩ : ∃ k', k = k' + 1 := ⟨k - 1, by omega⟩
    have hil : i < l.length := by omega
    have hx : out N l[i] = false := by
      cases hx : out N l[i]
      · rfl
      · rw [List.any_eq_true.2 ⟨l[i], List.getElem_mem hil, hx⟩] at ha
        cases ha
    obtain ⟨x0, x1⟩ := out_false hx
    rw [quarryref04_Make.l1, if_pos (by omega), if_pos (by omega), rd_at l i hil, if_pos x0, sets_len, if_pos x1, i64_in (i := (i : Int) + 1) (by omega) (by omega), sets_set]
    rw [← ih (i + 1) k (by omega) (by omega)]
    congr 1
    apply sets_congr
    intro j hj
    show (if j = l[i].toNat then true else has l i j) = has l (i + 1) j
    rw [has_succ l i hil]
    by_cases h : j = l[i].toNat
    · rw [if_pos h]
      have : (l[i] == (j : Int)) = true := by simp; omega
      rw [this, Bool.or_true]
    · rw [if_neg h]
      have : (l[i] == (j : Int)) = false := by simp; omega
      rw [this, Bool.or_false]
theorem refmake_l0 (N : Nat) (hN : N ≤ 65536) (l : List Int) (hl : l.length < 4611686018427387904) : ∀ d i k, i + d = l.length → d + l.length + 66 * need N + 3 < k → (l.take i).any (out N) = false →
    quarryref04_Make.l0 k (N : Int) l (i : Int) = some (made N l) := by
  intro d
  induction d with
  | zero =>
    intro i k hi hk ha
    obtain ⟨k, rfl⟩ : ∃ k', k = k' + 1 := ⟨k - 1, by omega⟩
    obtain rfl : i = l.length := by omega
    rw [List.take_of_length_le (Nat.le_refl _)] at ha
    have e := refmake_l1 N hN l hl ha l.length 0 k (by omega) (by omega)
    have hz : sets (has l 0) N = List.replicate N false := by
      rw [sets_congr (q := fun _ => false) N (fun j _ => has_zero l j)]
      unfold sets
      rw [List.map_const', List.length_range]
    rw [hz, show ((0 : Nat) : Int) = 0 from rfl] at e
    unfold made
    rw [quarryref04_Make.l0, if_neg (by omega), if_pos (by omega), Int.toNat_natCast, if_pos (by omega), ha, if_neg (by decide)]
    exact e
  | succ d ih =>
    intro i k hi hk ha
    obtain ⟨k, rfl⟩ : ∃ k', k = k' + 1 := ⟨k - 1, by omega⟩
    have hil : i < l.length := by omega
    rw [quarryref04_Make.l0, if_pos (by omega), if_pos (by omega), rd_at l i hil]
    cases hx : out N l[i]
    · obtain ⟨x0, x1⟩ := out_false hx
      have ha2 : (l.take (i + 1)).any (out N) = false := by
        rw [List.take_succ_eq_append_getElem hil, List.any_append, ha, Bool.false_or]
        simp [hx]
      rw [if_neg (by omega), if_neg (by omega), i64_in (i := (i : Int) + 1) (by omega) (by omega)]
      exact ih (i + 1) k (by omega) (by omega) ha2
    · have hany : l.any (out N) = true := List.any_eq_true.2 ⟨l[i], List.getElem_mem hil, hx⟩
      unfold made
      rw [hany, if_pos rfl]
      rcases out_true hx with h1 | h1
      · rw [if_pos h1]
      · by_cases h2 : l[i] < 0
        · rw [if_pos h2]
        · rw [if_neg h2, if_pos h1]
theorem refmake_is (n : Int) (hn : n ≤ 65536) (l : List Int) (hl : l.length < 4611686018427387904) (k : Nat) (hk : 2 * l.length + 132000 < k) :
    quarryref04_Make.f k n l = some (if n < 0 ∨ 16777216 < n then (0, [], 2) else made n.toNat l) := by
  obtain ⟨k, rfl⟩ : ∃ k', k = k' + 1 := ⟨k - 1, by omega⟩
  unfold quarryref04_Make.f
  by_cases h0 : n < 0
  · rw [if_pos h0, if_pos (.inl h0), quarryref04_Make.j0, if_pos rfl]
  · obtain ⟨N, rfl⟩ := Int.eq_ofNat_of_zero_le (show 0 ≤ n by omega)
    have hn2 := need_le N
    rw [if_neg h0, quarryref04_Make.j0, decide_eq_false (by omega), if_neg (by decide), if_neg (by omega), Int.toNat_natCast]
    exact refmake_l0 N (by omega) l hl l.length 0 k (by omega) (by omega) (by rw [List.take_zero, List.any_nil])
end Go.Proofs.Ytahmpmlbonpabaa.BitmapMakesPure

/- BitmapMakes: Make and Formed of any count, places and row are the document's; no condition. -/
namespace Go.Proofs.Ytahmpmlbonpabaa.Pure
open Go.RowKit Go.Proofs.Ytahmpmlbonpabaa.PBitmapMakes Go.Proofs.YtahmpmlbonpabaaW.PrintWords Go.Proofs.YtahmpmlbonpabaaW.PrintLast Go.Proofs.YtahmpmlbonpabaaW.PrintMore
open Go.Proofs.Ytahmpmlbonpabaa Go.Proofs.Ytahmpmlbonpabaa.Ones Go.Proofs.Ytahmpmlbonpabaa.U64 Go.Proofs.Ytahmpmlbonpabaa.BitmapMakesPure

theorem wf_i64 {x : Int} (h : (Lit.int .i64 x).wf = true) : -9223372036854775808 ≤ x ∧ x < 9223372036854775808 := by
  simp [Lit.wf, IntKind.min, IntKind.max, IntKind.bits, IntKind.signed] at h
  omega
theorem BitmapMakes : quarrylaw04_BitmapMakes.Pure := by
  intro a0 l1 a2_0 l2_1 w0 wl w2 wm
  obtain ⟨ws, rfl, h⟩ := row_ex wm.2.1 wm.2.2
  have hn := (wf_i64 w0).2
  have hm := (wf_i64 w2).2
  have hl := wl.2.1
  obtain ⟨k, hk⟩ : ∃ k, k = 64 * ws.length + 2 * l1.length + 200000 := ⟨_, rfl⟩
  refine ⟨k, ?_⟩
  unfold quarrylaw04_BitmapMakes.f
  rw [if_pos]
  have e := make_is a0 hn l1 (by omega) k (by omega)
  have hlen : l1.length ≤ 17592186044392 := by omega
  have hL : quarrykit_LentInts.f l1 = some l1 := by
    unfold quarrykit_LentInts.f
    rw [if_pos hlen]
  have hK : quarrykit_KeptInts.f l1 l1 = some true := by
    unfold quarrykit_KeptInts.f
    rw [if_pos ⟨rfl, hlen⟩]
  have hout : ∀ n x : Int, outside n x = out n x := fun n x => rfl
  by_cases hc : a0 < 0 ∨ 16777216 < a0
  · rw [if_pos hc] at e
    refine ⟨_, 0, [], 2, formed_is a2_0 hm ws h, refformed_is h a2_0 hm k (by omega), hL, hK, e, by decide +kernel, fun hb => ?_, fun hb => ?_⟩
    · have : 16777216 < a0 := by omega
      rw [decide_eq_true this, Bool.true_or, if_pos rfl]
    · have e2 := refmake_is a0 (by omega) l1 (by omega) k (by omega)
      rw [if_pos hc] at e2
      exact ⟨0, [], e2, same_self 0 [] (by decide) k (by show 0 + 1 < k; omega)⟩
  · rw [if_neg hc] at e
    obtain ⟨N, rfl⟩ := Int.eq_ofNat_of_zero_le (show 0 ≤ a0 by omega)
    have hneed := need_le N
    rw [Int.toNat_natCast] at e
    have hf := made_formed N (by omega) l1
    refine ⟨_, (made N l1).1, (made N l1).2.1, (made N l1).2.2, formed_is a2_0 hm ws h, refformed_is h a2_0 hm k (by omega), hL, hK, e, hf, fun hb => ?_, fun hb => ?_⟩
    · rw [decide_eq_false (by omega), Bool.false_or]
      show (made N l1).2.2 = if l1.any (out N) = true then 2 else 0
      unfold made
      by_cases ha : l1.any (out N) = true
      · rw [if_pos ha, if_pos ha]
      · rw [if_neg ha, if_neg ha]
    · have e2 := refmake_is (N : Int) (by omega) l1 (by omega) k (by omega)
      rw [if_neg hc, Int.toNat_natCast] at e2
      have hlen2 : (made N l1).2.1.length ≤ need N := by
        unfold made
        by_cases ha : l1.any (out N) = true
        · rw [if_pos ha]
          exact Nat.zero_le _
        · rw [if_neg ha]
          show (ints (rowOf (has l1 l1.length) N)).length ≤ need N
          rw [ints_len]
          exact Nat.le_of_eq (rows_len _ _)
      exact ⟨_, _, e2, same_self _ _ (by omega) k (by omega)⟩
end Go.Proofs.Ytahmpmlbonpabaa.Pure
