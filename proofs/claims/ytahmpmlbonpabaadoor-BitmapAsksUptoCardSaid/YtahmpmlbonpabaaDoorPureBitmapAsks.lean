/- Joined texts of one law. -/
import Derived.Test.YtahmpmlbonpabaaDoorStatBitmapAsks
import Derived.Test.YtahmpmlbonpabaaDoorSpots
import Derived.Test.YtahmpmlbonpabaaDoorU64b
/- Rows of words: what the printed functions of the bitmap tell, in terms of the set places below a place and of the place of a rank. -/
namespace Go.Proofs.YtahmpmlbonpabaaDoor.BitmapAsksPure
open Go.RowKit Go.Proofs.YtahmpmlbonpabaaDoor.PBitmapAsks Go.Proofs.YtahmpmlbonpabaaDoorW.PrintWords Go.Proofs.YtahmpmlbonpabaaDoorW.PrintLast Go.Proofs.YtahmpmlbonpabaaDoorW.PrintMore
open Go.Proofs.YtahmpmlbonpabaaDoor Go.Proofs.YtahmpmlbonpabaaDoor.Ones Go.Proofs.YtahmpmlbonpabaaDoor.U64

def ints (ws : List Nat) : List Int := ws.map (fun n : Nat => (n : Int))
/-- A row of words within its bounds. -/
structure Row (ws : List Nat) : Prop where
  word : ∀ w ∈ ws, w < 18446744073709551616
  len : ws.length * 8 ≤ 140737488351232
theorem ints_len (ws : List Nat) : (ints ws).length = ws.length := List.length_map _
theorem ints_rd (ws : List Nat) (i : Nat) : rd (ints ws) (i : Int) = ((ws.getD i 0 : Nat) : Int) := by
  unfold rd ints
  rw [Int.toNat_natCast, List.getD_eq_getElem?_getD, List.getElem?_map, List.getD_eq_getElem?_getD]
  cases ws[i]? <;> rfl
theorem Row.at {ws : List Nat} (h : Row ws) (i : Nat) : ws.getD i 0 < 18446744073709551616 := by
  rw [List.getD_eq_getElem?_getD]
  cases hi : ws[i]? with
  | none => decide
  | some w => exact h.word w (List.mem_of_getElem? hi)
theorem row_ex {l : List Int} (h1 : l.length * 8 ≤ 140737488351232) (h2 : ∀ x ∈ l, (Lit.int .u64 x).wf = true) : ∃ ws, l = ints ws ∧ Row ws := by
  refine ⟨l.map Int.toNat, ?_, ⟨?_, by rw [List.length_map]; exact h1⟩⟩
  · unfold ints
    rw [List.map_map]
    conv => lhs; rw [← List.map_id l]
    apply List.map_congr_left
    intro x hx
    have := wf_of (h2 x hx)
    simp
    omega
  · intro w hw
    obtain ⟨x, hx, rfl⟩ := List.mem_map.1 hw
    have := wf_of (h2 x hx)
    omega
theorem i64_in {i : Int} (h0 : -4611686018427387904 ≤ i) (h1 : i < 4611686018427387904) : wrap64 i = i := by
  unfold wrap64
  omega
theorem tmod_nat (n : Nat) : Int.tmod (n : Int) 64 = ((n % 64 : Nat) : Int) := (Int.ofNat_tmod n 64).symm
theorem tdiv_nat (n : Nat) : Int.tdiv (n : Int) 64 = ((n / 64 : Nat) : Int) := (Int.ofNat_tdiv n 64).symm
def need (n : Nat) : Nat := if n % 64 = 0 then n / 64 else n / 64 + 1
theorem size_is (n : Nat) (hn : n < 9223372036854775808) : bitmap_size.f (n : Int) = some ((need n : Nat) : Int) := by
  unfold bitmap_size.f need
  rw [tmod_nat, tdiv_nat, i64_in (by omega) (by omega)]
  by_cases h : n % 64 = 0
  · rw [if_pos (by omega), if_pos h]
  · rw [if_neg (by omega), if_neg h, i64_in (by omega) (by omega)]
    congr 1
def tailN (n : Nat) : Nat := if n % 64 = 0 then 18446744073709551615 else 2 ^ (n % 64) - 1
theorem tail_is (n : Nat) : bitmap_tail.f (n : Int) = some ((tailN n : Nat) : Int) := by
  unfold bitmap_tail.f PTailF.bitmap_tail.f tailN
  rw [tmod_nat]
  by_cases h : n % 64 = 0
  · rw [if_pos (by omega), if_pos h]
    rfl
  · have hr : n % 64 < 64 := Nat.mod_lt _ (by decide)
    have hp : (2 : Nat) ^ (n % 64) ≤ 2 ^ 63 := Nat.pow_le_pow_right (by decide) (by omega)
    have hp0 : 0 < (2 : Nat) ^ (n % 64) := Nat.two_pow_pos _
    rw [if_neg (by omega), if_neg h, if_pos (by omega)]
    congr 1
    unfold shl
    rw [Int.toNat_natCast, Nat.min_eq_left (by simp [IntKind.bits]; omega), Int.one_mul, pow_cast, IntKind.wrap_u64, IntKind.wrap_u64]
    generalize (2 : Nat) ^ (n % 64) = q at *
    omega

/-- Is it a row? -/
def formedB (n : Int) (ws : List Nat) : Bool := decide (0 ≤ n) && (decide (ws.length = need n.toNat) && (decide (n = 0) || decide (ws.getD (ws.length - 1) 0 &&& (18446744073709551615 - tailN n.toNat) = 0)))

theorem andNot_nat (a b : Nat) (ha : a < 18446744073709551616) (hb : b < 18446744073709551616) : Go.bits .andNot .u64 (a : Int) (b : Int) = ((a &&& (18446744073709551615 - b) : Nat) : Int) := by
  rw [andNot_I]
  unfold I B
  rw [BitVec.toNat_and, BitVec.toNat_not, BitVec.ofInt_natCast, BitVec.ofInt_natCast, BitVec.toNat_ofNat, BitVec.toNat_ofNat, Nat.mod_eq_of_lt (by omega), Nat.mod_eq_of_lt (by omega)]
theorem tailN_lt (n : Nat) : tailN n < 18446744073709551616 := by
  unfold tailN
  have hr : n % 64 < 64 := Nat.mod_lt _ (by decide)
  have hp : (2 : Nat) ^ (n % 64) ≤ 2 ^ 63 := Nat.pow_le_pow_right (by decide) (by omega)
  generalize (2 : Nat) ^ (n % 64) = q at *
  split <;> omega
theorem formed_is (n : Int) (hn : n < 9223372036854775808) (ws : List Nat) (h : Row ws) : bitmap_Formed.f n (ints ws) = some (formedB n ws) := by
  unfold bitmap_Formed.f formedB
  by_cases h0 : n < 0
  · rw [if_pos h0]
    have : ¬ 0 ≤ n := by omega
    simp [this]
  · obtain ⟨m, rfl⟩ := Int.eq_ofNat_of_zero_le (show 0 ≤ n by omega)
    rw [if_neg h0, size_is m (by omega), Option.bind_some, ints_len, Int.toNat_natCast]
    by_cases h1 : ws.length = need m
    · rw [if_pos (by omega)]
      by_cases h2 : (m : Int) = 0
      · rw [if_pos h2]
        simp [h1, h2]
      · have hl := h.len
        have hpos : 0 < ws.length := by
          rw [h1]
          unfold need
          split <;> omega
        have e : wrap64 ((ws.length : Int) - 1) = ((ws.length - 1 : Nat) : Int) := by
          rw [i64_in (by omega) (by omega)]
          omega
        rw [if_neg h2, e, if_pos (by omega), if_pos (by omega), tail_is, Option.bind_some, ints_rd, andNot_nat _ _ (h.at _) (tailN_lt m)]
        congr 1
        rw [decide_eq_false h2, decide_eq_true h1]
        simp
        rw [Bool.eq_iff_iff]
        simp
    · rw [if_neg (by omega), decide_eq_false h1]
      simp

theorem and_comp_zero (a r : Nat) (ha : a < 18446744073709551616) (hr : r < 64) (h : a &&& (18446744073709551615 - (2 ^ r - 1)) = 0) : a < 2 ^ r := by
  apply Nat.lt_of_not_le
  intro hge
  obtain ⟨i, hi, hb⟩ := Nat.exists_ge_and_testBit_of_ge_two_pow hge
  have hi64 : i < 64 := by
    apply Nat.lt_of_not_le
    intro h64
    have : a < 2 ^ i := Nat.lt_of_lt_of_le ha (by
      have : (2 : Nat) ^ 64 ≤ 2 ^ i := Nat.pow_le_pow_right (by decide) h64
      exact this)
    rw [Nat.testBit_lt_two_pow this] at hb
    cases hb
  have hp : (2 : Nat) ^ r ≤ 2 ^ 63 := Nat.pow_le_pow_right (by decide) (by omega)
  have hp0 : 0 < (2 : Nat) ^ r := Nat.two_pow_pos _
  have hc : (18446744073709551615 - (2 ^ r - 1)).testBit i = true := by
    have e : 18446744073709551615 - (2 ^ r - 1) = 2 ^ 64 - ((2 ^ r - 1) + 1) := by
      have : (2 : Nat) ^ 64 = 18446744073709551616 := by decide
      omega
    rw [e, Nat.testBit_two_pow_sub_succ (by have : (2 : Nat) ^ 64 = 18446744073709551616 := by decide
                                            omega)]
    rw [Nat.testBit_two_pow_sub_one]
    simp
    omega
  have := congrArg (fun x => x.testBit i) h
  simp only [Nat.testBit_and, hb, hc] at this
  simp at this

/-- What a row is: its length is a number of places within its words, and none behind it is set. -/
theorem formed_gives {n : Int} {ws : List Nat} (h : Row ws) (hf : formedB n ws = true) : ∃ N : Nat, n = (N : Int) ∧ N ≤ 64 * ws.length ∧ ws.length = need N ∧ ∀ i, N ≤ i → wbit ws i = false := by
  unfold formedB at hf
  simp only [Bool.and_eq_true, Bool.or_eq_true, decide_eq_true_eq] at hf
  obtain ⟨h0, h1, h2⟩ := hf
  obtain ⟨N, rfl⟩ := Int.eq_ofNat_of_zero_le h0
  rw [Int.toNat_natCast] at h1 h2
  refine ⟨N, rfl, ?_, h1, ?_⟩
  · rw [h1]
    unfold need
    split <;> omega
  · intro i hi
    unfold wbit
    by_cases hlt : i / 64 < ws.length
    · rcases h2 with h2 | h2
      · have : N = 0 := by omega
        subst this
        rw [h1] at hlt
        simp [need] at hlt
      · have hq : i / 64 = ws.length - 1 ∧ N % 64 ≠ 0 ∧ N % 64 ≤ i % 64 := by
          unfold need at h1
          by_cases hz : N % 64 = 0
          · rw [if_pos hz] at h1
            omega
          · rw [if_neg hz] at h1
            omega
        rw [hq.1]
        unfold tailN at h2
        rw [if_neg hq.2.1] at h2
        have := and_comp_zero _ _ (h.at _) (Nat.mod_lt N (by decide)) h2
        exact Nat.testBit_lt_two_pow (Nat.lt_of_lt_of_le this (Nat.pow_le_pow_right (by decide) hq.2.2))
    · rw [List.getD_eq_getElem?_getD, List.getElem?_eq_none (by omega)]
      simp
end Go.Proofs.YtahmpmlbonpabaaDoor.BitmapAsksPure

/- What the printed functions of the bitmap tell, by places and ranks. -/
namespace Go.Proofs.YtahmpmlbonpabaaDoor.BitmapAsksPure
open Go.RowKit Go.Proofs.YtahmpmlbonpabaaDoor.PBitmapAsks Go.Proofs.YtahmpmlbonpabaaDoorW.PrintWords Go.Proofs.YtahmpmlbonpabaaDoorW.PrintLast Go.Proofs.YtahmpmlbonpabaaDoorW.PrintMore
open Go.Proofs.YtahmpmlbonpabaaDoor Go.Proofs.YtahmpmlbonpabaaDoor.Ones Go.Proofs.YtahmpmlbonpabaaDoor.U64

theorem cnt_flat (p : Nat → Bool) {a b : Nat} (h : a ≤ b) (hz : ∀ i, a ≤ i → p i = false) : cnt p b = cnt p a := by
  obtain ⟨m, rfl⟩ : ∃ m, b = a + m := ⟨b - a, by omega⟩
  clear h
  induction m with
  | zero => rfl
  | succ m ih => rw [← Nat.add_assoc, cnt_succ, ih, hz _ (by omega)]; simp
theorem rankM_at {ws : List Nat} (h : Row ws) (j i : Nat) (hi : i ≤ 64) : words_RankM.f ((ws.getD j 0 : Nat) : Int) (i : Int) = some ((count (ws.getD j 0) i : Nat) : Int) := by
  have hw := h.at j
  unfold words_RankM.f words_Rank.f rankOf
  rw [if_pos (by omega), Int.toNat_natCast, Int.toNat_natCast, Nat.min_eq_left hi]
theorem take_rd (ws : List Nat) (q j : Nat) (hj : j < q) : rd ((ints ws).take q) (j : Int) = ((ws.getD j 0 : Nat) : Int) := by
  have e : (ints ws).take q = ints (ws.take q) := by unfold ints; rw [List.map_take]
  rw [e, ints_rd, List.getD_eq_getElem?_getD, List.getElem?_take, if_pos hj, List.getD_eq_getElem?_getD]
theorem below_l0 {ws : List Nat} (h : Row ws) (n : Int) (t q : Nat) (hq : q = t / 64) (hql : q ≤ ws.length) (ht : t ≤ 64 * ws.length) : ∀ m j k, j + m = q → m < k →
    bitmap_below.l0 k (t : Int) ((cnt (wbit ws) (64 * j) : Nat) : Int) ((ints ws).take q) (q : Int) (j : Int) n (ints ws) = some ((cnt (wbit ws) t : Nat) : Int) := by
  have hl := h.len
  intro m
  induction m with
  | zero =>
    intro j k hj hk
    obtain ⟨k, rfl⟩ : ∃ k', k = k' + 1 := ⟨k - 1, by omega⟩
    have : j = q := by omega
    subst this
    rw [bitmap_below.l0]
    rw [if_neg (by omega), tmod_nat, tdiv_nat, i64_in (by omega) (by omega), ← hq]
    by_cases hz : t % 64 = 0
    · have e : 64 * j = t := by omega
      rw [if_neg (by omega), e]
    · have e : 64 * j + t % 64 = t := by omega
      rw [if_pos (by omega), if_pos (by omega), ints_len, if_pos (by omega), ints_rd, rankM_at h _ _ (by omega), Option.bind_some]
      have hw := wcnt ws j (t % 64) (by omega)
      rw [e] at hw
      have hle := cnt_le_n (wbit ws) t
      rw [i64_in (by omega) (by omega)]
      congr 1
      omega
  | succ m ih =>
    intro j k hj hk
    obtain ⟨k, rfl⟩ : ∃ k', k = k' + 1 := ⟨k - 1, by omega⟩
    rw [bitmap_below.l0]
    have hlen : ((ints ws).take q).length = q := by rw [List.length_take, ints_len]; omega
    rw [if_pos (by omega), if_pos (by omega), hlen, if_pos (by omega), take_rd ws q j (by omega), show (64 : Int) = ((64 : Nat) : Int) from rfl, rankM_at h _ _ (Nat.le_refl _), Option.bind_some]
    have hw := wcnt_word ws j
    have hle := cnt_le_n (wbit ws) (64 * (j + 1))
    have e1 : wrap64 (((cnt (wbit ws) (64 * j) : Nat) : Int) + ((count (ws.getD j 0) 64 : Nat) : Int)) = ((cnt (wbit ws) (64 * (j + 1)) : Nat) : Int) := by
      rw [i64_in (by omega) (by omega)]
      omega
    have e2 : wrap64 ((j : Int) + 1) = ((j + 1 : Nat) : Int) := by
      rw [i64_in (by omega) (by omega)]
      omega
    rw [e1, e2]
    clear e1 e2 hw hle hlen
    exact ih (j + 1) k (by rw [← hj]; exact Nat.add_right_comm j 1 m) (Nat.lt_of_succ_lt_succ hk)
theorem below_is {ws : List Nat} (h : Row ws) (n : Int) (t : Nat) (ht : t ≤ 64 * ws.length) (k : Nat) (hk : ws.length < k) :
    bitmap_below.f k n (ints ws) (t : Int) = some ((cnt (wbit ws) t : Nat) : Int) := by
  have hl := h.len
  unfold bitmap_below.f
  rw [tdiv_nat, i64_in (by omega) (by omega), if_pos (by omega), ints_len, if_pos (by omega), Int.toNat_natCast]
  obtain ⟨q, hq⟩ : ∃ q, q = t / 64 := ⟨_, rfl⟩
  have hq1 : q ≤ ws.length := by omega
  have hq2 : q < k := by omega
  rw [← hq]
  have hlen : ((ints ws).take q).length = q := by rw [List.length_take, ints_len]; exact Nat.min_eq_left hq1
  rw [hlen]
  have h0 := below_l0 h n t q hq hq1 ht q 0 k (Nat.zero_add q) hq2
  rw [Nat.mul_zero, cnt_zero] at h0
  exact h0
theorem select_l0 {ws : List Nat} (h : Row ws) : ∀ m j k (x : Int), j + m = ws.length → m < k → 0 ≤ x → x < 9223372036854775808 →
    bitmap_Select.l0 k x (ints ws) (ws.length : Int) (j : Int) = some (sel (wbit ws) (64 * ws.length) (x + (cnt (wbit ws) (64 * j) : Nat))) := by
  have hl := h.len
  intro m
  induction m with
  | zero =>
    intro j k x hj hk hx hx2
    obtain ⟨k, rfl⟩ : ∃ k', k = k' + 1 := ⟨k - 1, by omega⟩
    have : j = ws.length := by omega
    subst this
    rw [bitmap_Select.l0]
    rw [if_neg (by omega), sel_none (.inr (by omega))]
  | succ m ih =>
    intro j k x hj hk hx hx2
    obtain ⟨k, rfl⟩ : ∃ k', k = k' + 1 := ⟨k - 1, by omega⟩
    rw [bitmap_Select.l0]
    have hw := wcnt_word ws j
    rw [if_pos (by omega), if_pos (by omega), ints_len, if_pos (by omega), ints_rd, show words_RankM.f ((ws.getD j 0 : Nat) : Int) 64 = some ((count (ws.getD j 0) 64 : Nat) : Int) from rankM_at h j 64 (Nat.le_refl _), Option.bind_some]
    have hc := count_le (ws.getD j 0) 64
    by_cases hlt : x < ((count (ws.getD j 0) 64 : Nat) : Int)
    · rw [if_pos hlt]
      have hat := h.at j
      have hs : words_Select.f ((ws.getD j 0 : Nat) : Int) x = some (selectOf (ws.getD j 0) x) := by
        unfold words_Select.f u64ok i64ok
        rw [if_pos (by omega), Int.toNat_natCast]
      rw [hs, Option.bind_some]
      have hge : 0 ≤ selectOf (ws.getD j 0) x := by
        apply Int.not_lt.1
        intro hneg
        have := (select_lt hneg).2
        omega
      obtain ⟨i, e1, e2, e3, e4, e5, e6⟩ := select_ge hge
      rw [e1, i64_in (i := 64 * (j : Int)) (by omega) (by omega), i64_in (by omega) (by omega)]
      have hr := wcnt ws j i (by omega)
      rw [sel_eq (i := 64 * j + i) (by omega) (by rw [wbit_at ws j i e2]; exact e3) (by rw [hr]; omega)]
      congr 1
    · rw [if_neg hlt]
      have e1 : wrap64 (x - ((count (ws.getD j 0) 64 : Nat) : Int)) = x - ((count (ws.getD j 0) 64 : Nat) : Int) := by
        unfold wrap64
        omega
      have e2 : wrap64 ((j : Int) + 1) = ((j + 1 : Nat) : Int) := by
        rw [i64_in (by omega) (by omega)]
        omega
      rw [e1, e2, ih (j + 1) k _ (by omega) (by omega) (by omega) (by omega)]
      congr 2
      omega
theorem bit_at (x : Nat) (hx : x < 18446744073709551616) (i : Nat) (hi : i < 64) : Go.bits .and .u64 (shr .u64 (x : Int) (i : Int)) 1 = if x.testBit i then 1 else 0 := by
  have e : (x : Int) = I (BitVec.ofNat 64 x) := by
    unfold I
    rw [BitVec.toNat_ofNat, Nat.mod_eq_of_lt (by omega)]
  have hb : (BitVec.ofNat 64 x).getLsbD i = x.testBit i := by
    rw [BitVec.getLsbD_ofNat]
    simp [hi]
  have ei : (i : Int) = IntKind.u64.wrap (i : Int) := by
    rw [IntKind.wrap_u64]
    omega
  rw [e, ei, shr_word _ i hi, bit_I, hb]
variable {ws : List Nat} {n : Int} {N : Nat}
theorem select_is (h : Row ws) (hn : n < 9223372036854775808) (hf : formedB n ws = true) (x : Int) (hx2 : x < 9223372036854775808) (k : Nat) (hk : ws.length + 1 < k) :
    bitmap_Select.f k n (ints ws) x = some (sel (wbit ws) (64 * ws.length) x) := by
  obtain ⟨k, rfl⟩ : ∃ k', k = k' + 1 := ⟨k - 1, by omega⟩
  unfold bitmap_Select.f
  rw [formed_is n hn ws h, hf, Option.bind_some, if_pos rfl, bitmap_Select.j0]
  by_cases h0 : x < 0
  · rw [if_pos (decide_eq_true h0), sel_none (.inl h0)]
  · rw [if_neg (by simpa using h0), ints_len]
    have := select_l0 h ws.length 0 k x (by omega) (by omega) (by omega) hx2
    rw [show ((0 : Nat) : Int) = 0 from rfl] at this
    rw [this]
    congr 2
    rw [show 64 * 0 = 0 from rfl, cnt_zero]
    omega
theorem count_is (h : Row ws) (hn : n < 9223372036854775808) (hf : formedB n ws = true) (hN : n = (N : Int)) (hle : N ≤ 64 * ws.length) (a b : Nat) (hb : b ≤ N) (k : Nat) (hk : ws.length < k) :
    bitmap_Count.f k n (ints ws) (a : Int) (b : Int) = some ((cnt (wbit ws) b - cnt (wbit ws) a : Nat) : Int) := by
  have hl := h.len
  unfold bitmap_Count.f
  rw [formed_is n hn ws h, hf, Option.bind_some, if_pos rfl]
  have e1 : mx (a : Int) 0 = (a : Int) := by unfold mx; rw [if_neg (by omega)]
  have e2 : mn (b : Int) n = (b : Int) := by unfold mn; rw [if_neg (by omega)]
  rw [e1, e2]
  by_cases hab : (a : Int) ≥ (b : Int)
  · rw [if_pos hab]
    have := cnt_le (wbit ws) (show b ≤ a by omega)
    congr 1
    omega
  · have := cnt_le (wbit ws) (show a ≤ b by omega)
    have h2 := cnt_le_n (wbit ws) b
    rw [if_neg hab, below_is h n b (by omega) k hk, Option.bind_some, below_is h n a (by omega) k hk, Option.bind_some, i64_in (by omega) (by omega)]
    congr 1
    omega
theorem next_is (h : Row ws) (hn : n < 9223372036854775808) (hf : formedB n ws = true) (hN : n = (N : Int)) (hle : N ≤ 64 * ws.length) (hz : ∀ i, N ≤ i → wbit ws i = false) (i : Nat) (hi : i ≤ N) (k : Nat) (hk : ws.length + 2 < k) :
    bitmap_Next.f k n (ints ws) (i : Int) = some (sel (wbit ws) (64 * ws.length) ((cnt (wbit ws) i : Nat) : Int)) := by
  obtain ⟨k, rfl⟩ : ∃ k', k = k' + 1 := ⟨k - 1, by omega⟩
  have hl := h.len
  unfold bitmap_Next.f
  rw [formed_is n hn ws h, hf, Option.bind_some, if_pos rfl, bitmap_Next.j0]
  have e1 : mx (i : Int) 0 = (i : Int) := by unfold mx; rw [if_neg (by omega)]
  have h2 := cnt_le_n (wbit ws) i
  by_cases hab : (i : Int) ≥ n
  · rw [if_pos (decide_eq_true hab), sel_none (.inr (by rw [cnt_flat (wbit ws) hle hz]; have : i = N := by omega
                                                        rw [this]; exact Int.le_refl _))]
  · rw [if_neg (by simpa using hab), e1, below_is h n i (by omega) k (by omega), Option.bind_some, select_is h hn hf _ (by omega) k (by omega), Option.bind_some]
theorem last_is (h : Row ws) (hn : n < 9223372036854775808) (hf : formedB n ws = true) (hN : n = (N : Int)) (hle : N ≤ 64 * ws.length) (i : Nat) (hi : i ≤ N) (k : Nat) (hk : ws.length + 2 < k) :
    bitmap_Last.f k n (ints ws) (i : Int) = some (sel (wbit ws) (64 * ws.length) (((cnt (wbit ws) i : Nat) : Int) - 1)) := by
  obtain ⟨k, rfl⟩ : ∃ k', k = k' + 1 := ⟨k - 1, by omega⟩
  have hl := h.len
  unfold bitmap_Last.f
  rw [formed_is n hn ws h, hf, Option.bind_some, if_pos rfl, bitmap_Last.j0]
  have e1 : mn (i : Int) n = (i : Int) := by unfold mn; rw [if_neg (by omega)]
  have h2 := cnt_le_n (wbit ws) i
  by_cases hab : (i : Int) ≤ 0
  · have : i = 0 := by omega
    subst this
    rw [if_pos (decide_eq_true hab), cnt_zero, sel_none (.inl (by decide))]
  · rw [if_neg (by simpa using hab), e1, below_is h n i (by omega) k (by omega), Option.bind_some, i64_in (by omega) (by omega), select_is h hn hf _ (by omega) k (by omega), Option.bind_some]
theorem get_is (h : Row ws) (hn : n < 9223372036854775808) (hf : formedB n ws = true) (hN : n = (N : Int)) (hle : N ≤ 64 * ws.length) (hz : ∀ i, N ≤ i → wbit ws i = false) (i : Nat) :
    bitmap_Get.f n (ints ws) (i : Int) = some (wbit ws i) := by
  have hl := h.len
  unfold bitmap_Get.f
  rw [formed_is n hn ws h, hf, Option.bind_some, if_pos rfl, if_pos (by omega)]
  by_cases hi : (i : Int) < n
  · rw [if_pos hi, tmod_nat, tdiv_nat, i64_in (by omega) (by omega), if_pos (by omega), ints_len, if_pos (by omega), if_pos (by omega), ints_rd]
    congr 1
    have hat := h.at (i / 64)
    unfold wbit
    have hr : i % 64 < 64 := Nat.mod_lt _ (by decide)
    generalize i % 64 = r at *
    generalize ws.getD (i / 64) 0 = w at *
    rw [bit_at w hat r hr]
    cases w.testBit r <;> rfl
  · rw [if_neg hi, hz i (by omega)]
theorem awake_is (k : Nat) (hk : 100 ≤ k) : quarrylaw04_awake.f k = some true := by
  have h : quarrylaw04_awake.f 100 = some true := by decide +kernel
  obtain ⟨m, rfl⟩ : ∃ m, k = 100 + m := ⟨k - 100, by omega⟩
  clear hk
  induction m with
  | zero => exact h
  | succ m ih => exact quarrylaw04_awake.mono _ _ ih
end Go.Proofs.YtahmpmlbonpabaaDoor.BitmapAsksPure

/- What the reference of the bitmap tells of a row of words: whole or not, and its set places. -/
namespace Go.Proofs.YtahmpmlbonpabaaDoor.BitmapAsksPure
open Go.RowKit Go.Proofs.YtahmpmlbonpabaaDoor.PBitmapAsks Go.Proofs.YtahmpmlbonpabaaDoorW.PrintWords Go.Proofs.YtahmpmlbonpabaaDoorW.PrintLast Go.Proofs.YtahmpmlbonpabaaDoorW.PrintMore
open Go.Proofs.YtahmpmlbonpabaaDoor Go.Proofs.YtahmpmlbonpabaaDoor.Ones Go.Proofs.YtahmpmlbonpabaaDoor.U64

theorem refneed_is (n : Nat) (hn : n < 9223372036854775808) : quarryref04_need.f (n : Int) = some ((need n : Nat) : Int) := by
  unfold quarryref04_need.f need
  rw [tmod_nat, tdiv_nat]
  by_cases h : n % 64 = 0
  · rw [if_pos (by omega), if_pos h, i64_in (by omega) (by omega)]
  · rw [if_neg (by omega), if_neg h, i64_in (i := ((n / 64 : Nat) : Int)) (by omega) (by omega), i64_in (by omega) (by omega)]
    congr 1
theorem refbit_at (x : Nat) (hx : x < 18446744073709551616) (i : Nat) (hi : i < 64) : (Int.tmod (shr .u64 (x : Int) (i : Int)) 2 == 1) = x.testBit i := by
  have e : (x : Int) = I (BitVec.ofNat 64 x) := by
    unfold I
    rw [BitVec.toNat_ofNat, Nat.mod_eq_of_lt (by omega)]
  have ei : (i : Int) = IntKind.u64.wrap (i : Int) := by
    rw [IntKind.wrap_u64]
    omega
  rw [e, ei, shr_word _ i hi]
  unfold I
  rw [BitVec.toNat_ushiftRight, BitVec.toNat_ofNat, Nat.mod_eq_of_lt (by omega), Nat.shiftRight_eq_div_pow, Nat.testBit_eq_decide_div_mod_eq]
  generalize x / 2 ^ i = y
  rw [show Int.tmod (y : Int) 2 = ((y % 2 : Nat) : Int) from (Int.ofNat_tmod y 2).symm]
  by_cases h : y % 2 = 1
  · rw [h]
    rfl
  · have h0 : y % 2 = 0 := by omega
    rw [h0]
    rfl
theorem refbit_is {ws : List Nat} (h : Row ws) (i : Nat) (hi : i < 64 * ws.length) : quarryref04_bit.f (ints ws) (i : Int) = some (wbit ws i) := by
  have hl := h.len
  unfold quarryref04_bit.f
  have hr : i % 64 < 64 := Nat.mod_lt _ (by decide)
  have hu : IntKind.u64.wrap ((i % 64 : Nat) : Int) = ((i % 64 : Nat) : Int) := by rw [IntKind.wrap_u64]; omega
  rw [tmod_nat, tdiv_nat, i64_in (by omega) (by omega), if_pos (by omega), ints_len, if_pos (by omega), hu, if_pos (by omega), ints_rd]
  rw [refbit_at _ (h.at (i / 64)) _ hr]
  rfl
theorem refformed_l0 {ws : List Nat} (h : Row ws) (n : Int) : ∀ m i k, i + m = 64 * ws.length → m < k → ∃ b, quarryref04_Formed.l0 k (i : Int) n (ints ws) = some b ∧ (b = true ↔ ∀ j, i ≤ j → j < 64 * ws.length → wbit ws j = false) := by
  have hl := h.len
  have hw : wrap64 (64 * ((ints ws).length : Int)) = ((64 * ws.length : Nat) : Int) := by
    rw [ints_len, i64_in (by omega) (by omega)]
    omega
  intro m
  induction m with
  | zero =>
    intro i k hi hk
    obtain ⟨k, rfl⟩ : ∃ k', k = k' + 1 := ⟨k - 1, by omega⟩
    refine ⟨true, ?_, ⟨fun _ j h1 h2 => by omega, fun _ => rfl⟩⟩
    rw [quarryref04_Formed.l0, hw, if_neg (by omega)]
  | succ m ih =>
    intro i k hi hk
    obtain ⟨k, rfl⟩ : ∃ k', k = k' + 1 := ⟨k - 1, by omega⟩
    have hstep : quarryref04_Formed.l0 (k + 1) (i : Int) n (ints ws) = if wbit ws i = true then some false else quarryref04_Formed.l0 k ((i + 1 : Nat) : Int) n (ints ws) := by
      rw [quarryref04_Formed.l0, hw, if_pos (by omega), refbit_is h i (by omega), Option.bind_some, i64_in (by omega) (by omega)]
      rfl
    by_cases hb : wbit ws i = true
    · refine ⟨false, by rw [hstep, if_pos hb], ⟨fun g => absurd g (by decide), fun g => ?_⟩⟩
      have := g i (Nat.le_refl _) (by omega)
      rw [hb] at this
      cases this
    · obtain ⟨b, e1, e2⟩ := ih (i + 1) k (by omega) (by omega)
      refine ⟨b, by rw [hstep, if_neg hb, e1], ?_⟩
      rw [e2]
      constructor
      · intro g j h1 h2
        by_cases hj : j = i
        · subst hj
          cases hc : wbit ws j
          · rfl
          · exact absurd hc hb
        · exact g j (by omega) h2
      · intro g j h1 h2
        exact g j (by omega) h2
theorem formedB_iff {ws : List Nat} (h : Row ws) (n : Int) : formedB n ws = true ↔ (0 ≤ n ∧ ws.length = need n.toNat ∧ ∀ j, n.toNat ≤ j → j < 64 * ws.length → wbit ws j = false) := by
  constructor
  · intro hf
    obtain ⟨N, rfl, h1, h2, h3⟩ := formed_gives h hf
    refine ⟨by omega, ?_, ?_⟩
    · rw [Int.toNat_natCast]; exact h2
    · intro j hj _
      rw [Int.toNat_natCast] at hj
      exact h3 j hj
  · rintro ⟨h0, h1, h2⟩
    unfold formedB
    rw [decide_eq_true h0, decide_eq_true h1, Bool.true_and, Bool.true_and]
    by_cases hn : n = 0
    · rw [decide_eq_true hn, Bool.true_or]
    · rw [decide_eq_false hn, Bool.false_or]
      apply decide_eq_true
      obtain ⟨N, rfl⟩ : ∃ N : Nat, n = (N : Int) := ⟨n.toNat, by omega⟩
      rw [Int.toNat_natCast] at *
      by_cases hr : N % 64 = 0
      · unfold tailN
        rw [if_pos hr, Nat.sub_self, Nat.and_zero]
      · unfold need at h1
        rw [if_neg hr] at h1
        unfold tailN
        rw [if_neg hr]
        apply Nat.eq_of_testBit_eq
        intro i
        have hp : 2 ^ (N % 64) ≤ 2 ^ 63 := Nat.pow_le_pow_right (by decide) (by omega)
        have hpos : 0 < 2 ^ (N % 64) := Nat.pow_pos (by decide)
        rw [Nat.testBit_and, Nat.zero_testBit, show 18446744073709551615 - (2 ^ (N % 64) - 1) = 2 ^ 64 - ((2 ^ (N % 64) - 1) + 1) from by omega, Nat.testBit_two_pow_sub_succ (by omega), Nat.testBit_two_pow_sub_one]
        by_cases hi : i < 64
        · by_cases hi2 : i < N % 64
          · rw [decide_eq_true hi2, Bool.not_true, Bool.and_false, Bool.and_false]
          · have := h2 (64 * (ws.length - 1) + i) (by omega) (by omega)
            rw [wbit_at ws _ i hi] at this
            rw [this, Bool.false_and]
        · rw [decide_eq_false hi, Bool.false_and, Bool.and_false]
theorem refformed_is {ws : List Nat} (h : Row ws) (n : Int) (hn : n < 9223372036854775808) (k : Nat) (hk : 64 * ws.length + 5 < k) : quarryref04_Formed.f k n (ints ws) = some (formedB n ws) := by
  obtain ⟨k, rfl⟩ : ∃ k', k = k' + 1 := ⟨k - 1, by omega⟩
  have hno : ¬ (0 ≤ n ∧ ws.length = need n.toNat) → formedB n ws = false := by
    intro g
    cases hf : formedB n ws
    · rfl
    · have := (formedB_iff h n).1 hf
      exact absurd ⟨this.1, this.2.1⟩ g
  unfold quarryref04_Formed.f
  by_cases h0 : n < 0
  · rw [if_pos h0, quarryref04_Formed.j0, if_pos rfl, hno (by omega)]
  · obtain ⟨N, rfl⟩ : ∃ N : Nat, n = (N : Int) := ⟨n.toNat, by omega⟩
    rw [if_neg h0, refneed_is N (by omega), Option.bind_some, quarryref04_Formed.j0, ints_len]
    by_cases hl : ws.length = need N
    · have hN : N ≤ 64 * ws.length := by
        rw [hl]
        unfold need
        split <;> omega
      obtain ⟨b, e1, e2⟩ := refformed_l0 h N (64 * ws.length - N) N k (by omega) (by omega)
      rw [if_neg (by rw [hl]; simp), e1]
      congr 1
      rw [Bool.eq_iff_iff, e2, formedB_iff h]
      rw [Int.toNat_natCast]
      exact ⟨fun g => ⟨by omega, hl, g⟩, fun g => g.2.2⟩
    · rw [if_pos (by simp; omega), hno (by rw [Int.toNat_natCast]; exact fun g => hl g.2)]
theorem spots_succ (p : Nat → Bool) (i : Nat) : spots p (i + 1) = spots p i ++ (if p i = true then [i] else []) := by
  unfold spots
  rw [List.range_succ, List.filter_append]
  congr 1
  by_cases h : p i = true
  · rw [if_pos h, List.filter_cons_of_pos h]; rfl
  · rw [if_neg h, List.filter_cons_of_neg h]; rfl
theorem spots_flat (p : Nat → Bool) {a b : Nat} (h : a ≤ b) (hz : ∀ i, a ≤ i → p i = false) : spots p b = spots p a := by
  induction b with
  | zero => rw [show a = 0 from by omega]
  | succ b ih =>
    by_cases hb : a = b + 1
    · rw [hb]
    · rw [spots_succ, if_neg (by rw [hz b (by omega)]; decide), List.append_nil]
      exact ih (by omega)
theorem refplaces_l0 {ws : List Nat} (h : Row ws) (hs : ws.length ≤ 1048576) (N : Nat) (hN : N ≤ 64 * ws.length) : ∀ m i k, i + m = N → m < k →
    quarryref04_Places.l0 k (ints (spots (wbit ws) i)) (i : Int) (N : Int) (ints ws) = some (ints (spots (wbit ws) N)) := by
  intro m
  induction m with
  | zero =>
    intro i k hi hk
    obtain ⟨k, rfl⟩ : ∃ k', k = k' + 1 := ⟨k - 1, by omega⟩
    rw [quarryref04_Places.l0, if_neg (by omega), show i = N from by omega]
  | succ m ih =>
    intro i k hi hk
    obtain ⟨k, rfl⟩ : ∃ k', k = k' + 1 := ⟨k - 1, by omega⟩
    have e := ih (i + 1) k (by omega) (by omega)
    rw [quarryref04_Places.l0, if_pos (by omega), refbit_is h i (by omega), Option.bind_some, i64_in (i := (i : Int) + 1) (by omega) (by omega)]
    rw [spots_succ] at e
    by_cases hb : wbit ws i = true
    · rw [if_pos hb] at e
      have hc := cnt_le_n (wbit ws) i
      rw [if_pos hb, ints_len, spots_len, if_pos (by omega)]
      unfold ints at e ⊢
      rw [List.map_append] at e
      exact e
    · rw [if_neg hb, List.append_nil] at e
      rw [if_neg hb]
      exact e
theorem refplaces_is {ws : List Nat} (h : Row ws) (hs : ws.length ≤ 1048576) (n : Int) (hn : n < 9223372036854775808) (k : Nat) (hk : 64 * ws.length + 5 < k) :
    quarryref04_Places.f k n (ints ws) = some (if formedB n ws = true then ints (spots (wbit ws) n.toNat) else []) := by
  unfold quarryref04_Places.f
  rw [refformed_is h n hn k hk, Option.bind_some]
  by_cases hf : formedB n ws = true
  · obtain ⟨N, rfl, h1, h2, h3⟩ := formed_gives h hf
    rw [if_pos hf, if_pos hf, Int.toNat_natCast]
    exact refplaces_l0 h hs N h1 N 0 k (by omega) (by omega)
  · rw [if_neg hf, if_neg hf]
end Go.Proofs.YtahmpmlbonpabaaDoor.BitmapAsksPure

/- The bitmap's answers at any numbers, the program's and the reference's, by the set places. -/
namespace Go.Proofs.YtahmpmlbonpabaaDoor.BitmapAsksPure
open Go.RowKit Go.Proofs.YtahmpmlbonpabaaDoor.PBitmapAsks Go.Proofs.YtahmpmlbonpabaaDoorW.PrintWords Go.Proofs.YtahmpmlbonpabaaDoorW.PrintLast Go.Proofs.YtahmpmlbonpabaaDoorW.PrintMore
open Go.Proofs.YtahmpmlbonpabaaDoor Go.Proofs.YtahmpmlbonpabaaDoor.Ones Go.Proofs.YtahmpmlbonpabaaDoor.U64

theorem ints_getD (l : List Nat) (i : Nat) (h : i < l.length) : rd (ints l) (i : Int) = ((l[i] : Nat) : Int) := by
  rw [ints_rd, List.getD_eq_getElem?_getD, List.getElem?_eq_getElem h]
  rfl
/-- Of the places in a stretch there are as many as the ranks say. -/
theorem cnt_between (p : Nat → Bool) (a b : Int) (n : Nat) : (spots p n).countP (fun j : Nat => decide ((j : Int) ≥ a) && decide ((j : Int) < b)) = cnt p (min b.toNat n) - cnt p (min a.toNat n) := by
  induction n with
  | zero => rw [Nat.min_zero, Nat.min_zero, Nat.sub_self]; rfl
  | succ n ih =>
    rw [spots_succ, List.countP_append, ih]
    have c1 := cnt_succ p n
    have hm : ∀ x : Nat, min x (n + 1) = if x ≤ n then min x n else n + 1 := by intro x; split <;> omega
    have hn : ∀ x : Nat, ¬ x ≤ n → min x n = n := by intro x h; omega
    have l1 : a.toNat ≤ n → cnt p (min a.toNat n) ≤ cnt p n := fun _ => cnt_le p (Nat.min_le_right _ _)
    rw [hm, hm]
    by_cases hp : p n = true
    · rw [if_pos hp] at c1 ⊢
      by_cases ha : a.toNat ≤ n
      · have := l1 ha
        by_cases hb : b.toNat ≤ n
        · rw [if_pos ha, if_pos hb]
          rw [List.countP_cons_of_neg (by simp; omega)]
          rfl
        · rw [if_pos ha, if_neg hb, hn _ hb, c1, List.countP_cons_of_pos (by simp; omega)]
          show _ + (0 + 1) = _
          omega
      · rw [if_neg ha, hn _ ha]
        rw [List.countP_cons_of_neg (by simp; omega)]
        by_cases hb : b.toNat ≤ n
        · rw [if_pos hb]
          have := cnt_le p (Nat.min_le_right b.toNat n)
          have := cnt_le p (Nat.le_succ n)
          show _ + 0 = _
          simp only [Nat.succ_eq_add_one] at *
          omega
        · rw [if_neg hb, hn _ hb]
          show _ + 0 = _
          omega
    · rw [if_neg hp] at c1 ⊢
      show _ + 0 = _
      by_cases ha : a.toNat ≤ n
      · by_cases hb : b.toNat ≤ n
        · rw [if_pos ha, if_pos hb]; rfl
        · rw [if_pos ha, if_neg hb, hn _ hb, c1]; rfl
      · by_cases hb : b.toNat ≤ n
        · rw [if_neg ha, if_pos hb, hn _ ha, c1]; rfl
        · rw [if_neg ha, if_neg hb, hn _ ha, hn _ hb, Nat.sub_self, Nat.sub_self]
theorem refcount_l0 (a b : Int) (l : List Nat) (hl : l.length < 4611686018427387904) : ∀ m i k (c : Nat), i + m = l.length → m < k → c ≤ i →
    quarryref04_Count.l0 k a b (ints l) (c : Int) (i : Int) = some (((c + (l.drop i).countP (fun j : Nat => decide ((j : Int) ≥ a) && decide ((j : Int) < b)) : Nat)) : Int) := by
  intro m
  induction m with
  | zero =>
    intro i k c hi hk hc
    obtain ⟨k, rfl⟩ : ∃ k', k = k' + 1 := ⟨k - 1, by omega⟩
    rw [quarryref04_Count.l0, ints_len, if_neg (by omega), List.drop_of_length_le (by omega)]
    rfl
  | succ m ih =>
    intro i k c hi hk hc
    obtain ⟨k, rfl⟩ : ∃ k', k = k' + 1 := ⟨k - 1, by omega⟩
    have hil : i < l.length := by omega
    rw [quarryref04_Count.l0, ints_len, if_pos (by omega), if_pos (by omega), ints_getD l i hil, List.drop_eq_getElem_cons hil, i64_in (i := (i : Int) + 1) (by omega) (by omega), i64_in (i := (c : Int) + 1) (by omega) (by omega)]
    have e0 := ih (i + 1) k c (by omega) (by omega) (by omega)
    have e1 := ih (i + 1) k (c + 1) (by omega) (by omega) (by omega)
    by_cases h1 : ((l[i] : Nat) : Int) ≥ a
    · by_cases h2 : ((l[i] : Nat) : Int) < b
      · rw [if_pos h1, if_pos h2, List.countP_cons_of_pos (by simp; omega), show c + ((l.drop (i + 1)).countP (fun j : Nat => decide ((j : Int) ≥ a) && decide ((j : Int) < b)) + 1) = c + 1 + (l.drop (i + 1)).countP (fun j : Nat => decide ((j : Int) ≥ a) && decide ((j : Int) < b)) from by omega]
        exact e1
      · rw [if_pos h1, if_neg h2, List.countP_cons_of_neg (by simp; omega)]
        exact e0
    · rw [if_neg h1, List.countP_cons_of_neg (by simp; omega)]
      exact e0
/-- The first set place that is not below a number. -/
theorem refnext_l0 (p : Nat → Bool) (N f : Nat) (a : Int) (hN : N < 4611686018427387904) (hf : f ≤ N) (ha : ∀ j, j < N → (((j : Nat) : Int) ≥ a ↔ f ≤ j)) : ∀ m i k, i + m = cnt p f → m + 1 < k →
    quarryref04_Next.l0 k a (ints (spots p N)) (i : Int) = some (sel p N ((cnt p f : Nat) : Int)) := by
  have hcN := cnt_le_n p N
  have hcf := cnt_le p hf
  intro m
  induction m with
  | zero =>
    intro i k hi hk
    obtain ⟨k, rfl⟩ : ∃ k', k = k' + 1 := ⟨k - 1, by omega⟩
    rw [quarryref04_Next.l0, ints_len, spots_len]
    obtain rfl : i = cnt p f := by omega
    by_cases hl : cnt p f < cnt p N
    · have hlen : cnt p f < (spots p N).length := by rw [spots_len]; exact hl
      have hg := List.getElem?_eq_getElem hlen
      obtain ⟨g1, g2, g3⟩ := spots_rank hg
      rw [if_pos (by omega), if_pos (by omega), ints_getD _ _ hlen]
      generalize (spots p N)[cnt p f] = j at *
      have hj : f ≤ j := by
        apply Nat.le_of_not_lt
        intro hlt
        have := cnt_le p (show j + 1 ≤ f from hlt)
        rw [cnt_succ, if_pos g2] at this
        omega
      rw [if_pos ((ha j g1).2 hj), sel_eq g1 g2 (by rw [g3])]
    · rw [if_neg (by omega), sel_none (.inr (by omega))]
  | succ m ih =>
    intro i k hi hk
    obtain ⟨k, rfl⟩ : ∃ k', k = k' + 1 := ⟨k - 1, by omega⟩
    have hlen : i < (spots p N).length := by rw [spots_len]; omega
    have hg := List.getElem?_eq_getElem hlen
    obtain ⟨g1, g2, g3⟩ := spots_rank hg
    rw [quarryref04_Next.l0, ints_len, if_pos (by omega), if_pos (by omega), ints_getD _ _ hlen]
    generalize (spots p N)[i] = j at *
    have hj : ¬ f ≤ j := by
      intro hle
      have := cnt_le p hle
      omega
    rw [if_neg (fun q => hj ((ha j g1).1 q)), i64_in (by rw [spots_len] at hlen; omega) (by rw [spots_len] at hlen; omega)]
    exact ih (i + 1) k (by omega) (by omega)
/-- The last set place below a number. -/
theorem reflast_l0 (p : Nat → Bool) (N t : Nat) (a : Int) (hN : N < 4611686018427387904) (ht : t ≤ N) (ha : ∀ j, j < N → (((j : Nat) : Int) < a ↔ j < t)) : ∀ m k, cnt p t + m ≤ cnt p N → m + 2 < k →
    quarryref04_Last.l0 k a (ints (spots p N)) (((cnt p t + m : Nat) : Int) - 1) = some (sel p N (((cnt p t : Nat) : Int) - 1)) := by
  have hcN := cnt_le_n p N
  have hct := cnt_le p ht
  intro m
  induction m with
  | zero =>
    intro k hi hk
    obtain ⟨k, rfl⟩ : ∃ k', k = k' + 1 := ⟨k - 1, by omega⟩
    rw [quarryref04_Last.l0, ints_len, spots_len]
    by_cases h0 : cnt p t = 0
    · rw [if_neg (by omega), sel_none (.inl (by omega))]
    · obtain ⟨i, hi⟩ : ∃ i, cnt p t = i + 1 := ⟨cnt p t - 1, by omega⟩
      have hlen : i < (spots p N).length := by rw [spots_len]; omega
      have hg := List.getElem?_eq_getElem hlen
      obtain ⟨g1, g2, g3⟩ := spots_rank hg
      rw [if_pos (by omega), if_pos (by omega), if_pos (by omega), show ((cnt p t + 0 : Nat) : Int) - 1 = (i : Int) from by omega, ints_getD _ _ hlen]
      generalize (spots p N)[i] = j at *
      have hj : j < t := by
        apply Nat.lt_of_not_le
        intro hle
        have := cnt_le p hle
        omega
      rw [if_pos ((ha j g1).2 hj), sel_eq g1 g2 (by omega)]
  | succ m ih =>
    intro k hi hk
    obtain ⟨k, rfl⟩ : ∃ k', k = k' + 1 := ⟨k - 1, by omega⟩
    have hlen : cnt p t + m < (spots p N).length := by rw [spots_len]; omega
    have hg := List.getElem?_eq_getElem hlen
    obtain ⟨g1, g2, g3⟩ := spots_rank hg
    rw [quarryref04_Last.l0, ints_len, spots_len, if_pos (by omega), if_pos (by omega), if_pos (by omega), show ((cnt p t + (m + 1) : Nat) : Int) - 1 = ((cnt p t + m : Nat) : Int) from by omega, ints_getD _ _ hlen]
    generalize (spots p N)[cnt p t + m] = j at *
    have hj : ¬ j < t := by
      intro hlt
      have := cnt_le p (show j + 1 ≤ t from hlt)
      rw [cnt_succ, if_pos g2] at this
      omega
    rw [if_neg (fun q => hj ((ha j g1).1 q)), i64_in (by omega) (by omega)]
    exact ih k (by omega) (by omega)
end Go.Proofs.YtahmpmlbonpabaaDoor.BitmapAsksPure

/- The program's answers at any numbers are the reference's. -/
namespace Go.Proofs.YtahmpmlbonpabaaDoor.BitmapAsksPure
open Go.RowKit Go.Proofs.YtahmpmlbonpabaaDoor.PBitmapAsks Go.Proofs.YtahmpmlbonpabaaDoorW.PrintWords Go.Proofs.YtahmpmlbonpabaaDoorW.PrintLast Go.Proofs.YtahmpmlbonpabaaDoorW.PrintMore
open Go.Proofs.YtahmpmlbonpabaaDoor Go.Proofs.YtahmpmlbonpabaaDoor.Ones Go.Proofs.YtahmpmlbonpabaaDoor.U64
section
variable {ws : List Nat} {n : Int}
theorem get_both (h : Row ws) (hn : n < 9223372036854775808) (a : Int) (k : Nat) (hk : 64 * ws.length + 5 < k) :
    ∃ v, bitmap_Get.f n (ints ws) a = some v ∧ quarryref04_Get.f k n (ints ws) a = some v := by
  by_cases hf : formedB n ws = true
  · obtain ⟨N, rfl, h1, h2, h3⟩ := formed_gives h hf
    by_cases ha : a ≥ 0
    · obtain ⟨i, rfl⟩ : ∃ i : Nat, a = (i : Int) := ⟨a.toNat, by omega⟩
      refine ⟨_, get_is h hn hf rfl h1 h3 i, ?_⟩
      unfold quarryref04_Get.f
      rw [refformed_is h _ hn k hk, Option.bind_some, if_pos hf, if_pos ha]
      by_cases hi : (i : Int) < (N : Int)
      · rw [if_pos hi, refbit_is h i (by omega)]
        rfl
      · rw [if_neg hi, h3 i (by omega)]
    · refine ⟨false, ?_, ?_⟩
      · unfold bitmap_Get.f
        rw [formed_is _ hn ws h, Option.bind_some, if_pos hf, if_neg ha]
      · unfold quarryref04_Get.f
        rw [refformed_is h _ hn k hk, Option.bind_some, if_pos hf, if_neg ha]
  · refine ⟨false, ?_, ?_⟩
    · unfold bitmap_Get.f
      rw [formed_is _ hn ws h, Option.bind_some, if_neg hf]
    · unfold quarryref04_Get.f
      rw [refformed_is h _ hn k hk, Option.bind_some, if_neg hf]
theorem count_both (h : Row ws) (hs : ws.length ≤ 1048576) (hn : n < 9223372036854775808) (a b : Int) (k : Nat) (hk : 64 * ws.length + 5 < k) :
    ∃ v, bitmap_Count.f k n (ints ws) a b = some v ∧ quarryref04_Count.f k n (ints ws) a b = some v := by
  by_cases hf : formedB n ws = true
  · obtain ⟨N, rfl, h1, h2, h3⟩ := formed_gives h hf
    refine ⟨((cnt (wbit ws) (min b.toNat N) - cnt (wbit ws) (min a.toNat N) : Nat) : Int), ?_, ?_⟩
    · unfold bitmap_Count.f
      rw [formed_is _ hn ws h, Option.bind_some, if_pos hf]
      by_cases hc : mx a 0 ≥ mn b (N : Int)
      · have hle : min b.toNat N ≤ min a.toNat N := by
          unfold mx mn at hc
          split at hc <;> split at hc <;> omega
        have := cnt_le (wbit ws) hle
        rw [if_pos hc]
        congr 1
        omega
      · rw [if_neg hc]
        have e1 : mx a 0 = ((a.toNat : Nat) : Int) := by unfold mx; split <;> omega
        have e2 : mn b (N : Int) = ((min b.toNat N : Nat) : Int) := by
          unfold mx mn at hc
          unfold mn
          split at hc <;> split at hc <;> split <;> omega
        rw [e1, e2] at hc
        rw [e1, e2, below_is h _ (min b.toNat N) (by omega) k (by omega), Option.bind_some, below_is h _ a.toNat (by omega) k (by omega), Option.bind_some]
        have c1 := cnt_le (wbit ws) (show a.toNat ≤ min b.toNat N by omega)
        have c2 := cnt_le_n (wbit ws) (min b.toNat N)
        rw [i64_in (by omega) (by omega), show min a.toNat N = a.toNat from by omega]
        congr 1
        omega
    · unfold quarryref04_Count.f
      rw [refplaces_is h hs _ hn k hk, Option.bind_some, if_pos hf, Int.toNat_natCast]
      have c := cnt_le_n (wbit ws) N
      have e := refcount_l0 a b (spots (wbit ws) N) (by rw [spots_len]; omega) (spots (wbit ws) N).length 0 k 0 (by omega) (by rw [spots_len]; omega) (Nat.le_refl _)
      rw [List.drop_zero, Nat.zero_add, cnt_between] at e
      exact e
  · refine ⟨0, ?_, ?_⟩
    · unfold bitmap_Count.f
      rw [formed_is _ hn ws h, Option.bind_some, if_neg hf]
    · obtain ⟨k, rfl⟩ : ∃ k', k = k' + 1 := ⟨k - 1, by omega⟩
      unfold quarryref04_Count.f
      rw [refplaces_is h hs _ hn _ hk, Option.bind_some, if_neg hf, quarryref04_Count.l0, if_neg (by decide)]
theorem sel_flat {N : Nat} (h1 : N ≤ 64 * ws.length) (h3 : ∀ i, N ≤ i → wbit ws i = false) (x : Int) : sel (wbit ws) (64 * ws.length) x = sel (wbit ws) N x := by
  unfold sel
  rw [spots_flat (wbit ws) h1 h3]
theorem select_both (h : Row ws) (hs : ws.length ≤ 1048576) (hn : n < 9223372036854775808) (a : Int) (ha : a < 9223372036854775808) (k : Nat) (hk : 64 * ws.length + 5 < k) :
    ∃ v, bitmap_Select.f k n (ints ws) a = some v ∧ quarryref04_Select.f k n (ints ws) a = some v := by
  by_cases hf : formedB n ws = true
  · obtain ⟨N, rfl, h1, h2, h3⟩ := formed_gives h hf
    refine ⟨_, select_is h hn hf a ha k (by omega), ?_⟩
    rw [sel_flat h1 h3]
    unfold quarryref04_Select.f
    rw [refplaces_is h hs _ hn k hk, Option.bind_some, if_pos hf, Int.toNat_natCast, ints_len, spots_len]
    by_cases h0 : a < 0
    · rw [if_pos h0, sel_none (.inl h0)]
    · rw [if_neg h0]
      by_cases hc : a ≥ ((cnt (wbit ws) N : Nat) : Int)
      · rw [if_pos hc, sel_none (.inr hc)]
      · obtain ⟨i, rfl⟩ : ∃ i : Nat, a = (i : Int) := ⟨a.toNat, by omega⟩
        have hlen : i < (spots (wbit ws) N).length := by rw [spots_len]; omega
        have hg := List.getElem?_eq_getElem hlen
        obtain ⟨g1, g2, g3⟩ := spots_rank hg
        rw [if_neg hc, if_pos (by omega), if_pos (by omega), ints_getD _ _ hlen]
        generalize (spots (wbit ws) N)[i] = j at *
        rw [sel_eq g1 g2 (by rw [g3])]
  · refine ⟨-1, ?_, ?_⟩
    · obtain ⟨k, rfl⟩ : ∃ k', k = k' + 1 := ⟨k - 1, by omega⟩
      unfold bitmap_Select.f
      rw [formed_is _ hn ws h, Option.bind_some, if_neg hf, bitmap_Select.j0, if_pos rfl]
    · unfold quarryref04_Select.f
      rw [refplaces_is h hs _ hn k hk, Option.bind_some, if_neg hf]
      by_cases h0 : a < 0
      · rw [if_pos h0]
      · rw [if_neg h0, if_pos (by show a ≥ (0 : Int); omega)]
theorem next_both (h : Row ws) (hs : ws.length ≤ 1048576) (hn : n < 9223372036854775808) (a : Int) (k : Nat) (hk : 64 * ws.length + 15 < k) :
    ∃ v, bitmap_Next.f k n (ints ws) a = some v ∧ quarryref04_Next.f k n (ints ws) a = some v := by
  obtain ⟨k, rfl⟩ : ∃ k', k = k' + 1 := ⟨k - 1, by omega⟩
  by_cases hf : formedB n ws = true
  · obtain ⟨N, rfl, h1, h2, h3⟩ := formed_gives h hf
    refine ⟨sel (wbit ws) N ((cnt (wbit ws) (min a.toNat N) : Nat) : Int), ?_, ?_⟩
    · unfold bitmap_Next.f
      rw [formed_is _ hn ws h, Option.bind_some, if_pos hf, bitmap_Next.j0]
      by_cases hc : a ≥ (N : Int)
      · rw [if_pos (decide_eq_true hc), show min a.toNat N = N from by omega, sel_none (.inr (Int.le_refl _))]
      · have e1 : mx a 0 = ((a.toNat : Nat) : Int) := by unfold mx; split <;> omega
        have c2 := cnt_le_n (wbit ws) a.toNat
        rw [if_neg (by rw [decide_eq_false hc]; decide), e1, below_is h _ a.toNat (by omega) k (by omega), Option.bind_some, select_is h hn hf _ (by omega) k (by omega), Option.bind_some, sel_flat h1 h3, show min a.toNat N = a.toNat from by omega]
    · unfold quarryref04_Next.f
      rw [refplaces_is h hs _ hn _ (by omega), Option.bind_some, if_pos hf, Int.toNat_natCast]
      have c := cnt_le_n (wbit ws) (min a.toNat N)
      exact refnext_l0 (wbit ws) N (min a.toNat N) a (by omega) (by omega) (fun j hj => by omega) (cnt (wbit ws) (min a.toNat N)) 0 (k + 1) (by omega) (by omega)
  · refine ⟨-1, ?_, ?_⟩
    · unfold bitmap_Next.f
      rw [formed_is _ hn ws h, Option.bind_some, if_neg hf, bitmap_Next.j0, if_pos rfl]
    · unfold quarryref04_Next.f
      rw [refplaces_is h hs _ hn _ (by omega), Option.bind_some, if_neg hf, quarryref04_Next.l0, if_neg (by decide)]
theorem last_both (h : Row ws) (hs : ws.length ≤ 1048576) (hn : n < 9223372036854775808) (a : Int) (k : Nat) (hk : 64 * ws.length + 15 < k) :
    ∃ v, bitmap_Last.f k n (ints ws) a = some v ∧ quarryref04_Last.f k n (ints ws) a = some v := by
  obtain ⟨k, rfl⟩ : ∃ k', k = k' + 1 := ⟨k - 1, by omega⟩
  by_cases hf : formedB n ws = true
  · obtain ⟨N, rfl, h1, h2, h3⟩ := formed_gives h hf
    have ct := cnt_le_n (wbit ws) (min a.toNat N)
    refine ⟨sel (wbit ws) N (((cnt (wbit ws) (min a.toNat N) : Nat) : Int) - 1), ?_, ?_⟩
    · unfold bitmap_Last.f
      rw [formed_is _ hn ws h, Option.bind_some, if_pos hf, bitmap_Last.j0]
      by_cases hc : a ≤ 0
      · rw [if_pos (decide_eq_true hc), show min a.toNat N = 0 from by omega, cnt_zero, sel_none (.inl (by decide))]
      · have e1 : mn a (N : Int) = ((min a.toNat N : Nat) : Int) := by unfold mn; split <;> omega
        rw [if_neg (by rw [decide_eq_false hc]; decide), e1, below_is h _ (min a.toNat N) (by omega) k (by omega), Option.bind_some, i64_in (by omega) (by omega), select_is h hn hf _ (by omega) k (by omega), Option.bind_some, sel_flat h1 h3]
    · unfold quarryref04_Last.f
      rw [refplaces_is h hs _ hn _ (by omega), Option.bind_some, if_pos hf, Int.toNat_natCast, ints_len, spots_len]
      have c := cnt_le_n (wbit ws) N
      have cl := cnt_le (wbit ws) (Nat.min_le_right a.toNat N)
      rw [i64_in (by omega) (by omega)]
      have e := reflast_l0 (wbit ws) N (min a.toNat N) a (by omega) (by omega) (fun j hj => by omega) (cnt (wbit ws) N - cnt (wbit ws) (min a.toNat N)) (k + 1) (by omega) (by omega)
      rw [show cnt (wbit ws) (min a.toNat N) + (cnt (wbit ws) N - cnt (wbit ws) (min a.toNat N)) = cnt (wbit ws) N from by omega] at e
      exact e
  · refine ⟨-1, ?_, ?_⟩
    · unfold bitmap_Last.f
      rw [formed_is _ hn ws h, Option.bind_some, if_neg hf, bitmap_Last.j0, if_pos rfl]
    · unfold quarryref04_Last.f
      rw [refplaces_is h hs _ hn _ (by omega), Option.bind_some, if_neg hf]
      have e : wrap64 ((([] : List Int).length : Int) - 1) = -1 := by
        rw [show ((([] : List Int).length : Int) - 1) = -1 from rfl, i64_in (by omega) (by omega)]
      rw [e, quarryref04_Last.l0, if_neg (by decide)]
end
end Go.Proofs.YtahmpmlbonpabaaDoor.BitmapAsksPure

/- BitmapAsks, where the row is not of more than 1048576 words. -/
namespace Go.Proofs.YtahmpmlbonpabaaDoor.Pure
open Go.RowKit Go.Proofs.YtahmpmlbonpabaaDoor.PBitmapAsks Go.Proofs.YtahmpmlbonpabaaDoorW.PrintWords Go.Proofs.YtahmpmlbonpabaaDoorW.PrintLast Go.Proofs.YtahmpmlbonpabaaDoorW.PrintMore
open Go.Proofs.YtahmpmlbonpabaaDoor Go.Proofs.YtahmpmlbonpabaaDoor.Ones Go.Proofs.YtahmpmlbonpabaaDoor.U64 Go.Proofs.YtahmpmlbonpabaaDoor.BitmapAsksPure

theorem wf_i64 {x : Int} (h : (Lit.int .i64 x).wf = true) : -9223372036854775808 ≤ x ∧ x < 9223372036854775808 := by
  simp [Lit.wf, IntKind.min, IntKind.max, IntKind.bits, IntKind.signed] at h
  omega
theorem bne_self (x : Int) : (x != x) = false := bne_self_eq_false x
theorem BitmapAsks (a0_0 : Int) (l0_1 : List Int) (a1 : Int) (a2 : Int) (w0 : (Lit.int .i64 a0_0).wf = true) (wl : l0_1.length ≤ maxLen ∧ l0_1.length * 8 ≤ 140737488351232 ∧ ∀ x22 ∈ l0_1, (Lit.int .u64 x22).wf = true)
    (w1 : (Lit.int .i64 a1).wf = true) (w2 : (Lit.int .i64 a2).wf = true) (hs : l0_1.length ≤ 1048576) : ∃ k, quarrylaw04_BitmapAsks.f k a0_0 l0_1 a1 a2 = some true := by
  obtain ⟨ws, rfl, h⟩ := row_ex wl.2.1 wl.2.2
  rw [ints_len] at hs
  have hn := (wf_i64 w0).2
  have h1 := (wf_i64 w1).2
  have h2 := (wf_i64 w2).2
  refine ⟨64 * ws.length + 202, ?_⟩
  have hlent : quarrykit_LentBits.f a0_0 (ints ws) = some (a0_0, ints ws) := by
    unfold quarrykit_LentBits.f quarrykit_LentWords.f
    rw [ints_len, if_pos (by omega), Option.bind_some]
  have hkept : quarrykit_KeptBits.f a0_0 (ints ws) a0_0 (ints ws) = some true := by
    unfold quarrykit_KeptBits.f quarrykit_KeptWords.f
    rw [if_pos rfl, if_pos ⟨rfl, by rw [ints_len]; omega⟩, Option.bind_some]
  have j1 : quarrylaw04_BitmapAsks.j1 (64 * ws.length + 201) a2 false a0_0 (ints ws) a0_0 (ints ws) = some true := by
    obtain ⟨v1, p1, q1⟩ := select_both h hs hn a2 h2 (64 * ws.length + 200) (by omega)
    obtain ⟨v2, p2, q2⟩ := next_both h hs hn a2 (64 * ws.length + 200) (by omega)
    obtain ⟨v3, p3, q3⟩ := last_both h hs hn a2 (64 * ws.length + 200) (by omega)
    rw [quarrylaw04_BitmapAsks.j1, if_neg (by decide), p1, Option.bind_some, q1, Option.bind_some, if_pos rfl, p2, Option.bind_some, q2, Option.bind_some, if_pos rfl, p3, Option.bind_some, q3, Option.bind_some, if_pos rfl, hkept, Option.bind_some, if_pos rfl, awake_is _ (by omega), Option.bind_some]
  have j0 : quarrylaw04_BitmapAsks.j0 (64 * ws.length + 202) a1 a2 false a0_0 (ints ws) a0_0 (ints ws) = some true := by
    obtain ⟨v1, p1, q1⟩ := select_both h hs hn a1 h1 (64 * ws.length + 201) (by omega)
    obtain ⟨v2, p2, q2⟩ := next_both h hs hn a1 (64 * ws.length + 201) (by omega)
    obtain ⟨v3, p3, q3⟩ := last_both h hs hn a1 (64 * ws.length + 201) (by omega)
    rw [quarrylaw04_BitmapAsks.j0, if_neg (by decide), p1, Option.bind_some, q1, Option.bind_some, if_pos rfl, p2, Option.bind_some, q2, Option.bind_some, if_pos rfl, p3, Option.bind_some, q3, Option.bind_some, bne_self, j1]
  obtain ⟨v1, p1, q1⟩ := get_both h hn a1 (64 * ws.length + 202) (by omega)
  obtain ⟨v2, p2, q2⟩ := count_both h hs hn a1 a2 (64 * ws.length + 202) (by omega)
  obtain ⟨v3, p3, q3⟩ := count_both h hs hn a2 a1 (64 * ws.length + 202) (by omega)
  unfold quarrylaw04_BitmapAsks.f
  rw [hlent, Option.bind_some]
  dsimp only
  rw [p1, Option.bind_some, q1, Option.bind_some, if_neg (by simp), p2, Option.bind_some, q2, Option.bind_some, if_pos rfl, p3, Option.bind_some, q3, Option.bind_some, bne_self, j0]
end Go.Proofs.YtahmpmlbonpabaaDoor.Pure
