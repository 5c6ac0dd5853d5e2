/- BitmapRanks: rows of words, places and ranks; what the printed functions tell; the law. -/
import Derived.Test.YtahmpmlbonpabaaDoorStatBitmapRanks
import Derived.Test.YtahmpmlbonpabaaDoorSpots
import Derived.Test.YtahmpmlbonpabaaDoorU64b
namespace Go.Proofs.YtahmpmlbonpabaaDoor.BitmapRanksPure
open Go.RowKit Go.Proofs.YtahmpmlbonpabaaDoor.PBitmapRanks Go.Proofs.YtahmpmlbonpabaaDoorW.PrintWords Go.Proofs.YtahmpmlbonpabaaDoorW.PrintLast Go.Proofs.YtahmpmlbonpabaaDoorW.PrintMore
open Go.Proofs.YtahmpmlbonpabaaDoor Go.Proofs.YtahmpmlbonpabaaDoor.Ones Go.Proofs.YtahmpmlbonpabaaDoor.U64

def ints (ws : List Nat) : List Int := ws.map (fun n : Nat => (n : Int))
/-- A row of words within its bounds. -/
structure Row (ws : List Nat) : Prop where
  word : ∀ w ∈ ws, w < 18446744073709551616
  len : ws.length * 8 ≤ 140737488351232
theorem ints_len (ws : List Nat) : (ints ws).length = ws.length := List.length_map _
theorem ints_rd (ws : List Nat) (i : Nat) : rd (ints ws) (i : Int) = ((ws.getD i 0 : Nat) : Int) := by
  unfold rd ints
  rw [Int.toNat_natCast, List.getD_eq_getElem?_getD, List.getElem?_map, List.getD_eq_getElem?_getD]
  cases ws[i]? <;> rfl
theorem Row.at {ws : List Nat} (h : Row ws) (i : Nat) : ws.getD i 0 < 18446744073709551616 := by
  rw [List.getD_eq_getElem?_getD]
  cases hi : ws[i]? with
  | none => decide
  | some w => exact h.word w (List.mem_of_getElem? hi)
theorem row_ex {l : List Int} (h1 : l.length * 8 ≤ 140737488351232) (h2 : ∀ x ∈ l, (Lit.int .u64 x).wf = true) : ∃ ws, l = ints ws ∧ Row ws := by
  refine ⟨l.map Int.toNat, ?_, ⟨?_, by rw [List.length_map]; exact h1⟩⟩
  · unfold ints
    rw [List.map_map]
    conv => lhs; rw [← List.map_id l]
    apply List.map_congr_left
    intro x hx
    have := wf_of (h2 x hx)
    simp
    omega
  · intro w hw
    obtain ⟨x, hx, rfl⟩ := List.mem_map.1 hw
    have := wf_of (h2 x hx)
    omega
theorem i64_in {i : Int} (h0 : -4611686018427387904 ≤ i) (h1 : i < 4611686018427387904) : wrap64 i = i := by
  unfold wrap64
  omega
theorem tmod_nat (n : Nat) : Int.tmod (n : Int) 64 = ((n % 64 : Nat) : Int) := (Int.ofNat_tmod n 64).symm
theorem tdiv_nat (n : Nat) : Int.tdiv (n : Int) 64 = ((n / 64 : Nat) : Int) := (Int.ofNat_tdiv n 64).symm
def need (n : Nat) : Nat := if n % 64 = 0 then n / 64 else n / 64 + 1
theorem size_is (n : Nat) (hn : n < 9223372036854775808) : bitmap_size.f (n : Int) = some ((need n : Nat) : Int) := by
  unfold bitmap_size.f need
  rw [tmod_nat, tdiv_nat, i64_in (by omega) (by omega)]
  by_cases h : n % 64 = 0
  · rw [if_pos (by omega), if_pos h]
  · rw [if_neg (by omega), if_neg h, i64_in (by omega) (by omega)]
    congr 1
def tailN (n : Nat) : Nat := if n % 64 = 0 then 18446744073709551615 else 2 ^ (n % 64) - 1
theorem tail_is (n : Nat) : bitmap_tail.f (n : Int) = some ((tailN n : Nat) : Int) := by
  unfold bitmap_tail.f PTailF.bitmap_tail.f tailN
  rw [tmod_nat]
  by_cases h : n % 64 = 0
  · rw [if_pos (by omega), if_pos h]
    rfl
  · have hr : n % 64 < 64 := Nat.mod_lt _ (by decide)
    have hp : (2 : Nat) ^ (n % 64) ≤ 2 ^ 63 := Nat.pow_le_pow_right (by decide) (by omega)
    have hp0 : 0 < (2 : Nat) ^ (n % 64) := Nat.two_pow_pos _
    rw [if_neg (by omega), if_neg h, if_pos (by omega)]
    congr 1
    unfold shl
    rw [Int.toNat_natCast, Nat.min_eq_left (by simp [IntKind.bits]; omega), Int.one_mul, pow_cast, IntKind.wrap_u64, IntKind.wrap_u64]
    generalize (2 : Nat) ^ (n % 64) = q at *
    omega

/-- Is it a row? -/
def formedB (n : Int) (ws : List Nat) : Bool := decide (0 ≤ n) && (decide (ws.length = need n.toNat) && (decide (n = 0) || decide (ws.getD (ws.length - 1) 0 &&& (18446744073709551615 - tailN n.toNat) = 0)))

theorem andNot_nat (a b : Nat) (ha : a < 18446744073709551616) (hb : b < 18446744073709551616) : Go.bits .andNot .u64 (a : Int) (b : Int) = ((a &&& (18446744073709551615 - b) : Nat) : Int) := by
  rw [andNot_I]
  unfold I B
  rw [BitVec.toNat_and, BitVec.toNat_not, BitVec.ofInt_natCast, BitVec.ofInt_natCast, BitVec.toNat_ofNat, BitVec.toNat_ofNat, Nat.mod_eq_of_lt (by omega), Nat.mod_eq_of_lt (by omega)]
theorem tailN_lt (n : Nat) : tailN n < 18446744073709551616 := by
  unfold tailN
  have hr : n % 64 < 64 := Nat.mod_lt _ (by decide)
  have hp : (2 : Nat) ^ (n % 64) ≤ 2 ^ 63 := Nat.pow_le_pow_right (by decide) (by omega)
  generalize (2 : Nat) ^ (n % 64) = q at *
  split <;> omega
theorem formed_is (n : Int) (hn : n < 9223372036854775808) (ws : List Nat) (h : Row ws) : bitmap_Formed.f n (ints ws) = some (formedB n ws) := by
  unfold bitmap_Formed.f formedB
  by_cases h0 : n < 0
  · rw [if_pos h0]
    have : ¬ 0 ≤ n := by omega
    simp [this]
  · obtain ⟨m, rfl⟩ := Int.eq_ofNat_of_zero_le (show 0 ≤ n by omega)
    rw [if_neg h0, size_is m (by omega), Option.bind_some, ints_len, Int.toNat_natCast]
    by_cases h1 : ws.length = need m
    · rw [if_pos (by omega)]
      by_cases h2 : (m : Int) = 0
      · rw [if_pos h2]
        simp [h1, h2]
      · have hl := h.len
        have hpos : 0 < ws.length := by
          rw [h1]
          unfold need
          split <;> omega
        have e : wrap64 ((ws.length : Int) - 1) = ((ws.length - 1 : Nat) : Int) := by
          rw [i64_in (by omega) (by omega)]
          omega
        rw [if_neg h2, e, if_pos (by omega), if_pos (by omega), tail_is, Option.bind_some, ints_rd, andNot_nat _ _ (h.at _) (tailN_lt m)]
        congr 1
        rw [decide_eq_false h2, decide_eq_true h1]
        simp
        rw [Bool.eq_iff_iff]
        simp
    · rw [if_neg (by omega), decide_eq_false h1]
      simp

theorem and_comp_zero (a r : Nat) (ha : a < 18446744073709551616) (hr : r < 64) (h : a &&& (18446744073709551615 - (2 ^ r - 1)) = 0) : a < 2 ^ r := by
  apply Nat.lt_of_not_le
  intro hge
  obtain ⟨i, hi, hb⟩ := Nat.exists_ge_and_testBit_of_ge_two_pow hge
  have hi64 : i < 64 := by
    apply Nat.lt_of_not_le
    intro h64
    have : a < 2 ^ i := Nat.lt_of_lt_of_le ha (by
      have : (2 : Nat) ^ 64 ≤ 2 ^ i := Nat.pow_le_pow_right (by decide) h64
      exact this)
    rw [Nat.testBit_lt_two_pow this] at hb
    cases hb
  have hp : (2 : Nat) ^ r ≤ 2 ^ 63 := Nat.pow_le_pow_right (by decide) (by omega)
  have hp0 : 0 < (2 : Nat) ^ r := Nat.two_pow_pos _
  have hc : (18446744073709551615 - (2 ^ r - 1)).testBit i = true := by
    have e : 18446744073709551615 - (2 ^ r - 1) = 2 ^ 64 - ((2 ^ r - 1) + 1) := by
      have : (2 : Nat) ^ 64 = 18446744073709551616 := by decide
      omega
    rw [e, Nat.testBit_two_pow_sub_succ (by have : (2 : Nat) ^ 64 = 18446744073709551616 := by decide
                                            omega)]
    rw [Nat.testBit_two_pow_sub_one]
    simp
    omega
  have := congrArg (fun x => x.testBit i) h
  simp only [Nat.testBit_and, hb, hc] at this
  simp at this

/-- What a row is: its length is a number of places within its words, and none behind it is set. -/
theorem formed_gives {n : Int} {ws : List Nat} (h : Row ws) (hf : formedB n ws = true) : ∃ N : Nat, n = (N : Int) ∧ N ≤ 64 * ws.length ∧ ws.length = need N ∧ ∀ i, N ≤ i → wbit ws i = false := by
  unfold formedB at hf
  simp only [Bool.and_eq_true, Bool.or_eq_true, decide_eq_true_eq] at hf
  obtain ⟨h0, h1, h2⟩ := hf
  obtain ⟨N, rfl⟩ := Int.eq_ofNat_of_zero_le h0
  rw [Int.toNat_natCast] at h1 h2
  refine ⟨N, rfl, ?_, h1, ?_⟩
  · rw [h1]
    unfold need
    split <;> omega
  · intro i hi
    unfold wbit
    by_cases hlt : i / 64 < ws.length
    · rcases h2 with h2 | h2
      · have : N = 0 := by omega
        subst this
        rw [h1] at hlt
        simp [need] at hlt
      · have hq : i / 64 = ws.length - 1 ∧ N % 64 ≠ 0 ∧ N % 64 ≤ i % 64 := by
          unfold need at h1
          by_cases hz : N % 64 = 0
          · rw [if_pos hz] at h1
            omega
          · rw [if_neg hz] at h1
            omega
        rw [hq.1]
        unfold tailN at h2
        rw [if_neg hq.2.1] at h2
        have := and_comp_zero _ _ (h.at _) (Nat.mod_lt N (by decide)) h2
        exact Nat.testBit_lt_two_pow (Nat.lt_of_lt_of_le this (Nat.pow_le_pow_right (by decide) hq.2.2))
    · rw [List.getD_eq_getElem?_getD, List.getElem?_eq_none (by omega)]
      simp
end Go.Proofs.YtahmpmlbonpabaaDoor.BitmapRanksPure

namespace Go.Proofs.YtahmpmlbonpabaaDoor.BitmapRanksPure
open Go.RowKit Go.Proofs.YtahmpmlbonpabaaDoor.PBitmapRanks Go.Proofs.YtahmpmlbonpabaaDoorW.PrintWords Go.Proofs.YtahmpmlbonpabaaDoorW.PrintLast Go.Proofs.YtahmpmlbonpabaaDoorW.PrintMore
open Go.Proofs.YtahmpmlbonpabaaDoor Go.Proofs.YtahmpmlbonpabaaDoor.Ones Go.Proofs.YtahmpmlbonpabaaDoor.U64

theorem cnt_flat (p : Nat → Bool) {a b : Nat} (h : a ≤ b) (hz : ∀ i, a ≤ i → p i = false) : cnt p b = cnt p a := by
  obtain ⟨m, rfl⟩ : ∃ m, b = a + m := ⟨b - a, by omega⟩
  clear h
  induction m with
  | zero => rfl
  | succ m ih => rw [← Nat.add_assoc, cnt_succ, ih, hz _ (by omega)]; simp
theorem rankM_at {ws : List Nat} (h : Row ws) (j i : Nat) (hi : i ≤ 64) : words_RankM.f ((ws.getD j 0 : Nat) : Int) (i : Int) = some ((count (ws.getD j 0) i : Nat) : Int) := by
  have hw := h.at j
  unfold words_RankM.f words_Rank.f rankOf
  rw [if_pos (by omega), Int.toNat_natCast, Int.toNat_natCast, Nat.min_eq_left hi]
theorem take_rd (ws : List Nat) (q j : Nat) (hj : j < q) : rd ((ints ws).take q) (j : Int) = ((ws.getD j 0 : Nat) : Int) := by
  have e : (ints ws).take q = ints (ws.take q) := by unfold ints; rw [List.map_take]
  rw [e, ints_rd, List.getD_eq_getElem?_getD, List.getElem?_take, if_pos hj, List.getD_eq_getElem?_getD]
theorem below_l0 {ws : List Nat} (h : Row ws) (n : Int) (t q : Nat) (hq : q = t / 64) (hql : q ≤ ws.length) (ht : t ≤ 64 * ws.length) : ∀ m j k, j + m = q → m < k →
    bitmap_below.l0 k (t : Int) ((cnt (wbit ws) (64 * j) : Nat) : Int) ((ints ws).take q) (q : Int) (j : Int) n (ints ws) = some ((cnt (wbit ws) t : Nat) : Int) := by
  have hl := h.len
  intro m
  induction m with
  | zero =>
    intro j k hj hk
    obtain ⟨k, rfl⟩ : ∃ k', k = k' + 1 := ⟨k - 1, by omega⟩
    have : j = q := by omega
    subst this
    rw [bitmap_below.l0]
    rw [if_neg (by omega), tmod_nat, tdiv_nat, i64_in (by omega) (by omega), ← hq]
    by_cases hz : t % 64 = 0
    · have e : 64 * j = t := by omega
      rw [if_neg (by omega), e]
    · have e : 64 * j + t % 64 = t := by omega
      rw [if_pos (by omega), if_pos (by omega), ints_len, if_pos (by omega), ints_rd, rankM_at h _ _ (by omega), Option.bind_some]
      have hw := wcnt ws j (t % 64) (by omega)
      rw [e] at hw
      have hle := cnt_le_n (wbit ws) t
      rw [i64_in (by omega) (by omega)]
      congr 1
      omega
  | succ m ih =>
    intro j k hj hk
    obtain ⟨k, rfl⟩ : ∃ k', k = k' + 1 := ⟨k - 1, by omega⟩
    rw [bitmap_below.l0]
    have hlen : ((ints ws).take q).length = q := by rw [List.length_take, ints_len]; omega
    rw [if_pos (by omega), if_pos (by omega), hlen, if_pos (by omega), take_rd ws q j (by omega), show (64 : Int) = ((64 : Nat) : Int) from rfl, rankM_at h _ _ (Nat.le_refl _), Option.bind_some]
    have hw := wcnt_word ws j
    have hle := cnt_le_n (wbit ws) (64 * (j + 1))
    have e1 : wrap64 (((cnt (wbit ws) (64 * j) : Nat) : Int) + ((count (ws.getD j 0) 64 : Nat) : Int)) = ((cnt (wbit ws) (64 * (j + 1)) : Nat) : Int) := by
      rw [i64_in (by omega) (by omega)]
      omega
    have e2 : wrap64 ((j : Int) + 1) = ((j + 1 : Nat) : Int) := by
      rw [i64_in (by omega) (by omega)]
      omega
    rw [e1, e2]
    clear e1 e2 hw hle hlen
    exact ih (j + 1) k (by rw [← hj]; exact Nat.add_right_comm j 1 m) (Nat.lt_of_succ_lt_succ hk)
theorem below_is {ws : List Nat} (h : Row ws) (n : Int) (t : Nat) (ht : t ≤ 64 * ws.length) (k : Nat) (hk : ws.length < k) :
    bitmap_below.f k n (ints ws) (t : Int) = some ((cnt (wbit ws) t : Nat) : Int) := by
  have hl := h.len
  unfold bitmap_below.f
  rw [tdiv_nat, i64_in (by omega) (by omega), if_pos (by omega), ints_len, if_pos (by omega), Int.toNat_natCast]
  obtain ⟨q, hq⟩ : ∃ q, q = t / 64 := ⟨_, rfl⟩
  have hq1 : q ≤ ws.length := by omega
  have hq2 : q < k := by omega
  rw [← hq]
  have hlen : ((ints ws).take q).length = q := by rw [List.length_take, ints_len]; exact Nat.min_eq_left hq1
  rw [hlen]
  have h0 := below_l0 h n t q hq hq1 ht q 0 k (Nat.zero_add q) hq2
  rw [Nat.mul_zero, cnt_zero] at h0
  exact h0
theorem select_l0 {ws : List Nat} (h : Row ws) : ∀ m j k (x : Int), j + m = ws.length → m < k → 0 ≤ x → x < 9223372036854775808 →
    bitmap_Select.l0 k x (ints ws) (ws.length : Int) (j : Int) = some (sel (wbit ws) (64 * ws.length) (x + (cnt (wbit ws) (64 * j) : Nat))) := by
  have hl := h.len
  intro m
  induction m with
  | zero =>
    intro j k x hj hk hx hx2
    obtain ⟨k, rfl⟩ : ∃ k', k = k' + 1 := ⟨k - 1, by omega⟩
    have : j = ws.length := by omega
    subst this
    rw [bitmap_Select.l0]
    rw [if_neg (by omega), sel_none (.inr (by omega))]
  | succ m ih =>
    intro j k x hj hk hx hx2
    obtain ⟨k, rfl⟩ : ∃ k', k = k' + 1 := ⟨k - 1, by omega⟩
    rw [bitmap_Select.l0]
    have hw := wcnt_word ws j
    rw [if_pos (by omega), if_pos (by omega), ints_len, if_pos (by omega), ints_rd, show words_RankM.f ((ws.getD j 0 : Nat) : Int) 64 = some ((count (ws.getD j 0) 64 : Nat) : Int) from rankM_at h j 64 (Nat.le_refl _), Option.bind_some]
    have hc := count_le (ws.getD j 0) 64
    by_cases hlt : x < ((count (ws.getD j 0) 64 : Nat) : Int)
    · rw [if_pos hlt]
      have hat := h.at j
      have hs : words_Select.f ((ws.getD j 0 : Nat) : Int) x = some (selectOf (ws.getD j 0) x) := by
        unfold words_Select.f u64ok i64ok
        rw [if_pos (by omega), Int.toNat_natCast]
      rw [hs, Option.bind_some]
      have hge : 0 ≤ selectOf (ws.getD j 0) x := by
        apply Int.not_lt.1
        intro hneg
        have := (select_lt hneg).2
        omega
      obtain ⟨i, e1, e2, e3, e4, e5, e6⟩ := select_ge hge
      rw [e1, i64_in (i := 64 * (j : Int)) (by omega) (by omega), i64_in (by omega) (by omega)]
      have hr := wcnt ws j i (by omega)
      rw [sel_eq (i := 64 * j + i) (by omega) (by rw [wbit_at ws j i e2]; exact e3) (by rw [hr]; omega)]
      congr 1
    · rw [if_neg hlt]
      have e1 : wrap64 (x - ((count (ws.getD j 0) 64 : Nat) : Int)) = x - ((count (ws.getD j 0) 64 : Nat) : Int) := by
        unfold wrap64
        omega
      have e2 : wrap64 ((j : Int) + 1) = ((j + 1 : Nat) : Int) := by
        rw [i64_in (by omega) (by omega)]
        omega
      rw [e1, e2, ih (j + 1) k _ (by omega) (by omega) (by omega) (by omega)]
      congr 2
      omega
theorem bit_at (x : Nat) (hx : x < 18446744073709551616) (i : Nat) (hi : i < 64) : Go.bits .and .u64 (shr .u64 (x : Int) (i : Int)) 1 = if x.testBit i then 1 else 0 := by
  have e : (x : Int) = I (BitVec.ofNat 64 x) := by
    unfold I
    rw [BitVec.toNat_ofNat, Nat.mod_eq_of_lt (by omega)]
  have hb : (BitVec.ofNat 64 x).getLsbD i = x.testBit i := by
    rw [BitVec.getLsbD_ofNat]
    simp [hi]
  have ei : (i : Int) = IntKind.u64.wrap (i : Int) := by
    rw [IntKind.wrap_u64]
    omega
  rw [e, ei, shr_word _ i hi, bit_I, hb]
variable {ws : List Nat} {n : Int} {N : Nat}
theorem select_is (h : Row ws) (hn : n < 9223372036854775808) (hf : formedB n ws = true) (x : Int) (hx2 : x < 9223372036854775808) (k : Nat) (hk : ws.length + 1 < k) :
    bitmap_Select.f k n (ints ws) x = some (sel (wbit ws) (64 * ws.length) x) := by
  obtain ⟨k, rfl⟩ : ∃ k', k = k' + 1 := ⟨k - 1, by omega⟩
  unfold bitmap_Select.f
  rw [formed_is n hn ws h, hf, Option.bind_some, if_pos rfl, bitmap_Select.j0]
  by_cases h0 : x < 0
  · rw [if_pos (decide_eq_true h0), sel_none (.inl h0)]
  · rw [if_neg (by simpa using h0), ints_len]
    have := select_l0 h ws.length 0 k x (by omega) (by omega) (by omega) hx2
    rw [show ((0 : Nat) : Int) = 0 from rfl] at this
    rw [this]
    congr 2
    rw [show 64 * 0 = 0 from rfl, cnt_zero]
    omega
theorem count_is (h : Row ws) (hn : n < 9223372036854775808) (hf : formedB n ws = true) (hN : n = (N : Int)) (hle : N ≤ 64 * ws.length) (a b : Nat) (hb : b ≤ N) (k : Nat) (hk : ws.length < k) :
    bitmap_Count.f k n (ints ws) (a : Int) (b : Int) = some ((cnt (wbit ws) b - cnt (wbit ws) a : Nat) : Int) := by
  have hl := h.len
  unfold bitmap_Count.f
  rw [formed_is n hn ws h, hf, Option.bind_some, if_pos rfl]
  have e1 : mx (a : Int) 0 = (a : Int) := by unfold mx; rw [if_neg (by omega)]
  have e2 : mn (b : Int) n = (b : Int) := by unfold mn; rw [if_neg (by omega)]
  rw [e1, e2]
  by_cases hab : (a : Int) ≥ (b : Int)
  · rw [if_pos hab]
    have := cnt_le (wbit ws) (show b ≤ a by omega)
    congr 1
    omega
  · have := cnt_le (wbit ws) (show a ≤ b by omega)
    have h2 := cnt_le_n (wbit ws) b
    rw [if_neg hab, below_is h n b (by omega) k hk, Option.bind_some, below_is h n a (by omega) k hk, Option.bind_some, i64_in (by omega) (by omega)]
    congr 1
    omega
theorem next_is (h : Row ws) (hn : n < 9223372036854775808) (hf : formedB n ws = true) (hN : n = (N : Int)) (hle : N ≤ 64 * ws.length) (hz : ∀ i, N ≤ i → wbit ws i = false) (i : Nat) (hi : i ≤ N) (k : Nat) (hk : ws.length + 2 < k) :
    bitmap_Next.f k n (ints ws) (i : Int) = some (sel (wbit ws) (64 * ws.length) ((cnt (wbit ws) i : Nat) : Int)) := by
  obtain ⟨k, rfl⟩ : ∃ k', k = k' + 1 := ⟨k - 1, by omega⟩
  have hl := h.len
  unfold bitmap_Next.f
  rw [formed_is n hn ws h, hf, Option.bind_some, if_pos rfl, bitmap_Next.j0]
  have e1 : mx (i : Int) 0 = (i : Int) := by unfold mx; rw [if_neg (by omega)]
  have h2 := cnt_le_n (wbit ws) i
  by_cases hab : (i : Int) ≥ n
  · rw [if_pos (decide_eq_true hab), sel_none (.inr (by rw [cnt_flat (wbit ws) hle hz]; have : i = N := by omega
                                                        rw [this]; exact Int.le_refl _))]
  · rw [if_neg (by simpa using hab), e1, below_is h n i (by omega) k (by omega), Option.bind_some, select_is h hn hf _ (by omega) k (by omega), Option.bind_some]
theorem last_is (h : Row ws) (hn : n < 9223372036854775808) (hf : formedB n ws = true) (hN : n = (N : Int)) (hle : N ≤ 64 * ws.length) (i : Nat) (hi : i ≤ N) (k : Nat) (hk : ws.length + 2 < k) :
    bitmap_Last.f k n (ints ws) (i : Int) = some (sel (wbit ws) (64 * ws.length) (((cnt (wbit ws) i : Nat) : Int) - 1)) := by
  obtain ⟨k, rfl⟩ : ∃ k', k = k' + 1 := ⟨k - 1, by omega⟩
  have hl := h.len
  unfold bitmap_Last.f
  rw [formed_is n hn ws h, hf, Option.bind_some, if_pos rfl, bitmap_Last.j0]
  have e1 : mn (i : Int) n = (i : Int) := by unfold mn; rw [if_neg (by omega)]
  have h2 := cnt_le_n (wbit ws) i
  by_cases hab : (i : Int) ≤ 0
  · have : i = 0 := by omega
    subst this
    rw [if_pos (decide_eq_true hab), cnt_zero, sel_none (.inl (by decide))]
  · rw [if_neg (by simpa using hab), e1, below_is h n i (by omega) k (by omega), Option.bind_some, i64_in (by omega) (by omega), select_is h hn hf _ (by omega) k (by omega), Option.bind_some]
theorem get_is (h : Row ws) (hn : n < 9223372036854775808) (hf : formedB n ws = true) (hN : n = (N : Int)) (hle : N ≤ 64 * ws.length) (hz : ∀ i, N ≤ i → wbit ws i = false) (i : Nat) :
    bitmap_Get.f n (ints ws) (i : Int) = some (wbit ws i) := by
  have hl := h.len
  unfold bitmap_Get.f
  rw [formed_is n hn ws h, hf, Option.bind_some, if_pos rfl, if_pos (by omega)]
  by_cases hi : (i : Int) < n
  · rw [if_pos hi, tmod_nat, tdiv_nat, i64_in (by omega) (by omega), if_pos (by omega), ints_len, if_pos (by omega), if_pos (by omega), ints_rd]
    congr 1
    have hat := h.at (i / 64)
    unfold wbit
    have hr : i % 64 < 64 := Nat.mod_lt _ (by decide)
    generalize i % 64 = r at *
    generalize ws.getD (i / 64) 0 = w at *
    rw [bit_at w hat r hr]
    cases w.testBit r <;> rfl
  · rw [if_neg hi, hz i (by omega)]
theorem awake_is (k : Nat) (hk : 100 ≤ k) : quarrylaw04_awake.f k = some true := by
  have h : quarrylaw04_awake.f 100 = some true := by decide +kernel
  obtain ⟨m, rfl⟩ : ∃ m, k = 100 + m := ⟨k - 100, by omega⟩
  clear hk
  induction m with
  | zero => exact h
  | succ m ih => exact quarrylaw04_awake.mono _ _ ih
end Go.Proofs.YtahmpmlbonpabaaDoor.BitmapRanksPure

namespace Go.Proofs.YtahmpmlbonpabaaDoor.Pure
open Go.RowKit Go.Proofs.YtahmpmlbonpabaaDoor.PBitmapRanks Go.Proofs.YtahmpmlbonpabaaDoorW.PrintWords Go.Proofs.YtahmpmlbonpabaaDoorW.PrintLast Go.Proofs.YtahmpmlbonpabaaDoorW.PrintMore
open Go.Proofs.YtahmpmlbonpabaaDoor Go.Proofs.YtahmpmlbonpabaaDoor.Ones Go.Proofs.YtahmpmlbonpabaaDoor.U64 Go.Proofs.YtahmpmlbonpabaaDoor.BitmapRanksPure

theorem wf_i64 {x : Int} (h : (Lit.int .i64 x).wf = true) : -9223372036854775808 ≤ x ∧ x < 9223372036854775808 := by
  simp [Lit.wf, IntKind.min, IntKind.max, IntKind.bits, IntKind.signed] at h
  omega
theorem pick_is (i n : Int) (h0 : 0 ≤ n) (h1 : n < 4611686018427387903) : ∃ m : Int, quarrykit_Pick.f i (wrap64 (n + 1)) = some m ∧ 0 ≤ m ∧ m ≤ n := by
  rw [i64_in (i := n + 1) (by omega) (by omega)]
  unfold quarrykit_Pick.f
  have a1 := Int.tmod_lt_of_pos i (show 0 < n + 1 by omega)
  have a3 : -(n + 1) < Int.tmod i (n + 1) := by
    have := Int.lt_tmod_of_pos i (show 0 < n + 1 by omega)
    omega
  rw [if_neg (by omega)]
  by_cases h : Int.tmod i (n + 1) < 0
  · rw [if_pos h]
    refine ⟨_, rfl, ?_⟩
    unfold wrap64
    omega
  · rw [if_neg h]
    exact ⟨_, rfl, by omega, by omega⟩
section
variable {ws : List Nat} {n : Int} {N : Nat}
structure Of (ws : List Nat) (n : Int) (N : Nat) : Prop where
  row : Row ws
  lt : n < 9223372036854775808
  formed : formedB n ws = true
  is : n = (N : Int)
  le : N ≤ 64 * ws.length
  off : ∀ i, N ≤ i → wbit ws i = false
theorem Of.full (o : Of ws n N) : cnt (wbit ws) (64 * ws.length) = cnt (wbit ws) N := cnt_flat _ o.le o.off
theorem Of.lt_of (o : Of ws n N) {i : Nat} (h : wbit ws i = true) : i < N := by
  apply Nat.lt_of_not_le
  intro hge
  rw [o.off i hge] at h
  cases h
theorem Of.count (o : Of ws n N) (a b : Nat) (hb : b ≤ N) (k : Nat) (hk : ws.length + 10 < k) : bitmap_Count.f k n (ints ws) (a : Int) (b : Int) = some ((cnt (wbit ws) b - cnt (wbit ws) a : Nat) : Int) := count_is o.row o.lt o.formed o.is o.le a b hb k (by omega)
theorem Of.select (o : Of ws n N) (x : Int) (hx : x < 9223372036854775808) (k : Nat) (hk : ws.length + 10 < k) : bitmap_Select.f k n (ints ws) x = some (sel (wbit ws) (64 * ws.length) x) := select_is o.row o.lt o.formed x hx k (by omega)
theorem Of.get (o : Of ws n N) (i : Nat) : bitmap_Get.f n (ints ws) (i : Int) = some (wbit ws i) := get_is o.row o.lt o.formed o.is o.le o.off i
theorem Of.small (o : Of ws n N) : N < 4611686018427387903 := by
  have := o.le
  have := o.row.len
  omega
theorem j5_is (o : Of ws n N) (a : Int) (ha : a < 9223372036854775808) (k : Nat) (hk : ws.length + 20 < k) (b : Bool) (hb : b = (decide (a < 0) || decide (a ≥ (cnt (wbit ws) N : Nat)))) :
    quarrylaw04_BitmapRanks.j5 k a (sel (wbit ws) (64 * ws.length) a) b n (ints ws) = some true := by
  obtain ⟨k, rfl⟩ : ∃ k', k = k' + 1 := ⟨k - 1, by omega⟩
  rw [quarrylaw04_BitmapRanks.j5]
  cases b with
  | true =>
    rw [if_pos rfl]
    have : a < 0 ∨ ((cnt (wbit ws) N : Nat) : Int) ≤ a := by simpa using hb.symm
    rw [sel_none (by rw [o.full]; exact this)]
    rfl
  | false =>
    rw [if_neg (by decide)]
    have h2 : ¬ (a < 0) ∧ ¬ (a ≥ ((cnt (wbit ws) N : Nat) : Int)) := by
      constructor
      · intro h; rw [decide_eq_true h] at hb; simp at hb
      · intro h; rw [decide_eq_true h] at hb; simp at hb
    have hge : 0 ≤ sel (wbit ws) (64 * ws.length) a := by
      apply Int.not_lt.1
      intro h
      have := (sel_lt h).2
      rw [o.full] at this
      omega
    obtain ⟨i, e1, e2, e3, e4, e5, e6⟩ := sel_ge hge
    have hi := o.lt_of e3
    have hn := o.is
    rw [e1, if_pos (by omega), if_pos (by omega), o.get, Option.bind_some, if_pos e3]
    have hc := o.count 0 i (by omega) k (by omega)
    rw [show ((0 : Nat) : Int) = 0 from rfl] at hc
    rw [hc, Option.bind_some, cnt_zero, Nat.sub_zero, e4]
    simp
theorem j4_is (o : Of ws n N) (a : Int) (ha : a < 9223372036854775808) (i : Nat) (k : Nat) (hk : ws.length + 30 < k) :
    quarrylaw04_BitmapRanks.j4 k (i : Int) a ((cnt (wbit ws) N : Nat) : Int) (sel (wbit ws) (64 * ws.length) ((cnt (wbit ws) i : Nat) : Int)) false n (ints ws) = some true := by
  obtain ⟨k, rfl⟩ : ∃ k', k = k' + 1 := ⟨k - 1, by omega⟩
  rw [quarrylaw04_BitmapRanks.j4]
  rw [if_neg (by decide), o.get, Option.bind_some]
  have hl := o.le
  have e : wbit ws i = (sel (wbit ws) (64 * ws.length) ((cnt (wbit ws) i : Nat) : Int) == (i : Int)) := by
    rw [Bool.eq_iff_iff, beq_iff_eq]
    constructor
    · intro h
      have := o.lt_of h
      exact sel_at _ _ i (by omega) h
    · intro h
      obtain ⟨j, e1, e2, e3, _⟩ := sel_ge (p := wbit ws) (n := 64 * ws.length) (k := ((cnt (wbit ws) i : Nat) : Int)) (by omega)
      have : j = i := by omega
      rw [← this]
      exact e3
  rw [e, bne_self_eq_false, if_neg (by decide), o.select a ha k (by omega), Option.bind_some]
  by_cases h0 : a < 0
  · rw [if_pos h0]
    exact j5_is o a ha k (by omega) true (by rw [decide_eq_true h0]; rfl)
  · rw [if_neg h0]
    exact j5_is o a ha k (by omega) _ (by rw [decide_eq_false h0]; rfl)
theorem j3_is (o : Of ws n N) (a : Int) (ha : a < 9223372036854775808) (i : Nat) (hi : i ≤ N) (k : Nat) (hk : ws.length + 40 < k) :
    quarrylaw04_BitmapRanks.j3 k (i : Int) a ((cnt (wbit ws) N : Nat) : Int) ((cnt (wbit ws) i : Nat) : Int) (sel (wbit ws) (64 * ws.length) ((cnt (wbit ws) i : Nat) : Int)) (sel (wbit ws) (64 * ws.length) (((cnt (wbit ws) i : Nat) : Int) - 1)) false n (ints ws) = some true := by
  obtain ⟨k, rfl⟩ : ∃ k', k = k' + 1 := ⟨k - 1, by omega⟩
  rw [quarrylaw04_BitmapRanks.j3]
  rw [if_neg (by decide)]
  by_cases hge : sel (wbit ws) (64 * ws.length) (((cnt (wbit ws) i : Nat) : Int) - 1) ≥ 0
  · rw [if_pos hge]
    obtain ⟨j, e1, e2, e3, e4, e5, e6⟩ := sel_ge hge
    have hj := o.lt_of e3
    have hs := o.small
    have hji : j < i := by
      apply Nat.lt_of_not_le
      intro hle
      have := cnt_le (wbit ws) hle
      omega
    have hc1 : cnt (wbit ws) (j + 1) = cnt (wbit ws) j + 1 := by rw [cnt_succ, e3]; rfl
    have hci := cnt_le_n (wbit ws) i
    rw [e1, if_neg (by omega), o.get, Option.bind_some, if_pos e3, i64_in (i := (j : Int) + 1) (by omega) (by omega)]
    have hc := o.count (j + 1) i hi k (by omega)
    rw [show (((j + 1 : Nat) : Nat) : Int) = (j : Int) + 1 from rfl] at hc
    rw [hc, Option.bind_some, if_pos (by omega)]
    have hd := o.count 0 j (by omega) k (by omega)
    rw [show ((0 : Nat) : Int) = 0 from rfl] at hd
    rw [hd, Option.bind_some, cnt_zero, Nat.sub_zero, i64_in (by omega) (by omega), e4, bne_self_eq_false]
    exact j4_is o a ha i k (by omega)
  · rw [if_neg hge]
    exact j4_is o a ha i k (by omega)
theorem j2_is (o : Of ws n N) (a : Int) (ha : a < 9223372036854775808) (i : Nat) (hi : i ≤ N) (k : Nat) (hk : ws.length + 50 < k) :
    quarrylaw04_BitmapRanks.j2 k (i : Int) a ((cnt (wbit ws) N : Nat) : Int) ((cnt (wbit ws) i : Nat) : Int) (sel (wbit ws) (64 * ws.length) ((cnt (wbit ws) i : Nat) : Int)) (sel (wbit ws) (64 * ws.length) (((cnt (wbit ws) i : Nat) : Int) - 1)) false n (ints ws) = some true := by
  obtain ⟨k, rfl⟩ : ∃ k', k = k' + 1 := ⟨k - 1, by omega⟩
  rw [quarrylaw04_BitmapRanks.j2]
  rw [if_neg (by decide)]
  by_cases hge : sel (wbit ws) (64 * ws.length) ((cnt (wbit ws) i : Nat) : Int) ≥ 0
  · rw [if_pos hge]
    obtain ⟨j, e1, e2, e3, e4, e5, e6⟩ := sel_ge hge
    have hj := o.lt_of e3
    have hc1 : cnt (wbit ws) (j + 1) = cnt (wbit ws) j + 1 := by rw [cnt_succ, e3]; rfl
    have hji : ¬ j < i := by
      intro hlt
      have := cnt_le (wbit ws) (show j + 1 ≤ i by omega)
      omega
    have h3 := j3_is o a ha i hi k (by omega)
    rw [e1] at h3
    rw [e1, if_neg (by omega), o.get, Option.bind_some, if_pos e3, o.count i j (by omega) k (by omega), Option.bind_some]
    have hz : cnt (wbit ws) j - cnt (wbit ws) i = 0 := by omega
    rw [hz]
    exact h3
  · rw [if_neg hge]
    exact j3_is o a ha i hi k (by omega)
theorem j1_is (o : Of ws n N) (a : Int) (ha : a < 9223372036854775808) (i : Nat) (hi : i ≤ N) (k : Nat) (hk : ws.length + 60 < k) :
    quarrylaw04_BitmapRanks.j1 k (i : Int) a ((cnt (wbit ws) N : Nat) : Int) n (ints ws) = some true := by
  obtain ⟨k, rfl⟩ : ∃ k', k = k' + 1 := ⟨k - 1, by omega⟩
  rw [quarrylaw04_BitmapRanks.j1]
  have hs := o.small
  have hci := cnt_le_n (wbit ws) i
  have hle := cnt_le (wbit ws) hi
  have hd := o.count 0 i hi k (by omega)
  rw [show ((0 : Nat) : Int) = 0 from rfl, cnt_zero, Nat.sub_zero] at hd
  have hh := o.count i N (Nat.le_refl _) k (by omega)
  rw [← o.is] at hh
  have hnn := cnt_le_n (wbit ws) N
  rw [hd, Option.bind_some, hh, Option.bind_some, next_is o.row o.lt o.formed o.is o.le o.off i hi k (by omega), Option.bind_some, last_is o.row o.lt o.formed o.is o.le i hi k (by omega), Option.bind_some]
  rw [i64_in (by omega) (by omega), if_pos (by omega), if_neg (by omega), if_neg (by omega), o.select _ (by omega) k (by omega), Option.bind_some, if_pos rfl, i64_in (by omega) (by omega), o.select _ (by omega) k (by omega), Option.bind_some, if_pos rfl]
  have e1 : decide (sel (wbit ws) (64 * ws.length) ((cnt (wbit ws) i : Nat) : Int) < 0) = ((((cnt (wbit ws) N - cnt (wbit ws) i : Nat) : Int)) == 0) := by
    rw [Bool.eq_iff_iff, beq_iff_eq, decide_eq_true_eq]
    constructor
    · intro h
      have := (sel_lt h).2
      rw [o.full] at this
      omega
    · intro h
      rw [sel_none (.inr (by rw [o.full]; omega))]
      decide
  have e2 : decide (sel (wbit ws) (64 * ws.length) (((cnt (wbit ws) i : Nat) : Int) - 1) < 0) = ((((cnt (wbit ws) i : Nat) : Int)) == 0) := by
    rw [Bool.eq_iff_iff, beq_iff_eq, decide_eq_true_eq]
    constructor
    · intro h
      have := (sel_lt h).2
      rw [o.full] at this
      omega
    · intro h
      rw [sel_none (.inl (by omega))]
      decide
  rw [e1, bne_self_eq_false, if_neg (by decide), e2, bne_self_eq_false]
  exact j2_is o a ha i hi k (by omega)
end
theorem BitmapRanks : quarrylaw04_BitmapRanks.Pure := by
  intro n l i a hn hl hi ha
  obtain ⟨_, hl1, hl2⟩ := hl
  obtain ⟨ws, rfl, h⟩ := row_ex hl1 hl2
  have hn' := wf_i64 hn
  have ha' := wf_i64 ha
  refine ⟨ws.length + 200, ?_⟩
  unfold quarrylaw04_BitmapRanks.f
  rw [awake_is _ (by omega), Option.bind_some, if_pos rfl, formed_is n (by omega) ws h, Option.bind_some]
  cases hf : formedB n ws with
  | false =>
    rw [if_neg (by decide)]
    have c0 : ∀ k x y, bitmap_Count.f k n (ints ws) x y = some 0 := by
      intro k x y
      unfold bitmap_Count.f
      rw [formed_is n (by omega) ws h, Option.bind_some, hf, if_neg (by decide)]
    have s0 : ∀ x, bitmap_Select.f (ws.length + 200) n (ints ws) x = some (-1) := by
      intro x
      unfold bitmap_Select.f
      rw [formed_is n (by omega) ws h, Option.bind_some, hf, if_neg (by decide), bitmap_Select.j0, if_pos rfl]
    have n0 : ∀ x, bitmap_Next.f (ws.length + 200) n (ints ws) x = some (-1) := by
      intro x
      unfold bitmap_Next.f
      rw [formed_is n (by omega) ws h, Option.bind_some, hf, if_neg (by decide), bitmap_Next.j0, if_pos rfl]
    have l0 : ∀ x, bitmap_Last.f (ws.length + 200) n (ints ws) x = some (-1) := by
      intro x
      unfold bitmap_Last.f
      rw [formed_is n (by omega) ws h, Option.bind_some, hf, if_neg (by decide), bitmap_Last.j0, if_pos rfl]
    rw [c0, Option.bind_some, if_pos rfl, s0, Option.bind_some, if_pos rfl, n0, Option.bind_some, if_pos rfl, l0, Option.bind_some]
    rfl
  | true =>
    obtain ⟨N, e, g1, g2, g3⟩ := formed_gives h hf
    have o : Of ws n N := ⟨h, by omega, hf, e, g1, g3⟩
    have hs := o.small
    rw [if_pos rfl]
    have hc := o.count 0 N (Nat.le_refl _) (ws.length + 200) (by omega)
    rw [show ((0 : Nat) : Int) = 0 from rfl, cnt_zero, Nat.sub_zero, ← e] at hc
    rw [hc, Option.bind_some]
    have hin : ∀ b, quarrylaw04_BitmapRanks.j0 (ws.length + 200) i a ((cnt (wbit ws) N : Nat) : Int) b n (ints ws) = some true ∨ (b = false ∧ (i < 0 ∨ i > n)) := by
      intro b
      cases b with
      | true =>
        left
        rw [show ws.length + 200 = (ws.length + 199) + 1 from rfl, quarrylaw04_BitmapRanks.j0, if_pos rfl]
        obtain ⟨m, m1, m2, m3⟩ := pick_is i n (by omega) (by omega)
        rw [m1, Option.bind_some]
        obtain ⟨m, rfl⟩ := Int.eq_ofNat_of_zero_le m2
        exact j1_is o a (by omega) m (by omega) _ (by omega)
      | false =>
        by_cases hr : i < 0 ∨ i > n
        · exact .inr ⟨rfl, hr⟩
        · left
          rw [show ws.length + 200 = (ws.length + 199) + 1 from rfl, quarrylaw04_BitmapRanks.j0, if_neg (by decide)]
          obtain ⟨m, rfl⟩ := Int.eq_ofNat_of_zero_le (show 0 ≤ i by omega)
          exact j1_is o a (by omega) m (by omega) _ (by omega)
    by_cases h0 : i < 0
    · rw [if_pos h0]
      rcases hin true with hh | hh
      · exact hh
      · exact absurd hh.1 (by decide)
    · rw [if_neg h0]
      rcases hin (decide (i > n)) with hh | hh
      · exact hh
      · have := of_decide_eq_false hh.1
        omega
end Go.Proofs.YtahmpmlbonpabaaDoor.Pure
