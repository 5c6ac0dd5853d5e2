/- quarryref05.Begins tells what the bytes' machine tells: plain laws. -/
import Derived.Test.YthlneooboiphdaaPBeginsFx2
import Derived.Test.YthlneooboiphdaaUtf8B
set_option linter.unusedVariables false
set_option linter.unusedSimpArgs false
namespace Go.Proofs.Ythlneooboiphdaa
open Go.RowKit Go.Proofs.Ythlneooboiphdaa.PBeginsF Go.Proofs.YthlneooboiphdaaW.PrintWords
theorem w64_ {n : Int} (h0 : -9223372036854775808 ≤ n) (h1 : n < 9223372036854775808) : wrap64 n = n := by unfold wrap64; omega
theorem w32_ {n : Int} (h0 : -2147483648 ≤ n) (h1 : n < 2147483648) : wrap32 n = n := by unfold wrap32; omega
def szR (c : Int) : Int := if c < 0 then 0 else if c > 1114111 then 0 else if 55296 ≤ c ∧ c ≤ 57343 then 0 else if c < 128 then 1 else if c < 2048 then 2 else if c < 65536 then 3 else 4
theorem size_eval (k : Nat) (c : Int) : quarryref05_Size.f (k + 1) c = some (szR c) := by
  unfold quarryref05_Size.f szR
  by_cases h1 : c < 0
  · rw [if_pos h1, if_pos h1]; rfl
  · rw [if_neg h1, if_neg h1]
    by_cases h2 : c > 1114111
    · rw [if_pos h2, if_pos h2]; rfl
    · rw [if_neg h2, if_neg h2]
      by_cases h3 : c ≥ 55296
      · rw [if_pos h3]
        by_cases h4 : c ≤ 57343
        · rw [decide_eq_true h4, if_pos ⟨h3, h4⟩]; rfl
        · rw [decide_eq_false h4, if_neg (fun h => h4 h.2), quarryref05_Size.j0, if_neg (by decide)]
          repeat' split
          all_goals rfl
      · rw [if_neg h3, if_neg (fun h => h3 h.1), quarryref05_Size.j0, if_neg (by decide)]
        repeat' split
        all_goals rfl
/-- The loop meets one. -/
theorem bl_hit : ∀ (n k : Nat) (b : List Int) (size high c c0 : Int), 0 ≤ c → c ≤ c0 → c0 ≤ high → high < 2147483647 → c0 - c ≤ n → 0 < size → (∀ c', c ≤ c' → c' < c0 → szR c' ≠ size) → szR c0 = size →
    quarryref05_Begins.l0 (k + n + 2) b size high c = some (true, c0, ((b.length : Int) == size)) := by
  intro n
  induction n with
  | zero =>
    intro k b size high c c0 h0 h1 h2 h3 h4 hs hm he
    obtain rfl : c = c0 := by omega
    rw [show k + 0 + 2 = (k + 1) + 1 from rfl, quarryref05_Begins.l0, if_pos h2, w32_ (by omega) (by omega), size_eval]
    show (if szR c = size then _ else _) = _
    rw [if_pos he]
  | succ n ih =>
    intro k b size high c c0 h0 h1 h2 h3 h4 hs hm he
    by_cases hc : c = c0
    · subst hc
      rw [show k + (n + 1) + 2 = (k + n + 1 + 1) + 1 by omega, quarryref05_Begins.l0, if_pos h2, w32_ (by omega) (by omega), size_eval]
      show (if szR c = size then _ else _) = _
      rw [if_pos he]
    · rw [show k + (n + 1) + 2 = (k + n + 1 + 1) + 1 by omega, quarryref05_Begins.l0, if_pos (by omega), w32_ (by omega) (by omega), size_eval]
      show (if szR c = size then _ else _) = _
      rw [if_neg (hm c (Int.le_refl _) (by omega))]
      by_cases hj : c = 55296
      · rw [if_pos hj]
        by_cases hh : high > 57343
        · rw [if_pos hh]
          have hc0 : 57344 ≤ c0 := by
            rcases Int.lt_or_le c0 57344 with h | h
            · have : szR c0 = 0 := by
                unfold szR
                rw [if_neg (by omega), if_neg (by omega), if_pos ⟨by omega, by omega⟩]
              omega
            · exact h
          exact ih k b size high (57343 + 1) c0 (by omega) (by omega) h2 h3 (by omega) hs (fun c' a b => hm c' (by omega) b) he
        · rw [if_neg hh, w64_ (by omega) (by omega)]
          exact ih k b size high (c + 1) c0 (by omega) (by omega) h2 h3 (by omega) hs (fun c' a b => hm c' (by omega) b) he
      · rw [if_neg hj, w64_ (by omega) (by omega)]
        exact ih k b size high (c + 1) c0 (by omega) (by omega) h2 h3 (by omega) hs (fun c' a b => hm c' (by omega) b) he
/-- The loop meets none. -/
theorem bl_miss : ∀ (n k : Nat) (b : List Int) (size high c : Int), 0 ≤ c → high < 2147483647 → high - c < n → (∀ c', c ≤ c' → c' ≤ high → szR c' ≠ size) →
    quarryref05_Begins.l0 (k + n + 2) b size high c = some (false, 0, false) := by
  intro n
  induction n with
  | zero =>
    intro k b size high c h0 h1 h2 hm
    rw [show k + 0 + 2 = (k + 1) + 1 from rfl, quarryref05_Begins.l0, if_neg (by omega)]
  | succ n ih =>
    intro k b size high c h0 h1 h2 hm
    rw [show k + (n + 1) + 2 = (k + n + 1 + 1) + 1 by omega, quarryref05_Begins.l0]
    by_cases hc : c ≤ high
    · rw [if_pos hc, w32_ (by omega) (by omega), size_eval]
      show (if szR c = size then _ else _) = _
      rw [if_neg (hm c (Int.le_refl _) hc)]
      by_cases hj : c = 55296
      · rw [if_pos hj]
        by_cases hh : high > 57343
        · rw [if_pos hh]
          exact ih k b size high (57343 + 1) (by omega) h1 (by omega) (fun c' a b => hm c' (by omega) b)
        · rw [if_neg hh, w64_ (by omega) (by omega)]
          exact ih k b size high (c + 1) (by omega) h1 (by omega) (fun c' a b => hm c' (by omega) b)
      · rw [if_neg hj, w64_ (by omega) (by omega)]
        exact ih k b size high (c + 1) (by omega) h1 (by omega) (fun c' a b => hm c' (by omega) b)
    · rw [if_neg hc]
/-! What the bytes span. -/
theorem l1_0 (k : Nat) (size low high i : Int) (h : i = size) : quarryref05_span.l1 (k + 1) size low high i = some (size, low, high) := by
  rw [quarryref05_span.l1, if_neg (by omega)]
theorem l1_1 (k : Nat) (size low high i : Int) (h : i + 1 = size) (h0 : 0 ≤ low) (h1 : low ≤ 100000000) (h2 : 0 ≤ high) (h3 : high ≤ 100000000) (hi : 0 ≤ i) (hs : size ≤ 4) : quarryref05_span.l1 (k + 2) size low high i = some (size, low * 64, high * 64 + 63) := by
  rw [quarryref05_span.l1, if_pos (by omega), w64_ (n := low * 64) (by omega) (by omega), w64_ (n := high * 64) (by omega) (by omega), w64_ (n := high * 64 + 63) (by omega) (by omega), w64_ (n := i + 1) (by omega) (by omega)]
  exact l1_0 k size _ _ _ h
theorem l1_2 (k : Nat) (size low high i : Int) (h : i + 2 = size) (h0 : 0 ≤ low) (h1 : low ≤ 1000000) (h2 : 0 ≤ high) (h3 : high ≤ 1000000) (hi : 0 ≤ i) (hs : size ≤ 4) : quarryref05_span.l1 (k + 3) size low high i = some (size, low * 4096, high * 4096 + 4095) := by
  rw [quarryref05_span.l1, if_pos (by omega), w64_ (n := low * 64) (by omega) (by omega), w64_ (n := high * 64) (by omega) (by omega), w64_ (n := high * 64 + 63) (by omega) (by omega), w64_ (n := i + 1) (by omega) (by omega)]
  rw [l1_1 k size _ _ _ (by omega) (by omega) (by omega) (by omega) (by omega) (by omega) hs]
  congr 2
  refine Prod.ext ?_ ?_ <;> simp only <;> omega
theorem l1_3 (k : Nat) (size low high i : Int) (h : i + 3 = size) (h0 : 0 ≤ low) (h1 : low ≤ 10000) (h2 : 0 ≤ high) (h3 : high ≤ 10000) (hi : 0 ≤ i) (hs : size ≤ 4) : quarryref05_span.l1 (k + 4) size low high i = some (size, low * 262144, high * 262144 + 262143) := by
  rw [quarryref05_span.l1, if_pos (by omega), w64_ (n := low * 64) (by omega) (by omega), w64_ (n := high * 64) (by omega) (by omega), w64_ (n := high * 64 + 63) (by omega) (by omega), w64_ (n := i + 1) (by omega) (by omega)]
  rw [l1_2 k size _ _ _ (by omega) (by omega) (by omega) (by omega) (by omega) (by omega) hs]
  congr 2
  refine Prod.ext ?_ ?_ <;> simp only <;> omega
theorem rd_head (x : Int) (r : List Int) : rd (x :: r) 0 = x := rfl
/-- The first byte's size and bits. -/
theorem span_head (k : Nat) (x : Int) (r : List Int) (h0 : 0 ≤ x) (h1 : x ≤ 255) (size low : Int)
    (hs : (x < 128 ∧ size = 1 ∧ low = x) ∨ (192 ≤ x ∧ x < 224 ∧ size = 2 ∧ low = x - 192) ∨ (224 ≤ x ∧ x < 240 ∧ size = 3 ∧ low = x - 224) ∨ (240 ≤ x ∧ x < 248 ∧ size = 4 ∧ low = x - 240)) :
    quarryref05_span.f (k + 7) (x :: r) = quarryref05_span.l0 k (x :: r) size low 1 := by
  unfold quarryref05_span.f
  rw [if_pos (by simp <;> omega), rd_head, w64_ (n := x) (by omega) (by omega)]
  rcases hs with ⟨a, rfl, rfl⟩ | ⟨a, b, rfl, rfl⟩ | ⟨a, b, rfl, rfl⟩ | ⟨a, b, rfl, rfl⟩
  · rw [if_pos a]
    simp only [quarryref05_span.j0, quarryref05_span.j1, quarryref05_span.j2, quarryref05_span.j3, quarryref05_span.j4, quarryref05_span.j5, quarryref05_span.j6]
    rw [if_neg (by omega), if_neg (by decide), if_neg (by omega), if_neg (by decide), if_neg (by omega), if_neg (by decide), if_neg (by decide)]
  · rw [if_neg (by omega)]
    simp only [quarryref05_span.j0, quarryref05_span.j1, quarryref05_span.j2, quarryref05_span.j3, quarryref05_span.j4, quarryref05_span.j5, quarryref05_span.j6]
    rw [if_pos (by omega), decide_eq_true b, if_pos rfl, if_neg (by omega), if_neg (by decide), if_neg (by omega), if_neg (by decide), if_neg (by decide), w64_ (n := x - 192) (by omega) (by omega)]
  · rw [if_neg (by omega)]
    simp only [quarryref05_span.j0, quarryref05_span.j1, quarryref05_span.j2, quarryref05_span.j3, quarryref05_span.j4, quarryref05_span.j5, quarryref05_span.j6]
    rw [if_pos (by omega), decide_eq_false (by omega), if_neg (by decide), if_pos (by omega), decide_eq_true b, if_pos rfl, if_neg (by omega), if_neg (by decide), if_neg (by decide), w64_ (n := x - 224) (by omega) (by omega)]
  · rw [if_neg (by omega)]
    simp only [quarryref05_span.j0, quarryref05_span.j1, quarryref05_span.j2, quarryref05_span.j3, quarryref05_span.j4, quarryref05_span.j5, quarryref05_span.j6]
    rw [if_pos (by omega), decide_eq_false (by omega), if_neg (by decide), if_pos (by omega), decide_eq_false (by omega), if_neg (by decide), if_pos (by omega), decide_eq_true b, if_pos rfl, if_neg (by decide), w64_ (n := x - 240) (by omega) (by omega)]
theorem span_none (k : Nat) (x : Int) (r : List Int) (h0 : 0 ≤ x) (h1 : x ≤ 255) (h : (128 ≤ x ∧ x < 192) ∨ 248 ≤ x) : quarryref05_span.f (k + 7) (x :: r) = some (0, 1, 0) := by
  unfold quarryref05_span.f
  rw [if_pos (by simp <;> omega), rd_head, w64_ (n := x) (by omega) (by omega), if_neg (by omega)]
  simp only [quarryref05_span.j0, quarryref05_span.j1, quarryref05_span.j2, quarryref05_span.j3, quarryref05_span.j4, quarryref05_span.j5, quarryref05_span.j6]
  rcases h with h | h
  · rw [if_neg (by omega), if_neg (by decide), if_neg (by omega), if_neg (by decide), if_neg (by omega), if_neg (by decide), if_pos trivial]
  · rw [if_pos (by omega), decide_eq_false (by omega), if_neg (by decide), if_pos (by omega), decide_eq_false (by omega), if_neg (by decide), if_pos (by omega), decide_eq_false (by omega), if_neg (by decide), if_pos trivial]
/-- A byte behind. -/
theorem l0_next (k : Nat) (b : List Int) (size low i y : Int) (hi : 0 ≤ i) (hl : i < (b.length : Int)) (hs : i < size) (hs4 : size ≤ 4) (hy : rd b i = y) (h0 : 128 ≤ y) (h1 : y < 192) (hlow : 0 ≤ low) (hlow2 : low ≤ 10000000) :
    quarryref05_span.l0 (k + 1) b size low i = quarryref05_span.l0 k b size (low * 64 + y - 128) (i + 1) := by
  rw [quarryref05_span.l0, if_pos hl, if_pos hi, if_neg (by omega), hy, w64_ (n := y) (by omega) (by omega), if_neg (by omega), if_neg (by omega), w64_ (n := low * 64) (by omega) (by omega), w64_ (n := low * 64 + y) (by omega) (by omega), w64_ (n := low * 64 + y - 128) (by omega) (by omega), w64_ (n := i + 1) (by omega) (by omega)]
theorem l0_bad (k : Nat) (b : List Int) (size low i y : Int) (hi : 0 ≤ i) (hl : i < (b.length : Int)) (hy : rd b i = y) (hy0 : 0 ≤ y) (hy1 : y ≤ 255) (h : y < 128 ∨ 192 ≤ y) :
    quarryref05_span.l0 (k + 1) b size low i = some (0, 1, 0) := by
  rw [quarryref05_span.l0, if_pos hl, if_pos hi, hy, w64_ (n := y) (by omega) (by omega)]
  by_cases h1 : i ≥ size
  · rw [if_pos h1]
  · rw [if_neg h1]
    by_cases h2 : y < 128
    · rw [if_pos h2]
    · rw [if_neg h2, if_pos (by omega)]
theorem l0_end (k : Nat) (b : List Int) (size low i : Int) (hl : i = (b.length : Int)) : quarryref05_span.l0 (k + 1) b size low i = quarryref05_span.l1 k size low low i := by
  rw [quarryref05_span.l0, if_neg (by omega), ← hl]
/-- From the span on. -/
theorem begins_hit {n k : Nat} {b : List Int} {size low high : Int} (c0 : Int) (hs : quarryref05_span.f (k + n + 2) b = some (size, low, high)) (h0 : 0 ≤ low) (h1 : low ≤ c0) (h2 : c0 ≤ high) (h3 : high < 2147483647) (h4 : c0 - low ≤ n) (h5 : 0 < size)
    (hm : ∀ c', low ≤ c' → c' < c0 → szR c' ≠ size) (he : szR c0 = size) : ∃ k r, quarryref05_Begins.f k b = some (true, r, ((b.length : Int) == size)) := by
  refine ⟨k + n + 2, c0, ?_⟩
  unfold quarryref05_Begins.f
  rw [hs]
  exact bl_hit n k b size high low c0 h0 h1 h2 h3 h4 h5 hm he
theorem begins_miss {n k : Nat} {b : List Int} {size low high : Int} (hs : quarryref05_span.f (k + n + 2) b = some (size, low, high)) (h0 : 0 ≤ low) (h3 : high < 2147483647) (h4 : high - low < n)
    (hm : ∀ c', low ≤ c' → c' ≤ high → szR c' ≠ size) : ∃ k r, quarryref05_Begins.f k b = some (false, r, false) := by
  refine ⟨k + n + 2, 0, ?_⟩
  unfold quarryref05_Begins.f
  rw [hs]
  exact bl_miss n k b size high low h0 h3 h4 hm
theorem begins_none {k : Nat} {b : List Int} (hs : quarryref05_span.f (k + 2) b = some (0, 1, 0)) : ∃ k r, quarryref05_Begins.f k b = some (false, r, false) :=
  begins_miss (n := 0) (k := k) hs (by decide) (by decide) (by decide) (fun c' a b => by omega)
theorem szR_is (c s : Int) (h : (s = 1 ∧ 0 ≤ c ∧ c < 128) ∨ (s = 2 ∧ 128 ≤ c ∧ c < 2048) ∨ (s = 3 ∧ 2048 ≤ c ∧ c < 65536 ∧ ¬ (55296 ≤ c ∧ c ≤ 57343)) ∨ (s = 4 ∧ 65536 ≤ c ∧ c ≤ 1114111)) : szR c = s := by
  unfold szR
  repeat' split
  all_goals omega
theorem szR_ne (c s : Int) (hs : 0 < s) (h : ¬ ((s = 1 ∧ 0 ≤ c ∧ c < 128) ∨ (s = 2 ∧ 128 ≤ c ∧ c < 2048) ∨ (s = 3 ∧ 2048 ≤ c ∧ c < 65536 ∧ ¬ (55296 ≤ c ∧ c ≤ 57343)) ∨ (s = 4 ∧ 65536 ≤ c ∧ c ≤ 1114111))) : szR c ≠ s := by
  unfold szR
  repeat' split
  all_goals omega
/-! The spans of rows of one to four bytes. -/
theorem span1 (k : Nat) (x size low : Int) (h0 : 0 ≤ x) (h1 : x ≤ 255) (hs : (x < 128 ∧ size = 1 ∧ low = x) ∨ (192 ≤ x ∧ x < 224 ∧ size = 2 ∧ low = x - 192) ∨ (224 ≤ x ∧ x < 240 ∧ size = 3 ∧ low = x - 224) ∨ (240 ≤ x ∧ x < 248 ∧ size = 4 ∧ low = x - 240)) :
    quarryref05_span.f (k + 5 + 7) [x] = quarryref05_span.l1 (k + 4) size low low 1 := by
  rw [span_head _ x [] h0 h1 size low hs, l0_end _ _ _ _ _ (by simp)]
theorem span2 (k : Nat) (x y size low : Int) (h0 : 0 ≤ x) (h1 : x ≤ 255) (hs : (192 ≤ x ∧ x < 224 ∧ size = 2 ∧ low = x - 192) ∨ (224 ≤ x ∧ x < 240 ∧ size = 3 ∧ low = x - 224) ∨ (240 ≤ x ∧ x < 248 ∧ size = 4 ∧ low = x - 240)) (hy0 : 128 ≤ y) (hy1 : y < 192) :
    quarryref05_span.f (k + 6 + 7) [x, y] = quarryref05_span.l1 (k + 4) size (low * 64 + y - 128) (low * 64 + y - 128) 2 := by
  rw [span_head _ x [y] h0 h1 size low (.inr hs), l0_next (k + 5) _ _ _ 1 y (by omega) (by simp) (by omega) (by omega) rfl hy0 hy1 (by omega) (by omega), l0_end _ _ _ _ _ (by simp)]
  rfl
theorem span3 (k : Nat) (x y z size low : Int) (h0 : 0 ≤ x) (h1 : x ≤ 255) (hs : (224 ≤ x ∧ x < 240 ∧ size = 3 ∧ low = x - 224) ∨ (240 ≤ x ∧ x < 248 ∧ size = 4 ∧ low = x - 240)) (hy0 : 128 ≤ y) (hy1 : y < 192) (hz0 : 128 ≤ z) (hz1 : z < 192) :
    quarryref05_span.f (k + 7 + 7) [x, y, z] = quarryref05_span.l1 (k + 4) size ((low * 64 + y - 128) * 64 + z - 128) ((low * 64 + y - 128) * 64 + z - 128) 3 := by
  rw [span_head _ x [y, z] h0 h1 size low (.inr (.inr hs)), l0_next (k + 6) _ _ _ 1 y (by omega) (by simp) (by omega) (by omega) rfl hy0 hy1 (by omega) (by omega), l0_next (k + 5) _ _ _ (1 + 1) z (by omega) (by simp) (by omega) (by omega) rfl hz0 hz1 (by omega) (by omega), l0_end _ _ _ _ _ (by simp)]
  rfl
theorem span4 (k : Nat) (x y z v : Int) (h0 : 240 ≤ x) (h1 : x < 248) (hy0 : 128 ≤ y) (hy1 : y < 192) (hz0 : 128 ≤ z) (hz1 : z < 192) (hv0 : 128 ≤ v) (hv1 : v < 192) :
    quarryref05_span.f (k + 8 + 7) [x, y, z, v] = quarryref05_span.l1 (k + 4) 4 ((((x - 240) * 64 + y - 128) * 64 + z - 128) * 64 + v - 128) ((((x - 240) * 64 + y - 128) * 64 + z - 128) * 64 + v - 128) 4 := by
  rw [span_head _ x [y, z, v] (by omega) (by omega) 4 (x - 240) (.inr (.inr (.inr ⟨h0, h1, rfl, rfl⟩))), l0_next (k + 7) _ _ _ 1 y (by omega) (by simp) (by omega) (by omega) rfl hy0 hy1 (by omega) (by omega), l0_next (k + 6) _ _ _ (1 + 1) z (by omega) (by simp) (by omega) (by omega) rfl hz0 hz1 (by omega) (by omega),
    l0_next (k + 5) _ _ _ (1 + 1 + 1) v (by omega) (by simp) (by omega) (by omega) rfl hv0 hv1 (by omega) (by omega), l0_end _ _ _ _ _ (by simp)]
  rfl
/-! What may stand first. -/
theorem u8first_some {x w lo hi : Int} (h : u8first x = some (w, lo, hi)) : (x < 128 ∧ w = 0) ∨ (194 ≤ x ∧ x < 224 ∧ w = 1 ∧ lo = 128 ∧ hi = 191) ∨ (x = 224 ∧ w = 2 ∧ lo = 160 ∧ hi = 191) ∨ (225 ≤ x ∧ x < 240 ∧ x ≠ 237 ∧ w = 2 ∧ lo = 128 ∧ hi = 191) ∨ (x = 237 ∧ w = 2 ∧ lo = 128 ∧ hi = 159) ∨
    (x = 240 ∧ w = 3 ∧ lo = 144 ∧ hi = 191) ∨ (241 ≤ x ∧ x < 244 ∧ w = 3 ∧ lo = 128 ∧ hi = 191) ∨ (x = 244 ∧ w = 3 ∧ lo = 128 ∧ hi = 143) := by
  unfold u8first at h
  by_cases h1 : x < 128
  · rw [if_pos h1] at h
    injection h with h
    injection h with h2 h3
    exact .inl ⟨h1, h2.symm⟩
  · rw [if_neg h1] at h
    by_cases h2 : x < 194 ∨ 244 < x
    · rw [if_pos h2] at h
      cases h
    · rw [if_neg h2] at h
      injection h with h
      injection h with hw h
      injection h with hl hh
      subst hw
      subst hl
      subst hh
      repeat' split
      all_goals omega
theorem u8first_none {x : Int} (h : u8first x = none) : (128 ≤ x ∧ x < 194) ∨ 244 < x := by
  unfold u8first at h
  by_cases h1 : x < 128
  · rw [if_pos h1] at h
    cases h
  · rw [if_neg h1] at h
    by_cases h2 : x < 194 ∨ 244 < x
    · omega
    · rw [if_neg h2] at h
      cases h
theorem begins1_none {x : Int} (h0 : 0 ≤ x) (h1 : x ≤ 255) (h : u8first x = none) : ∃ k r, quarryref05_Begins.f k [x] = some (false, r, false) := by
  rcases u8first_none h with h | h
  · by_cases h2 : x < 192
    · exact begins_none (k := 5) (span_none 0 x [] h0 h1 (.inl ⟨h.1, h2⟩))
    · refine begins_miss (n := 64) (k := 10) (low := (x - 192) * 64) (high := (x - 192) * 64 + 63) (size := 2) ?_ (by omega) (by omega) (by omega) (fun c' a b => szR_ne _ _ (by decide) (by omega))
      rw [show 10 + 64 + 2 = 64 + 5 + 7 from rfl, span1 64 x 2 (x - 192) h0 h1 (.inr (.inl ⟨by omega, by omega, rfl, rfl⟩)), l1_1 _ _ _ _ _ (by decide) (by omega) (by omega) (by omega) (by omega) (by decide) (by decide)]
  · by_cases h2 : x < 248
    · refine begins_miss (n := 262144) (k := 14) (low := (x - 240) * 262144) (high := (x - 240) * 262144 + 262143) (size := 4) ?_ (by omega) (by omega) (by omega) (fun c' a b => szR_ne _ _ (by decide) (by omega))
      rw [show 14 + 262144 + 2 = 262148 + 5 + 7 from rfl, span1 262148 x 4 (x - 240) h0 h1 (.inr (.inr (.inr ⟨by omega, by omega, rfl, rfl⟩))), l1_3 _ _ _ _ _ (by decide) (by omega) (by omega) (by omega) (by omega) (by decide) (by decide)]
    · exact begins_none (k := 5) (span_none 0 x [] h0 h1 (.inr (by omega)))
theorem begins1_some {x w lo hi : Int} (h0 : 0 ≤ x) (h1 : x ≤ 255) (h : u8first x = some (w, lo, hi)) : ∃ k r, quarryref05_Begins.f k [x] = some (true, r, decide (w = 0)) := by
  have key : ∀ (n : Nat) (size low high c0 : Int), (∀ k, quarryref05_span.f (k + n + 14) [x] = some (size, low, high)) → 0 ≤ low → low ≤ c0 → c0 ≤ high → high < 2147483647 → c0 - low ≤ n → 0 < size → (∀ c', low ≤ c' → c' < c0 → szR c' ≠ size) → szR c0 = size → (w = 0 ↔ size = 1) → ∃ k r, quarryref05_Begins.f k [x] = some (true, r, decide (w = 0)) := by
    intro n size low high c0 hs a1 a2 a3 a4 a5 a6 a7 a8 hw
    obtain ⟨k, r, hk⟩ := begins_hit (n := n) (k := 12) c0 (by rw [show 12 + n + 2 = 0 + n + 14 by omega]; exact hs 0) a1 a2 a3 a4 a5 a6 a7 a8
    refine ⟨k, r, hk.trans ?_⟩
    congr 3
    rw [Bool.eq_iff_iff, decide_eq_true_iff, hw]
    simp
    exact eq_comm
  rcases u8first_some h with ⟨a, b⟩ | ⟨a, b, c, _, _⟩ | ⟨a, c, _, _⟩ | ⟨a, b, _, c, _, _⟩ | ⟨a, c, _, _⟩ | ⟨a, c, _, _⟩ | ⟨a, b, c, _, _⟩ | ⟨a, c, _, _⟩
  · exact key 0 1 x x x (fun k => by rw [show k + 0 + 14 = (k + 2) + 5 + 7 by omega, span1 _ x 1 x h0 h1 (.inl ⟨a, rfl, rfl⟩), l1_0 _ _ _ _ _ rfl]) h0 (by omega) (by omega) (by omega) (by omega) (by decide) (fun c' p q => by omega) (szR_is _ _ (by omega)) (by omega)
  · exact key 0 2 ((x - 192) * 64) ((x - 192) * 64 + 63) ((x - 192) * 64) (fun k => by rw [show k + 0 + 14 = (k + 2) + 5 + 7 by omega, span1 _ x 2 (x - 192) h0 h1 (.inr (.inl ⟨by omega, by omega, rfl, rfl⟩)), l1_1 _ _ _ _ _ (by decide) (by omega) (by omega) (by omega) (by omega) (by decide) (by decide)]) (by omega) (by omega) (by omega) (by omega) (by omega) (by decide) (fun c' p q => by omega) (szR_is _ _ (by omega)) (by omega)
  · subst a
    exact key 2048 3 0 4095 2048 (fun k => by rw [show k + 2048 + 14 = (k + 2050) + 5 + 7 by omega, span1 _ 224 3 0 h0 h1 (.inr (.inr (.inl ⟨by omega, by omega, rfl, rfl⟩))), l1_2 _ _ _ _ _ (by decide) (by omega) (by omega) (by omega) (by omega) (by decide) (by decide)]; rfl) (by omega) (by omega) (by omega) (by omega) (by omega) (by decide) (fun c' p q => szR_ne _ _ (by decide) (by omega)) (szR_is _ _ (by omega)) (by omega)
  · exact key 0 3 ((x - 224) * 4096) ((x - 224) * 4096 + 4095) ((x - 224) * 4096) (fun k => by rw [show k + 0 + 14 = (k + 2) + 5 + 7 by omega, span1 _ x 3 (x - 224) h0 h1 (.inr (.inr (.inl ⟨by omega, by omega, rfl, rfl⟩))), l1_2 _ _ _ _ _ (by decide) (by omega) (by omega) (by omega) (by omega) (by decide) (by decide)]) (by omega) (by omega) (by omega) (by omega) (by omega) (by decide) (fun c' p q => by omega) (szR_is _ _ (by omega)) (by omega)
  · subst a
    exact key 0 3 53248 57343 53248 (fun k => by rw [show k + 0 + 14 = (k + 2) + 5 + 7 by omega, span1 _ 237 3 13 h0 h1 (.inr (.inr (.inl ⟨by omega, by omega, rfl, rfl⟩))), l1_2 _ _ _ _ _ (by decide) (by omega) (by omega) (by omega) (by omega) (by decide) (by decide)]; rfl) (by omega) (by omega) (by omega) (by omega) (by omega) (by decide) (fun c' p q => by omega) (szR_is _ _ (by omega)) (by omega)
  · subst a
    exact key 65536 4 0 262143 65536 (fun k => by rw [show k + 65536 + 14 = (k + 65538) + 5 + 7 by omega, span1 _ 240 4 0 h0 h1 (.inr (.inr (.inr ⟨by omega, by omega, rfl, rfl⟩))), l1_3 _ _ _ _ _ (by decide) (by omega) (by omega) (by omega) (by omega) (by decide) (by decide)]; rfl) (by omega) (by omega) (by omega) (by omega) (by omega) (by decide) (fun c' p q => szR_ne _ _ (by decide) (by omega)) (szR_is _ _ (by omega)) (by omega)
  · exact key 0 4 ((x - 240) * 262144) ((x - 240) * 262144 + 262143) ((x - 240) * 262144) (fun k => by rw [show k + 0 + 14 = (k + 2) + 5 + 7 by omega, span1 _ x 4 (x - 240) h0 h1 (.inr (.inr (.inr ⟨by omega, by omega, rfl, rfl⟩))), l1_3 _ _ _ _ _ (by decide) (by omega) (by omega) (by omega) (by omega) (by decide) (by decide)]) (by omega) (by omega) (by omega) (by omega) (by omega) (by decide) (fun c' p q => by omega) (szR_is _ _ (by omega)) (by omega)
  · subst a
    exact key 0 4 1048576 1310719 1048576 (fun k => by rw [show k + 0 + 14 = (k + 2) + 5 + 7 by omega, span1 _ 244 4 4 h0 h1 (.inr (.inr (.inr ⟨by omega, by omega, rfl, rfl⟩))), l1_3 _ _ _ _ _ (by decide) (by omega) (by omega) (by omega) (by omega) (by decide) (by decide)]; rfl) (by omega) (by omega) (by omega) (by omega) (by omega) (by decide) (fun c' p q => by omega) (szR_is _ _ (by omega)) (by omega)
theorem eqb_ {a b : Int} {p : Prop} [Decidable p] (h : p ↔ a = b) : (a == b) = decide p := by
  rw [Bool.eq_iff_iff, decide_eq_true_iff, h]
  simp
/-- A second byte. -/
theorem begins2 {x y w lo hi : Int} (hy0 : 0 ≤ y) (hy1 : y ≤ 255) (h : u8first x = some (w, lo, hi)) (hw : 0 < w) :
    if y < lo ∨ hi < y then ∃ k r, quarryref05_Begins.f k [x, y] = some (false, r, false) else ∃ k r, quarryref05_Begins.f k [x, y] = some (true, r, decide (w - 1 = 0)) := by
  have hit : ∀ (size low high : Int), (∀ k, quarryref05_span.f (k + 13) [x, y] = some (size, low, high)) → 0 ≤ low → low ≤ high → high < 2147483647 → 0 < size → szR low = size → (w = 1 ↔ size = 2) → ∃ k r, quarryref05_Begins.f k [x, y] = some (true, r, decide (w - 1 = 0)) := by
    intro size low high hs a1 a2 a3 a4 a5 a6
    obtain ⟨k, r, hk⟩ := begins_hit (n := 0) (k := 11) low (hs 0) a1 (Int.le_refl _) a2 a3 (by omega) a4 (fun c' p q => by omega) a5
    refine ⟨k, r, hk.trans ?_⟩
    rw [eqb_ (p := w - 1 = 0) (by simp only [List.length_cons, List.length_nil]; omega)]
  have miss : ∀ (n : Nat) (size low high : Int), (∀ k, quarryref05_span.f (k + 13) [x, y] = some (size, low, high)) → 0 ≤ low → high < 2147483647 → high - low < n → (∀ c', low ≤ c' → c' ≤ high → szR c' ≠ size) → ∃ k r, quarryref05_Begins.f k [x, y] = some (false, r, false) := by
    intro n size low high hs a1 a3 a4 a5
    exact begins_miss (n := n) (k := 11) (by rw [show 11 + n + 2 = n + 13 by omega]; exact hs n) a1 a3 a4 a5
  by_cases hr : 128 ≤ y ∧ y < 192
  · obtain ⟨r0, r1⟩ := hr
    rcases u8first_some h with ⟨a, b⟩ | ⟨a, b, c, rfl, rfl⟩ | ⟨a, c, rfl, rfl⟩ | ⟨a, b, a', c, rfl, rfl⟩ | ⟨a, c, rfl, rfl⟩ | ⟨a, c, rfl, rfl⟩ | ⟨a, b, c, rfl, rfl⟩ | ⟨a, c, rfl, rfl⟩
    · omega
    · rw [if_neg (by omega)]
      exact hit 2 ((x - 192) * 64 + y - 128) ((x - 192) * 64 + y - 128) (fun k => by rw [span2 k x y 2 (x - 192) (by omega) (by omega) (.inl ⟨by omega, by omega, rfl, rfl⟩) r0 r1, l1_0 _ _ _ _ _ rfl]) (by omega) (by omega) (by omega) (by decide) (szR_is _ _ (by omega)) (by omega)
    · subst a
      have hs : ∀ k, quarryref05_span.f (k + 13) [224, y] = some (3, (y - 128) * 64, (y - 128) * 64 + 63) := fun k => by rw [span2 k 224 y 3 0 (by omega) (by omega) (.inr (.inl ⟨by omega, by omega, rfl, rfl⟩)) r0 r1, l1_1 _ _ _ _ _ (by decide) (by omega) (by omega) (by omega) (by omega) (by decide) (by decide)]; congr 2; refine Prod.ext ?_ ?_ <;> simp only <;> omega
      by_cases hy : y < 160
      · rw [if_pos (.inl hy)]
        exact miss 64 3 _ _ hs (by omega) (by omega) (by omega) (fun c' p q => szR_ne _ _ (by decide) (by omega))
      · rw [if_neg (by omega)]
        exact hit 3 _ _ hs (by omega) (by omega) (by omega) (by decide) (szR_is _ _ (by omega)) (by omega)
    · rw [if_neg (by omega)]
      exact hit 3 (((x - 224) * 64 + y - 128) * 64) (((x - 224) * 64 + y - 128) * 64 + 63) (fun k => by rw [span2 k x y 3 (x - 224) (by omega) (by omega) (.inr (.inl ⟨by omega, by omega, rfl, rfl⟩)) r0 r1, l1_1 _ _ _ _ _ (by decide) (by omega) (by omega) (by omega) (by omega) (by decide) (by decide)]) (by omega) (by omega) (by omega) (by decide) (szR_is _ _ (by omega)) (by omega)
    · subst a
      have hs : ∀ k, quarryref05_span.f (k + 13) [237, y] = some (3, 53248 + (y - 128) * 64, 53248 + (y - 128) * 64 + 63) := fun k => by rw [span2 k 237 y 3 13 (by omega) (by omega) (.inr (.inl ⟨by omega, by omega, rfl, rfl⟩)) r0 r1, l1_1 _ _ _ _ _ (by decide) (by omega) (by omega) (by omega) (by omega) (by decide) (by decide)]; congr 2; refine Prod.ext ?_ ?_ <;> simp only <;> omega
      by_cases hy : 159 < y
      · rw [if_pos (.inr hy)]
        exact miss 64 3 _ _ hs (by omega) (by omega) (by omega) (fun c' p q => szR_ne _ _ (by decide) (by omega))
      · rw [if_neg (by omega)]
        exact hit 3 _ _ hs (by omega) (by omega) (by omega) (by decide) (szR_is _ _ (by omega)) (by omega)
    · subst a
      have hs : ∀ k, quarryref05_span.f (k + 13) [240, y] = some (4, (y - 128) * 4096, (y - 128) * 4096 + 4095) := fun k => by rw [span2 k 240 y 4 0 (by omega) (by omega) (.inr (.inr ⟨by omega, by omega, rfl, rfl⟩)) r0 r1, l1_2 _ _ _ _ _ (by decide) (by omega) (by omega) (by omega) (by omega) (by decide) (by decide)]; congr 2; refine Prod.ext ?_ ?_ <;> simp only <;> omega
      by_cases hy : y < 144
      · rw [if_pos (.inl hy)]
        exact miss 4096 4 _ _ hs (by omega) (by omega) (by omega) (fun c' p q => szR_ne _ _ (by decide) (by omega))
      · rw [if_neg (by omega)]
        exact hit 4 _ _ hs (by omega) (by omega) (by omega) (by decide) (szR_is _ _ (by omega)) (by omega)
    · rw [if_neg (by omega)]
      exact hit 4 (((x - 240) * 64 + y - 128) * 4096) (((x - 240) * 64 + y - 128) * 4096 + 4095) (fun k => by rw [span2 k x y 4 (x - 240) (by omega) (by omega) (.inr (.inr ⟨by omega, by omega, rfl, rfl⟩)) r0 r1, l1_2 _ _ _ _ _ (by decide) (by omega) (by omega) (by omega) (by omega) (by decide) (by decide)]) (by omega) (by omega) (by omega) (by decide) (szR_is _ _ (by omega)) (by omega)
    · subst a
      have hs : ∀ k, quarryref05_span.f (k + 13) [244, y] = some (4, 1048576 + (y - 128) * 4096, 1048576 + (y - 128) * 4096 + 4095) := fun k => by rw [span2 k 244 y 4 4 (by omega) (by omega) (.inr (.inr ⟨by omega, by omega, rfl, rfl⟩)) r0 r1, l1_2 _ _ _ _ _ (by decide) (by omega) (by omega) (by omega) (by omega) (by decide) (by decide)]; congr 2; refine Prod.ext ?_ ?_ <;> simp only <;> omega
      by_cases hy : 143 < y
      · rw [if_pos (.inr hy)]
        exact miss 4096 4 _ _ hs (by omega) (by omega) (by omega) (fun c' p q => szR_ne _ _ (by decide) (by omega))
      · rw [if_neg (by omega)]
        exact hit 4 _ _ hs (by omega) (by omega) (by omega) (by decide) (szR_is _ _ (by omega)) (by omega)
  · have hb : ∃ k r, quarryref05_Begins.f k [x, y] = some (false, r, false) := by
      rcases u8first_some h with ⟨a, b⟩ | ⟨a, b, c, _, _⟩ | ⟨a, c, _, _⟩ | ⟨a, b, a', c, _, _⟩ | ⟨a, c, _, _⟩ | ⟨a, c, _, _⟩ | ⟨a, b, c, _, _⟩ | ⟨a, c, _, _⟩
      · omega
      · exact begins_none (k := 6) (by rw [span_head 1 x [y] (by omega) (by omega) 2 (x - 192) (.inr (.inl ⟨by omega, by omega, rfl, rfl⟩)), l0_bad 0 _ _ _ 1 y (by decide) (by simp) rfl hy0 hy1 (by omega)])
      · exact begins_none (k := 6) (by rw [span_head 1 x [y] (by omega) (by omega) 3 (x - 224) (.inr (.inr (.inl ⟨by omega, by omega, rfl, rfl⟩))), l0_bad 0 _ _ _ 1 y (by decide) (by simp) rfl hy0 hy1 (by omega)])
      · exact begins_none (k := 6) (by rw [span_head 1 x [y] (by omega) (by omega) 3 (x - 224) (.inr (.inr (.inl ⟨by omega, by omega, rfl, rfl⟩))), l0_bad 0 _ _ _ 1 y (by decide) (by simp) rfl hy0 hy1 (by omega)])
      · exact begins_none (k := 6) (by rw [span_head 1 x [y] (by omega) (by omega) 3 (x - 224) (.inr (.inr (.inl ⟨by omega, by omega, rfl, rfl⟩))), l0_bad 0 _ _ _ 1 y (by decide) (by simp) rfl hy0 hy1 (by omega)])
      · exact begins_none (k := 6) (by rw [span_head 1 x [y] (by omega) (by omega) 4 (x - 240) (.inr (.inr (.inr ⟨by omega, by omega, rfl, rfl⟩))), l0_bad 0 _ _ _ 1 y (by decide) (by simp) rfl hy0 hy1 (by omega)])
      · exact begins_none (k := 6) (by rw [span_head 1 x [y] (by omega) (by omega) 4 (x - 240) (.inr (.inr (.inr ⟨by omega, by omega, rfl, rfl⟩))), l0_bad 0 _ _ _ 1 y (by decide) (by simp) rfl hy0 hy1 (by omega)])
      · exact begins_none (k := 6) (by rw [span_head 1 x [y] (by omega) (by omega) 4 (x - 240) (.inr (.inr (.inr ⟨by omega, by omega, rfl, rfl⟩))), l0_bad 0 _ _ _ 1 y (by decide) (by simp) rfl hy0 hy1 (by omega)])
    rw [if_pos]
    · exact hb
    · rcases u8first_some h with ⟨a, b⟩ | ⟨a, b, c, _, _⟩ | ⟨a, c, _, _⟩ | ⟨a, b, a', c, _, _⟩ | ⟨a, c, _, _⟩ | ⟨a, c, _, _⟩ | ⟨a, b, c, _, _⟩ | ⟨a, c, _, _⟩ <;> omega
/-- A third byte. -/
theorem begins3 {x y z w lo hi : Int} (hz0 : 0 ≤ z) (hz1 : z ≤ 255) (h : u8first x = some (w, lo, hi)) (hw : 1 < w) (hy0 : lo ≤ y) (hy1 : y ≤ hi) :
    if z < 128 ∨ 191 < z then ∃ k r, quarryref05_Begins.f k [x, y, z] = some (false, r, false) else ∃ k r, quarryref05_Begins.f k [x, y, z] = some (true, r, decide (w - 2 = 0)) := by
  have hc : (224 ≤ x ∧ x < 240 ∧ w = 2 ∧ (x = 224 → 160 ≤ y) ∧ (x = 237 → y ≤ 159)) ∨ (240 ≤ x ∧ x ≤ 244 ∧ w = 3 ∧ (x = 240 → 144 ≤ y) ∧ (x = 244 → y ≤ 143)) := by
    rcases u8first_some h with ⟨a, b⟩ | ⟨a, b, c, _, _⟩ | ⟨a, c, _, _⟩ | ⟨a, b, a', c, _, _⟩ | ⟨a, c, _, _⟩ | ⟨a, c, _, _⟩ | ⟨a, b, c, _, _⟩ | ⟨a, c, _, _⟩ <;> omega
  have hy : 128 ≤ y ∧ y < 192 := by
    rcases u8first_some h with ⟨a, b⟩ | ⟨a, b, c, _, _⟩ | ⟨a, c, _, _⟩ | ⟨a, b, a', c, _, _⟩ | ⟨a, c, _, _⟩ | ⟨a, c, _, _⟩ | ⟨a, b, c, _, _⟩ | ⟨a, c, _, _⟩ <;> omega
  by_cases hr : 128 ≤ z ∧ z < 192
  · rw [if_neg (by omega)]
    rcases hc with ⟨a, b, c, d, e⟩ | ⟨a, b, c, d, e⟩
    · obtain ⟨k, r, hk⟩ := begins_hit (b := [x, y, z]) (n := 0) (k := 12) (size := 3) (low := ((x - 224) * 64 + y - 128) * 64 + z - 128) (high := ((x - 224) * 64 + y - 128) * 64 + z - 128) (((x - 224) * 64 + y - 128) * 64 + z - 128) (by rw [show 12 + 0 + 2 = 0 + 7 + 7 from rfl, span3 0 x y z 3 (x - 224) (by omega) (by omega) (.inl ⟨a, b, rfl, rfl⟩) hy.1 hy.2 hr.1 hr.2, l1_0 _ _ _ _ _ rfl]) (by omega) (by omega) (by omega) (by omega) (by omega) (by decide) (fun c' p q => by omega) (szR_is _ _ (by omega))
      exact ⟨k, r, hk.trans (by rw [eqb_ (p := w - 2 = 0) (by simp only [List.length_cons, List.length_nil]; omega)])⟩
    · obtain ⟨k, r, hk⟩ := begins_hit (b := [x, y, z]) (n := 0) (k := 12) (size := 4) (low := (((x - 240) * 64 + y - 128) * 64 + z - 128) * 64) (high := (((x - 240) * 64 + y - 128) * 64 + z - 128) * 64 + 63) ((((x - 240) * 64 + y - 128) * 64 + z - 128) * 64) (by rw [show 12 + 0 + 2 = 0 + 7 + 7 from rfl, span3 0 x y z 4 (x - 240) (by omega) (by omega) (.inr ⟨a, by omega, rfl, rfl⟩) hy.1 hy.2 hr.1 hr.2, l1_1 _ _ _ _ _ (by decide) (by omega) (by omega) (by omega) (by omega) (by decide) (by decide)]) (by omega) (by omega) (by omega) (by omega) (by omega) (by decide) (fun c' p q => by omega) (szR_is _ _ (by omega))
      exact ⟨k, r, hk.trans (by rw [eqb_ (p := w - 2 = 0) (by simp only [List.length_cons, List.length_nil]; omega)])⟩
  · rw [if_pos (by omega)]
    rcases hc with ⟨a, b, c, d, e⟩ | ⟨a, b, c, d, e⟩
    · exact begins_none (k := 7) (by rw [span_head 2 x [y, z] (by omega) (by omega) 3 (x - 224) (.inr (.inr (.inl ⟨a, b, rfl, rfl⟩))), l0_next 1 _ _ _ 1 y (by omega) (by simp) (by omega) (by omega) rfl hy.1 hy.2 (by omega) (by omega), l0_bad 0 _ _ _ (1 + 1) z (by decide) (by simp) rfl hz0 hz1 (by omega)])
    · exact begins_none (k := 7) (by rw [span_head 2 x [y, z] (by omega) (by omega) 4 (x - 240) (.inr (.inr (.inr ⟨a, by omega, rfl, rfl⟩))), l0_next 1 _ _ _ 1 y (by omega) (by simp) (by omega) (by omega) rfl hy.1 hy.2 (by omega) (by omega), l0_bad 0 _ _ _ (1 + 1) z (by decide) (by simp) rfl hz0 hz1 (by omega)])
/-- A fourth byte. -/
theorem begins4 {x y z v lo hi : Int} (hv0 : 0 ≤ v) (hv1 : v ≤ 255) (h : u8first x = some (3, lo, hi)) (hy0 : lo ≤ y) (hy1 : y ≤ hi) (hz0 : 128 ≤ z) (hz1 : z ≤ 191) :
    if v < 128 ∨ 191 < v then ∃ k r, quarryref05_Begins.f k [x, y, z, v] = some (false, r, false) else ∃ k r, quarryref05_Begins.f k [x, y, z, v] = some (true, r, true) := by
  have hc : 240 ≤ x ∧ x ≤ 244 ∧ (x = 240 → 144 ≤ y) ∧ (x = 244 → y ≤ 143) := by
    rcases u8first_some h with ⟨a, b⟩ | ⟨a, b, c, _, _⟩ | ⟨a, c, _, _⟩ | ⟨a, b, a', c, _, _⟩ | ⟨a, c, _, _⟩ | ⟨a, c, _, _⟩ | ⟨a, b, c, _, _⟩ | ⟨a, c, _, _⟩ <;> omega
  have hy : 128 ≤ y ∧ y < 192 := by
    rcases u8first_some h with ⟨a, b⟩ | ⟨a, b, c, _, _⟩ | ⟨a, c, _, _⟩ | ⟨a, b, a', c, _, _⟩ | ⟨a, c, _, _⟩ | ⟨a, c, _, _⟩ | ⟨a, b, c, _, _⟩ | ⟨a, c, _, _⟩ <;> omega
  by_cases hr : 128 ≤ v ∧ v < 192
  · rw [if_neg (by omega)]
    obtain ⟨k, r, hk⟩ := begins_hit (b := [x, y, z, v]) (n := 0) (k := 13) (size := 4) (low := (((x - 240) * 64 + y - 128) * 64 + z - 128) * 64 + v - 128) (high := (((x - 240) * 64 + y - 128) * 64 + z - 128) * 64 + v - 128) ((((x - 240) * 64 + y - 128) * 64 + z - 128) * 64 + v - 128) (by rw [show 13 + 0 + 2 = 0 + 8 + 7 from rfl, span4 0 x y z v hc.1 (by omega) hy.1 hy.2 hz0 (by omega) hr.1 hr.2, l1_0 _ _ _ _ _ rfl]) (by omega) (by omega) (by omega) (by omega) (by omega) (by decide) (fun c' p q => by omega) (szR_is _ _ (by omega))
    exact ⟨k, r, hk⟩
  · rw [if_pos (by omega)]
    exact begins_none (k := 8) (by rw [span_head 3 x [y, z, v] (by omega) (by omega) 4 (x - 240) (.inr (.inr (.inr ⟨hc.1, by omega, rfl, rfl⟩))), l0_next 2 _ _ _ 1 y (by omega) (by simp) (by omega) (by omega) rfl hy.1 hy.2 (by omega) (by omega), l0_next 1 _ _ _ (1 + 1) z (by omega) (by simp) (by omega) (by omega) rfl hz0 (by omega) (by omega) (by omega), l0_bad 0 _ _ _ (1 + 1 + 1) v (by decide) (by simp) rfl hv0 hv1 (by omega)])
/-- What has come of a character, and what the machine awaits. -/
def Mid (b : List Int) (want lo hi : Int) : Prop :=
  (b = [] ∧ want = 0) ∨ (∃ x, b = [x] ∧ u8first x = some (want, lo, hi) ∧ 0 < want) ∨ (∃ x y l u, b = [x, y] ∧ u8first x = some (want + 1, l, u) ∧ 0 < want ∧ l ≤ y ∧ y ≤ u ∧ lo = 128 ∧ hi = 191) ∨
    (∃ x y z l u, b = [x, y, z] ∧ u8first x = some (3, l, u) ∧ want = 1 ∧ l ≤ y ∧ y ≤ u ∧ 128 ≤ z ∧ z ≤ 191 ∧ lo = 128 ∧ hi = 191)
/-- One byte more. -/
theorem begins_step {b : List Int} {want lo hi y : Int} (hM : Mid b want lo hi) (h0 : 0 ≤ y) (h1 : y ≤ 255) :
    (u8step want lo hi y = none → ∃ k r, quarryref05_Begins.f k (b ++ [y]) = some (false, r, false)) ∧
    (∀ a l u, u8step want lo hi y = some (a, l, u) → (∃ k r, quarryref05_Begins.f k (b ++ [y]) = some (true, r, decide (a = 0))) ∧ (0 < a → Mid (b ++ [y]) a l u)) := by
  unfold u8step
  rcases hM with ⟨rfl, rfl⟩ | ⟨x, rfl, hx, hw⟩ | ⟨x, y1, l1, u1, rfl, hx, hw, hl, hu, rfl, rfl⟩ | ⟨x, y1, z1, l1, u1, rfl, hx, rfl, hl, hu, hz, hz2, rfl, rfl⟩
  · rw [if_pos rfl]
    exact ⟨fun h => begins1_none h0 h1 h, fun a l u h => ⟨begins1_some h0 h1 h, fun ha => .inr (.inl ⟨y, rfl, h, ha⟩)⟩⟩
  · rw [if_neg (by omega)]
    have h2 := begins2 h0 h1 hx hw
    by_cases hc : y < lo ∨ hi < y
    · rw [if_pos hc] at h2 ⊢
      exact ⟨fun _ => h2, fun a l u h => (by cases h)⟩
    · rw [if_neg hc] at h2 ⊢
      refine ⟨fun h => (by cases h), fun a l u h => ?_⟩
      injection h with h
      injection h with ha h
      injection h with hl hu
      subst ha
      subst hl
      subst hu
      exact ⟨h2, fun ha => .inr (.inr (.inl ⟨x, y, lo, hi, rfl, by rw [show want - 1 + 1 = want by omega]; exact hx, ha, by omega, by omega, rfl, rfl⟩))⟩
  · rw [if_neg (by omega)]
    have h2 := begins3 h0 h1 hx (by omega) hl hu
    by_cases hc : y < 128 ∨ 191 < y
    · rw [if_pos hc] at h2 ⊢
      exact ⟨fun _ => h2, fun a l u h => (by cases h)⟩
    · rw [if_neg hc] at h2 ⊢
      refine ⟨fun h => (by cases h), fun a l u h => ?_⟩
      injection h with h
      injection h with ha h
      injection h with hl2 hu2
      subst ha
      subst hl2
      subst hu2
      rw [show want + 1 - 2 = want - 1 by omega] at h2
      refine ⟨h2, fun ha => .inr (.inr (.inr ⟨x, y1, y, l1, u1, rfl, ?_, ?_, hl, hu, by omega, by omega, rfl, rfl⟩))⟩
      · have : want + 1 = 3 := by
          rcases u8first_some hx with ⟨a, b⟩ | ⟨a, b, c, _, _⟩ | ⟨a, c, _, _⟩ | ⟨a, b, a', c, _, _⟩ | ⟨a, c, _, _⟩ | ⟨a, c, _, _⟩ | ⟨a, b, c, _, _⟩ | ⟨a, c, _, _⟩ <;> omega
        rw [← this]
        exact hx
      · rcases u8first_some hx with ⟨a, b⟩ | ⟨a, b, c, _, _⟩ | ⟨a, c, _, _⟩ | ⟨a, b, a', c, _, _⟩ | ⟨a, c, _, _⟩ | ⟨a, c, _, _⟩ | ⟨a, b, c, _, _⟩ | ⟨a, c, _, _⟩ <;> omega
  · rw [if_neg (by decide)]
    have h2 := begins4 h0 h1 hx hl hu hz hz2
    by_cases hc : y < 128 ∨ 191 < y
    · rw [if_pos hc] at h2 ⊢
      exact ⟨fun _ => h2, fun a l u h => (by cases h)⟩
    · rw [if_neg hc] at h2 ⊢
      refine ⟨fun h => (by cases h), fun a l u h => ?_⟩
      injection h with h
      injection h with ha h
      subst ha
      exact ⟨h2, fun ha => absurd ha (by decide)⟩
theorem Mid.len {b : List Int} {want lo hi : Int} (h : Mid b want lo hi) : b.length ≤ 3 ∧ 0 ≤ want ∧ want ≤ 3 := by
  rcases h with ⟨rfl, rfl⟩ | ⟨x, rfl, hx, hw⟩ | ⟨x, y1, l1, u1, rfl, hx, hw, hl, hu, rfl, rfl⟩ | ⟨x, y1, z1, l1, u1, rfl, hx, rfl, hl, hu, hz, hz2, rfl, rfl⟩
  · exact ⟨by simp, by omega, by omega⟩
  · refine ⟨by simp, by omega, ?_⟩
    rcases u8first_some hx with ⟨a, b⟩ | ⟨a, b, c, _, _⟩ | ⟨a, c, _, _⟩ | ⟨a, b, a', c, _, _⟩ | ⟨a, c, _, _⟩ | ⟨a, c, _, _⟩ | ⟨a, b, c, _, _⟩ | ⟨a, c, _, _⟩ <;> omega
  · refine ⟨by simp, by omega, ?_⟩
    rcases u8first_some hx with ⟨a, b⟩ | ⟨a, b, c, _, _⟩ | ⟨a, c, _, _⟩ | ⟨a, b, a', c, _, _⟩ | ⟨a, c, _, _⟩ | ⟨a, c, _, _⟩ | ⟨a, b, c, _, _⟩ | ⟨a, c, _, _⟩ <;> omega
  · exact ⟨by simp, by omega, by omega⟩
end Go.Proofs.Ythlneooboiphdaa
