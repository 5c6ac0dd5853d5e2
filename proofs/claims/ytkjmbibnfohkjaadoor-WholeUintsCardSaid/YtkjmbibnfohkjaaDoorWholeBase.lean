import Derived.Lib.ItoaNum
import Derived.IntWalk
import Derived.RowKit
import Derived.Test.YtkjmbibnfohkjaaDoorDecMore
import Derived.Lib.IndexAny
import Derived.Lib.Strings
namespace Go.Proofs.YtkjmbibnfohkjaaDoor.Whole
/-- A digit's worth. -/
def dv (c : UInt8) : Int := (c.toNat : Int) - 48
def Dgs (l : List UInt8) : Prop := ∀ c ∈ l, 48 ≤ c.toNat ∧ c.toNat ≤ 57
/-- What a row of digits is worth, behind a number. -/
def worthFrom : List UInt8 → Int → Int
  | [], n => n
  | c :: l, n => worthFrom l (n * 10 + dv c)
def worth (l : List UInt8) : Int := worthFrom l 0
/-- As the program reads them: it gives up where the number leaves the type. -/
def putAll (lo hi : Int) (neg : Bool) : List UInt8 → Int → Option Int
  | [], n => some n
  | c :: l, n => if lo ≤ (if neg then n * 10 - dv c else n * 10 + dv c) ∧ (if neg then n * 10 - dv c else n * 10 + dv c) ≤ hi then putAll lo hi neg l (if neg then n * 10 - dv c else n * 10 + dv c) else none
theorem worthFrom_ge (l : List UInt8) (hl : Dgs l) : ∀ n, 0 ≤ n → n ≤ worthFrom l n := by
  induction l with
  | nil => intro n _; exact Int.le_refl _
  | cons c l ih =>
    intro n hn
    have hc := hl c (List.mem_cons_self ..)
    have hd : 0 ≤ dv c := by unfold dv; omega
    have := ih (fun x hx => hl x (List.mem_cons_of_mem _ hx)) (n * 10 + dv c) (by omega)
    rw [worthFrom]
    omega
def sgn (neg : Bool) (n : Int) : Int := if neg then -n else n
theorem putAll_is (lo hi : Int) (hlo : lo ≤ 0) (hhi : 0 ≤ hi) (neg : Bool) (l : List UInt8) (hl : Dgs l) : ∀ n, 0 ≤ n → lo ≤ sgn neg n → sgn neg n ≤ hi →
    putAll lo hi neg l (sgn neg n) = if lo ≤ sgn neg (worthFrom l n) ∧ sgn neg (worthFrom l n) ≤ hi then some (sgn neg (worthFrom l n)) else none := by
  induction l with
  | nil =>
    intro n h0 h1 h2
    rw [putAll, worthFrom, if_pos ⟨h1, h2⟩]
  | cons c l ih =>
    intro n h0 h1 h2
    have hc := hl c (List.mem_cons_self ..)
    have hd : 0 ≤ dv c := by unfold dv; omega
    have hl' : Dgs l := fun x hx => hl x (List.mem_cons_of_mem _ hx)
    have e : (if neg = true then sgn neg n * 10 - dv c else sgn neg n * 10 + dv c) = sgn neg (n * 10 + dv c) := by
      unfold sgn
      cases neg
      · rfl
      · simp only [if_true]; omega
    rw [putAll, e, worthFrom]
    have hge := worthFrom_ge l hl' (n * 10 + dv c) (by omega)
    by_cases h : lo ≤ sgn neg (n * 10 + dv c) ∧ sgn neg (n * 10 + dv c) ≤ hi
    · rw [if_pos h]
      exact ih hl' _ (by omega) h.1 h.2
    · rw [if_neg h, if_neg]
      intro h'
      apply h
      unfold sgn at *
      cases neg
      · simp only [Bool.false_eq_true, if_false] at *
        omega
      · simp only [if_true] at *
        omega
theorem worthFrom_snoc (l : List UInt8) (c : UInt8) : ∀ n, worthFrom (l ++ [c]) n = worthFrom l n * 10 + dv c := by
  induction l with
  | nil => intro n; rfl
  | cons d l ih => intro n; rw [List.cons_append, worthFrom, worthFrom, ih]
theorem worth_snoc (l : List UInt8) (c : UInt8) : worth (l ++ [c]) = worth l * 10 + dv c := worthFrom_snoc l c 0
theorem worth_nonneg (l : List UInt8) (hl : Dgs l) : 0 ≤ worth l := worthFrom_ge l hl 0 (Int.le_refl _)
theorem of_toNat (n : Nat) (h : n < 10) : (UInt8.ofNat (48 + n)).toNat = 48 + n := by
  have e : (UInt8.ofNat (48 + n)).toNat = (48 + n) % 256 := rfl
  rw [e]
  omega
theorem dv_of (n : Nat) (h : n < 10) : dv (UInt8.ofNat (48 + n)) = n := by
  unfold dv
  rw [of_toNat n h]
  omega
/-- The decimal text of a number is worth it. -/
theorem worth_dec : ∀ (n u : Nat), u ≤ n → worth (Lib.decDigits u) = (u : Int) := by
  intro n
  induction n with
  | zero =>
    intro u hu
    obtain rfl : u = 0 := by omega
    rw [Lib.decDigits, dif_pos (by decide)]
    decide
  | succ n ih =>
    intro u hu
    rw [Lib.decDigits]
    by_cases h : u < 10
    · rw [dif_pos h]
      show worthFrom [UInt8.ofNat (48 + u)] 0 = _
      rw [worthFrom, worthFrom, dv_of u h]
      omega
    · rw [dif_neg h, worth_snoc, ih (u / 10) (by omega), dv_of _ (by omega)]
      omega
theorem dec_dgs : ∀ (n u : Nat), u ≤ n → Dgs (Lib.decDigits u) ∧ Lib.decDigits u ≠ [] := by
  intro n
  induction n with
  | zero =>
    intro u hu
    obtain rfl : u = 0 := by omega
    rw [Lib.decDigits, dif_pos (by decide)]
    refine ⟨?_, by simp⟩
    intro c hc
    simp at hc
    subst hc
    decide
  | succ n ih =>
    intro u hu
    rw [Lib.decDigits]
    by_cases h : u < 10
    · rw [dif_pos h]
      refine ⟨?_, by simp⟩
      intro c hc
      rw [List.mem_singleton] at hc
      subst hc
      rw [of_toNat u h]
      omega
    · rw [dif_neg h]
      refine ⟨?_, by simp⟩
      intro c hc
      rcases List.mem_append.1 hc with h1 | h1
      · exact (ih (u / 10) (by omega)).1 c h1
      · rw [List.mem_singleton] at h1
        subst h1
        rw [of_toNat _ (by omega)]
        omega
/-- A row of digits without a nought ahead is the decimal text of its worth. -/
def Canon (l : List UInt8) : Prop := Dgs l ∧ l ≠ [] ∧ (l.head? = some 48 → l.length = 1)
theorem canon_dec : ∀ (k : Nat) (l : List UInt8), l.length = k → Canon l → Lib.decDigits (worth l).toNat = l := by
  intro k
  induction k with
  | zero =>
    intro l hk ⟨_, h, _⟩
    exact absurd (List.length_eq_zero_iff.1 hk) h
  | succ k ih =>
    intro l hk ⟨hd, hne, h0⟩
    obtain ⟨m, c, rfl⟩ : ∃ m c, l = m ++ [c] := ⟨l.dropLast, l.getLast hne, (List.dropLast_concat_getLast hne).symm⟩
    have hc := hd c (by simp)
    have hdc : dv c = ((c.toNat - 48 : Nat) : Int) := by unfold dv; omega
    have hcc : UInt8.ofNat (48 + (c.toNat - 48)) = c := by
      apply UInt8.toNat_inj.1
      rw [of_toNat _ (by omega)]
      omega
    rw [worth_snoc]
    cases hm : m with
    | nil =>
      show Lib.decDigits (0 * 10 + dv c).toNat = _
      rw [Lib.decDigits, dif_pos (by rw [hdc]; omega), hdc]
      rw [show ((0 : Int) * 10 + ((c.toNat - 48 : Nat) : Int)).toNat = c.toNat - 48 from by omega, hcc]
      rfl
    | cons a t =>
      have hma : Canon m := by
        refine ⟨fun x hx => hd x (List.mem_append_left _ hx), by rw [hm]; simp, ?_⟩
        intro h
        rw [hm] at h
        have := h0 (by rw [hm]; simpa using h)
        rw [hm] at this
        simp at this
      have hw := ih m (by simp at hk; exact hk) hma
      have hp : 1 ≤ worth m := by
        rw [hm]
        have ha := hd a (by rw [hm]; simp)
        have hne0 : a ≠ 48 := by
          intro e
          have := h0 (by rw [hm, e]; rfl)
          rw [hm] at this
          simp at this
        have ha' : a.toNat ≠ 48 := fun e => hne0 (UInt8.toNat_inj.1 e)
        have := worthFrom_ge t (fun x hx => hd x (by rw [hm]; simp [hx])) (0 * 10 + dv a) (by unfold dv; omega)
        show 1 ≤ worthFrom (a :: t) 0
        rw [worthFrom]
        unfold dv at *
        omega
      rw [← hm, Lib.decDigits, dif_neg (by rw [hdc]; omega)]
      rw [hdc, show (worth m * 10 + ((c.toNat - 48 : Nat) : Int)).toNat / 10 = (worth m).toNat from by omega, hw, show (worth m * 10 + ((c.toNat - 48 : Nat) : Int)).toNat % 10 = c.toNat - 48 from by omega, hcc]
end Go.Proofs.YtkjmbibnfohkjaaDoor.Whole

/- whole.put: what its arithmetic comes to, kind by kind. Plain Lean. Printed by genput.py. -/
namespace Go.Proofs.YtkjmbibnfohkjaaDoor.Whole
open Go.RowKit
theorem td (T : Int) : (0 ≤ T ∧ T.tdiv 10 = T / 10) ∨ (T < 0 ∧ T.tdiv 10 = -(-T / 10)) := by
  by_cases h : 0 ≤ T
  · exact .inl ⟨h, Int.tdiv_eq_ediv_of_nonneg h⟩
  · refine .inr ⟨by omega, ?_⟩
    have e : T = -(-T) := by omega
    rw [e, Int.neg_tdiv, Int.tdiv_eq_ediv_of_nonneg (by omega)]
    omega
/-- The digit's step: ten times as much, and a digit more, or less. -/
def stepD (neg : Bool) (n d : Int) : Int := if neg then n * 10 - d else n * 10 + d
/-- What put's arithmetic is to do, for numbers of a kind. -/
structure PutFacts (k : IntKind) (lo hi n d : Int) (neg : Bool) : Prop where
  fits : lo ≤ stepD neg n d → stepD neg n d ≤ hi → k.wrap (n * 10) = n * 10 ∧ k.wrap ((n * 10).tdiv 10) = n ∧ k.wrap (stepD neg n d) = stepD neg n d
  over : ¬ (lo ≤ stepD neg n d ∧ stepD neg n d ≤ hi) →
    k.wrap ((k.wrap (n * 10)).tdiv 10) ≠ n ∨ (k.wrap (n * 10) = n * 10 ∧ k.wrap ((n * 10).tdiv 10) = n ∧ (if neg then n * 10 < k.wrap (stepD neg n d) else k.wrap (stepD neg n d) < n * 10))
theorem spec_i8 (n : Int) : -128 ≤ IntKind.i8.wrap n ∧ IntKind.i8.wrap n ≤ 127 ∧ ∃ q, IntKind.i8.wrap n = n + 256 * q := by
  have h : IntKind.i8.wrap n = if 128 ≤ n % 256 then n % 256 - 256 else n % 256 := by
    simp [IntKind.wrap, IntKind.bits, IntKind.signed]
  rw [h]
  refine ⟨by omega, by omega, ?_⟩
  split
  · exact ⟨-(n / 256) - 1, by omega⟩
  · exact ⟨-(n / 256), by omega⟩
theorem facts_i8 (n d : Int) (neg : Bool) (h0 : -128 ≤ n) (h1 : n ≤ 127) (hd0 : 0 ≤ d) (hd1 : d ≤ 9) (hp : neg = false → 0 ≤ n) (hn : neg = true → n ≤ 0) : PutFacts .i8 (-128) 127 n d neg := by
  obtain ⟨a1, a2, q, a3⟩ := spec_i8 (n * 10)
  obtain ⟨b1, b2, q2, b3⟩ := spec_i8 ((n * 10).tdiv 10)
  obtain ⟨c1, c2, q3, c3⟩ := spec_i8 (stepD neg n d)
  obtain ⟨e1, e2, q4, e3⟩ := spec_i8 ((IntKind.i8.wrap (n * 10)).tdiv 10)
  have t1 := td (n * 10)
  have t2 := td (IntKind.i8.wrap (n * 10))
  constructor
  · intro g0 g1
    cases neg
    · have := hp rfl
      simp only [stepD, Bool.false_eq_true, if_false] at *
      refine ⟨by omega, by omega, by omega⟩
    · have := hn rfl
      simp only [stepD, if_true] at *
      refine ⟨by omega, by omega, by omega⟩
  · intro g
    by_cases h : IntKind.i8.wrap ((IntKind.i8.wrap (n * 10)).tdiv 10) = n
    · right
      cases neg
      · have := hp rfl
        simp only [stepD, Bool.false_eq_true, if_false] at *
        refine ⟨by omega, by omega, by omega⟩
      · have := hn rfl
        simp only [stepD, if_true] at *
        refine ⟨by omega, by omega, by omega⟩
    · exact .inl h
theorem spec_i16 (n : Int) : -32768 ≤ IntKind.i16.wrap n ∧ IntKind.i16.wrap n ≤ 32767 ∧ ∃ q, IntKind.i16.wrap n = n + 65536 * q := by
  have h : IntKind.i16.wrap n = if 32768 ≤ n % 65536 then n % 65536 - 65536 else n % 65536 := by
    simp [IntKind.wrap, IntKind.bits, IntKind.signed]
  rw [h]
  refine ⟨by omega, by omega, ?_⟩
  split
  · exact ⟨-(n / 65536) - 1, by omega⟩
  · exact ⟨-(n / 65536), by omega⟩
theorem facts_i16 (n d : Int) (neg : Bool) (h0 : -32768 ≤ n) (h1 : n ≤ 32767) (hd0 : 0 ≤ d) (hd1 : d ≤ 9) (hp : neg = false → 0 ≤ n) (hn : neg = true → n ≤ 0) : PutFacts .i16 (-32768) 32767 n d neg := by
  obtain ⟨a1, a2, q, a3⟩ := spec_i16 (n * 10)
  obtain ⟨b1, b2, q2, b3⟩ := spec_i16 ((n * 10).tdiv 10)
  obtain ⟨c1, c2, q3, c3⟩ := spec_i16 (stepD neg n d)
  obtain ⟨e1, e2, q4, e3⟩ := spec_i16 ((IntKind.i16.wrap (n * 10)).tdiv 10)
  have t1 := td (n * 10)
  have t2 := td (IntKind.i16.wrap (n * 10))
  constructor
  · intro g0 g1
    cases neg
    · have := hp rfl
      simp only [stepD, Bool.false_eq_true, if_false] at *
      refine ⟨by omega, by omega, by omega⟩
    · have := hn rfl
      simp only [stepD, if_true] at *
      refine ⟨by omega, by omega, by omega⟩
  · intro g
    by_cases h : IntKind.i16.wrap ((IntKind.i16.wrap (n * 10)).tdiv 10) = n
    · right
      cases neg
      · have := hp rfl
        simp only [stepD, Bool.false_eq_true, if_false] at *
        refine ⟨by omega, by omega, by omega⟩
      · have := hn rfl
        simp only [stepD, if_true] at *
        refine ⟨by omega, by omega, by omega⟩
    · exact .inl h
theorem spec_i32 (n : Int) : -2147483648 ≤ IntKind.i32.wrap n ∧ IntKind.i32.wrap n ≤ 2147483647 ∧ ∃ q, IntKind.i32.wrap n = n + 4294967296 * q := by
  have h : IntKind.i32.wrap n = if 2147483648 ≤ n % 4294967296 then n % 4294967296 - 4294967296 else n % 4294967296 := by
    simp [IntKind.wrap, IntKind.bits, IntKind.signed]
  rw [h]
  refine ⟨by omega, by omega, ?_⟩
  split
  · exact ⟨-(n / 4294967296) - 1, by omega⟩
  · exact ⟨-(n / 4294967296), by omega⟩
theorem facts_i32 (n d : Int) (neg : Bool) (h0 : -2147483648 ≤ n) (h1 : n ≤ 2147483647) (hd0 : 0 ≤ d) (hd1 : d ≤ 9) (hp : neg = false → 0 ≤ n) (hn : neg = true → n ≤ 0) : PutFacts .i32 (-2147483648) 2147483647 n d neg := by
  obtain ⟨a1, a2, q, a3⟩ := spec_i32 (n * 10)
  obtain ⟨b1, b2, q2, b3⟩ := spec_i32 ((n * 10).tdiv 10)
  obtain ⟨c1, c2, q3, c3⟩ := spec_i32 (stepD neg n d)
  obtain ⟨e1, e2, q4, e3⟩ := spec_i32 ((IntKind.i32.wrap (n * 10)).tdiv 10)
  have t1 := td (n * 10)
  have t2 := td (IntKind.i32.wrap (n * 10))
  constructor
  · intro g0 g1
    cases neg
    · have := hp rfl
      simp only [stepD, Bool.false_eq_true, if_false] at *
      refine ⟨by omega, by omega, by omega⟩
    · have := hn rfl
      simp only [stepD, if_true] at *
      refine ⟨by omega, by omega, by omega⟩
  · intro g
    by_cases h : IntKind.i32.wrap ((IntKind.i32.wrap (n * 10)).tdiv 10) = n
    · right
      cases neg
      · have := hp rfl
        simp only [stepD, Bool.false_eq_true, if_false] at *
        refine ⟨by omega, by omega, by omega⟩
      · have := hn rfl
        simp only [stepD, if_true] at *
        refine ⟨by omega, by omega, by omega⟩
    · exact .inl h
theorem spec_i64 (n : Int) : -9223372036854775808 ≤ IntKind.i64.wrap n ∧ IntKind.i64.wrap n ≤ 9223372036854775807 ∧ ∃ q, IntKind.i64.wrap n = n + 18446744073709551616 * q := by
  have h : IntKind.i64.wrap n = if 9223372036854775808 ≤ n % 18446744073709551616 then n % 18446744073709551616 - 18446744073709551616 else n % 18446744073709551616 := by
    simp [IntKind.wrap, IntKind.bits, IntKind.signed]
  rw [h]
  refine ⟨by omega, by omega, ?_⟩
  split
  · exact ⟨-(n / 18446744073709551616) - 1, by omega⟩
  · exact ⟨-(n / 18446744073709551616), by omega⟩
theorem facts_i64 (n d : Int) (neg : Bool) (h0 : -9223372036854775808 ≤ n) (h1 : n ≤ 9223372036854775807) (hd0 : 0 ≤ d) (hd1 : d ≤ 9) (hp : neg = false → 0 ≤ n) (hn : neg = true → n ≤ 0) : PutFacts .i64 (-9223372036854775808) 9223372036854775807 n d neg := by
  obtain ⟨a1, a2, q, a3⟩ := spec_i64 (n * 10)
  obtain ⟨b1, b2, q2, b3⟩ := spec_i64 ((n * 10).tdiv 10)
  obtain ⟨c1, c2, q3, c3⟩ := spec_i64 (stepD neg n d)
  obtain ⟨e1, e2, q4, e3⟩ := spec_i64 ((IntKind.i64.wrap (n * 10)).tdiv 10)
  have t1 := td (n * 10)
  have t2 := td (IntKind.i64.wrap (n * 10))
  constructor
  · intro g0 g1
    cases neg
    · have := hp rfl
      simp only [stepD, Bool.false_eq_true, if_false] at *
      refine ⟨by omega, by omega, by omega⟩
    · have := hn rfl
      simp only [stepD, if_true] at *
      refine ⟨by omega, by omega, by omega⟩
  · intro g
    by_cases h : IntKind.i64.wrap ((IntKind.i64.wrap (n * 10)).tdiv 10) = n
    · right
      cases neg
      · have := hp rfl
        simp only [stepD, Bool.false_eq_true, if_false] at *
        refine ⟨by omega, by omega, by omega⟩
      · have := hn rfl
        simp only [stepD, if_true] at *
        refine ⟨by omega, by omega, by omega⟩
    · exact .inl h
theorem spec_u8 (n : Int) : 0 ≤ IntKind.u8.wrap n ∧ IntKind.u8.wrap n ≤ 255 ∧ ∃ q, IntKind.u8.wrap n = n + 256 * q := by
  have h : IntKind.u8.wrap n = n % 256 := by
    simp [IntKind.wrap, IntKind.bits, IntKind.signed]
  rw [h]
  refine ⟨by omega, by omega, ?_⟩
  exact ⟨-(n / 256), by omega⟩
theorem facts_u8 (n d : Int) (neg : Bool) (h0 : 0 ≤ n) (h1 : n ≤ 255) (hd0 : 0 ≤ d) (hd1 : d ≤ 9) (hp : neg = false → 0 ≤ n) (hn : neg = true → n ≤ 0) : PutFacts .u8 (0) 255 n d neg := by
  obtain ⟨a1, a2, q, a3⟩ := spec_u8 (n * 10)
  obtain ⟨b1, b2, q2, b3⟩ := spec_u8 ((n * 10).tdiv 10)
  obtain ⟨c1, c2, q3, c3⟩ := spec_u8 (stepD neg n d)
  obtain ⟨e1, e2, q4, e3⟩ := spec_u8 ((IntKind.u8.wrap (n * 10)).tdiv 10)
  have t1 := td (n * 10)
  have t2 := td (IntKind.u8.wrap (n * 10))
  constructor
  · intro g0 g1
    cases neg
    · have := hp rfl
      simp only [stepD, Bool.false_eq_true, if_false] at *
      refine ⟨by omega, by omega, by omega⟩
    · have := hn rfl
      simp only [stepD, if_true] at *
      refine ⟨by omega, by omega, by omega⟩
  · intro g
    by_cases h : IntKind.u8.wrap ((IntKind.u8.wrap (n * 10)).tdiv 10) = n
    · right
      cases neg
      · have := hp rfl
        simp only [stepD, Bool.false_eq_true, if_false] at *
        refine ⟨by omega, by omega, by omega⟩
      · have := hn rfl
        simp only [stepD, if_true] at *
        refine ⟨by omega, by omega, by omega⟩
    · exact .inl h
theorem spec_u16 (n : Int) : 0 ≤ IntKind.u16.wrap n ∧ IntKind.u16.wrap n ≤ 65535 ∧ ∃ q, IntKind.u16.wrap n = n + 65536 * q := by
  have h : IntKind.u16.wrap n = n % 65536 := by
    simp [IntKind.wrap, IntKind.bits, IntKind.signed]
  rw [h]
  refine ⟨by omega, by omega, ?_⟩
  exact ⟨-(n / 65536), by omega⟩
theorem facts_u16 (n d : Int) (neg : Bool) (h0 : 0 ≤ n) (h1 : n ≤ 65535) (hd0 : 0 ≤ d) (hd1 : d ≤ 9) (hp : neg = false → 0 ≤ n) (hn : neg = true → n ≤ 0) : PutFacts .u16 (0) 65535 n d neg := by
  obtain ⟨a1, a2, q, a3⟩ := spec_u16 (n * 10)
  obtain ⟨b1, b2, q2, b3⟩ := spec_u16 ((n * 10).tdiv 10)
  obtain ⟨c1, c2, q3, c3⟩ := spec_u16 (stepD neg n d)
  obtain ⟨e1, e2, q4, e3⟩ := spec_u16 ((IntKind.u16.wrap (n * 10)).tdiv 10)
  have t1 := td (n * 10)
  have t2 := td (IntKind.u16.wrap (n * 10))
  constructor
  · intro g0 g1
    cases neg
    · have := hp rfl
      simp only [stepD, Bool.false_eq_true, if_false] at *
      refine ⟨by omega, by omega, by omega⟩
    · have := hn rfl
      simp only [stepD, if_true] at *
      refine ⟨by omega, by omega, by omega⟩
  · intro g
    by_cases h : IntKind.u16.wrap ((IntKind.u16.wrap (n * 10)).tdiv 10) = n
    · right
      cases neg
      · have := hp rfl
        simp only [stepD, Bool.false_eq_true, if_false] at *
        refine ⟨by omega, by omega, by omega⟩
      · have := hn rfl
        simp only [stepD, if_true] at *
        refine ⟨by omega, by omega, by omega⟩
    · exact .inl h
theorem spec_u32 (n : Int) : 0 ≤ IntKind.u32.wrap n ∧ IntKind.u32.wrap n ≤ 4294967295 ∧ ∃ q, IntKind.u32.wrap n = n + 4294967296 * q := by
  have h : IntKind.u32.wrap n = n % 4294967296 := by
    simp [IntKind.wrap, IntKind.bits, IntKind.signed]
  rw [h]
  refine ⟨by omega, by omega, ?_⟩
  exact ⟨-(n / 4294967296), by omega⟩
theorem facts_u32 (n d : Int) (neg : Bool) (h0 : 0 ≤ n) (h1 : n ≤ 4294967295) (hd0 : 0 ≤ d) (hd1 : d ≤ 9) (hp : neg = false → 0 ≤ n) (hn : neg = true → n ≤ 0) : PutFacts .u32 (0) 4294967295 n d neg := by
  obtain ⟨a1, a2, q, a3⟩ := spec_u32 (n * 10)
  obtain ⟨b1, b2, q2, b3⟩ := spec_u32 ((n * 10).tdiv 10)
  obtain ⟨c1, c2, q3, c3⟩ := spec_u32 (stepD neg n d)
  obtain ⟨e1, e2, q4, e3⟩ := spec_u32 ((IntKind.u32.wrap (n * 10)).tdiv 10)
  have t1 := td (n * 10)
  have t2 := td (IntKind.u32.wrap (n * 10))
  constructor
  · intro g0 g1
    cases neg
    · have := hp rfl
      simp only [stepD, Bool.false_eq_true, if_false] at *
      refine ⟨by omega, by omega, by omega⟩
    · have := hn rfl
      simp only [stepD, if_true] at *
      refine ⟨by omega, by omega, by omega⟩
  · intro g
    by_cases h : IntKind.u32.wrap ((IntKind.u32.wrap (n * 10)).tdiv 10) = n
    · right
      cases neg
      · have := hp rfl
        simp only [stepD, Bool.false_eq_true, if_false] at *
        refine ⟨by omega, by omega, by omega⟩
      · have := hn rfl
        simp only [stepD, if_true] at *
        refine ⟨by omega, by omega, by omega⟩
    · exact .inl h
theorem spec_u64 (n : Int) : 0 ≤ IntKind.u64.wrap n ∧ IntKind.u64.wrap n ≤ 18446744073709551615 ∧ ∃ q, IntKind.u64.wrap n = n + 18446744073709551616 * q := by
  have h : IntKind.u64.wrap n = n % 18446744073709551616 := by
    simp [IntKind.wrap, IntKind.bits, IntKind.signed]
  rw [h]
  refine ⟨by omega, by omega, ?_⟩
  exact ⟨-(n / 18446744073709551616), by omega⟩
theorem facts_u64 (n d : Int) (neg : Bool) (h0 : 0 ≤ n) (h1 : n ≤ 18446744073709551615) (hd0 : 0 ≤ d) (hd1 : d ≤ 9) (hp : neg = false → 0 ≤ n) (hn : neg = true → n ≤ 0) : PutFacts .u64 (0) 18446744073709551615 n d neg := by
  obtain ⟨a1, a2, q, a3⟩ := spec_u64 (n * 10)
  obtain ⟨b1, b2, q2, b3⟩ := spec_u64 ((n * 10).tdiv 10)
  obtain ⟨c1, c2, q3, c3⟩ := spec_u64 (stepD neg n d)
  obtain ⟨e1, e2, q4, e3⟩ := spec_u64 ((IntKind.u64.wrap (n * 10)).tdiv 10)
  have t1 := td (n * 10)
  have t2 := td (IntKind.u64.wrap (n * 10))
  constructor
  · intro g0 g1
    cases neg
    · have := hp rfl
      simp only [stepD, Bool.false_eq_true, if_false] at *
      refine ⟨by omega, by omega, by omega⟩
    · have := hn rfl
      simp only [stepD, if_true] at *
      refine ⟨by omega, by omega, by omega⟩
  · intro g
    by_cases h : IntKind.u64.wrap ((IntKind.u64.wrap (n * 10)).tdiv 10) = n
    · right
      cases neg
      · have := hp rfl
        simp only [stepD, Bool.false_eq_true, if_false] at *
        refine ⟨by omega, by omega, by omega⟩
      · have := hn rfl
        simp only [stepD, if_true] at *
        refine ⟨by omega, by omega, by omega⟩
    · exact .inl h
end Go.Proofs.YtkjmbibnfohkjaaDoor.Whole

/- What a text is that decimal.Of takes: its bytes are plain; without a point and an exponent it is a row of digits, behind a minus or not, without a nought ahead. Plain Lean. -/
namespace Go.Proofs.YtkjmbibnfohkjaaDoor.Whole
open Go.RowKit Go.Proofs.YtkjmbibnfohkjaaDoorW.PrintWords Go.Proofs.YtkjmbibnfohkjaaDoorW.PrintLast Go.Proofs.YtkjmbibnfohkjaaDoorW.PrintMore Go.Proofs.YtkjmbibnfohkjaaDoor.Dec Go.Proofs.YtkjmbibnfohkjaaDoor.Reader
/-- What Of tells. -/
def ofR (r : Bool × ByteArray × Int × Int × Int) (n : Nat) : Bool × ByteArray × Int × Int :=
  if r.2.2.2.2 = 110 then (false, ⟨#[]⟩, 0, 110) else if r.2.2.2.1 < (n : Int) then (false, ⟨#[]⟩, 0, 110) else (r.1, r.2.1, r.2.2.1, r.2.2.2.2)
theorem isAt_yes {s : ByteArray} {i : Nat} {x y : Int} (h : isAt s i x y = true) : i < s.size ∧ (bt s (i : Int) = x ∨ bt s (i : Int) = y) := by
  unfold isAt at h
  simp at h
  exact h
def Low (s : ByteArray) (a b : Nat) : Prop := ∀ j, a ≤ j → j < b → bt s (j : Int) ≤ 101
theorem Low.join {s : ByteArray} {a b c : Nat} (h1 : Low s a b) (h2 : Low s b c) : Low s a c := fun j hj1 hj2 => by
  by_cases h : j < b
  · exact h1 j hj1 h
  · exact h2 j (by omega) hj2
theorem Low.one {s : ByteArray} {a : Nat} (h : bt s (a : Int) ≤ 101) : Low s a (a + 1) := fun j h1 h2 => by
  obtain rfl : j = a := by omega
  exact h
theorem Low.digs (s : ByteArray) (i : Nat) : Low s i (dEnd s i) := fun j h1 h2 => by
  have := dg_dig (dEnd_dg h1 h2)
  omega
theorem Low.dig {s : ByteArray} {i : Nat} (h : dg s i = true) : Low s i (i + 1) := Low.one (by have := dg_dig h; omega)
theorem expo_low (s : ByteArray) (wb ba bb : Nat) (hok : (expo s wb ba bb).ok = true) : Low s bb (expo s wb ba bb).fin ∧ (isAt s bb 101 69 = false → (expo s wb ba bb).fin = bb) := by
  unfold expo at hok ⊢
  by_cases he : isAt s bb 101 69 = true
  · rw [if_pos he] at hok ⊢
    refine ⟨?_, fun h => by rw [h] at he; cases he⟩
    have h0 : Low s bb (bb + 1) := Low.one (by rcases (isAt_yes he).2 with h | h <;> omega)
    simp only at hok ⊢
    by_cases ht : isAt s (bb + 1) 43 45 = true
    · have h1 : Low s (bb + 1) (bb + 2) := Low.one (by rcases (isAt_yes ht).2 with h | h <;> omega)
      rw [if_pos ht] at hok ⊢
      by_cases hd : dg s (bb + 2) = true
      · rw [if_pos hd]
        have := Low.digs s (bb + 2 + 1)
        exact (h0.join h1).join ((Low.dig hd).join this)
      · rw [if_neg hd] at hok
        cases hok
    · rw [if_neg ht] at hok ⊢
      by_cases hd : dg s (bb + 1) = true
      · rw [if_pos hd]
        exact h0.join ((Low.dig hd).join (Low.digs s (bb + 1 + 1)))
      · rw [if_neg hd] at hok
        cases hok
  · rw [if_neg he]
    exact ⟨fun j h1 h2 => by simp only at h2; omega, fun _ => rfl⟩
theorem point_low (s : ByteArray) (wb : Nat) (hok : (point s wb).ok = true) : Low s wb (point s wb).fin ∧ (isAt s wb 46 46 = false → isAt s wb 101 69 = false → (point s wb).fin = wb) := by
  unfold point at hok ⊢
  by_cases he : isAt s wb 46 46 = true
  · rw [if_pos he] at hok ⊢
    refine ⟨?_, fun h => by rw [h] at he; cases he⟩
    have h0 : Low s wb (wb + 1) := Low.one (by rcases (isAt_yes he).2 with h | h <;> omega)
    by_cases hd : dg s (wb + 1) = true
    · rw [if_pos hd] at hok ⊢
      have h1 := (expo_low s wb (wb + 1) (dEnd s (wb + 2)) hok).1
      exact (h0.join (Low.dig hd)).join ((Low.digs s (wb + 2)).join h1)
    · rw [if_neg hd] at hok
      cases hok
  · rw [if_neg he] at hok ⊢
    have h1 := expo_low s wb wb wb hok
    exact ⟨h1.1, fun _ h => h1.2 h⟩
/-- The end of the whole digits. -/
def wholeEnd (s : ByteArray) (a : Nat) : Nat := if bt s (a : Int) = 48 then a + 1 else dEnd s (a + 1)
theorem parts_low (s : ByteArray) (a : Nat) (hok : (partsOf s a).ok = true) : Low s a (partsOf s a).fin ∧ dg s a = true ∧
    (isAt s (wholeEnd s a) 46 46 = false → isAt s (wholeEnd s a) 101 69 = false → (partsOf s a).fin = wholeEnd s a) := by
  unfold partsOf at hok ⊢
  unfold wholeEnd
  by_cases hd : dg s a = true
  · rw [if_pos hd] at hok ⊢
    by_cases h48 : bt s (a : Int) = 48
    · rw [if_pos h48] at hok ⊢
      have h := point_low s (a + 1) hok
      exact ⟨(Low.dig hd).join h.1, hd, by rw [if_pos h48]; exact h.2⟩
    · rw [if_neg h48] at hok ⊢
      have h := point_low s _ hok
      refine ⟨(Low.dig hd).join ((Low.digs s (a + 1)).join h.1), hd, ?_⟩
      rw [if_neg h48]
      exact h.2
  · rw [if_neg hd] at hok
    cases hok
/-- A taken text: its number's parts are right, and it ends where the number does. -/
theorem taken (s : ByteArray) (h : (ofR (readOf s 0) s.size).2.2.2 ≠ 110) : (partsOf s (startOf s 0)).ok = true ∧ s.size ≤ (partsOf s (startOf s 0)).fin := by
  unfold ofR at h
  by_cases h1 : (readOf s 0).2.2.2.2 = 110
  · rw [if_pos h1] at h
    exact absurd rfl h
  · rw [if_neg h1] at h
    by_cases h2 : (readOf s 0).2.2.2.1 < (s.size : Int)
    · rw [if_pos h2] at h
      exact absurd rfl h
    · rcases readOf_cases s 0 (Nat.zero_le _) with ⟨h3, _⟩ | ⟨h3, h4⟩ | ⟨n, l, d, e, h3, _, _, h4⟩
      · rw [h3] at h1
        exact absurd rfl h1
      · refine ⟨h4, ?_⟩
        rw [h3] at h2
        simp only at h2
        omega
      · refine ⟨h4, ?_⟩
        rw [h3] at h2
        simp only at h2
        omega
theorem byte_at {s : ByteArray} {j : Nat} {b : UInt8} (h : s.data.toList[j]? = some b) : j < s.size ∧ (b.toNat : Int) = bt s (j : Int) := by
  obtain ⟨hj, hb⟩ := List.getElem?_eq_some_iff.1 h
  refine ⟨hj, ?_⟩
  rw [← byte_bt s hj, List.getD_eq_getElem?_getD, h]
  rfl
/-- Its bytes are plain. -/
theorem taken_ascii (s : ByteArray) (h : (ofR (readOf s 0) s.size).2.2.2 ≠ 110) : ∀ (j : Nat) b, s.data.toList[j]? = some b → b.toNat < 128 := by
  intro j b hb
  obtain ⟨hok, hf⟩ := taken s h
  obtain ⟨hj, hbt⟩ := byte_at hb
  have hl := (parts_low s _ hok).1
  by_cases hm : isAt s 0 45 45 = true
  · have hs : startOf s 0 = 1 := by unfold startOf; rw [if_pos hm]
    rw [hs] at hl hf
    by_cases h0 : j = 0
    · subst h0
      have : bt s ((0 : Nat) : Int) = 45 := by rcases (isAt_yes hm).2 with h | h <;> exact h
      omega
    · have := hl j (by omega) (by omega)
      omega
  · have hs : startOf s 0 = 0 := by unfold startOf; rw [if_neg hm]
    rw [hs] at hl hf
    have := hl j (by omega) (by omega)
    omega
/-- Is a minus ahead? -/
def minus (s : ByteArray) : Bool := isAt s 0 45 45
/-- The digits behind it. -/
def digitsOf (s : ByteArray) : List UInt8 := s.data.toList.drop (startOf s 0)
theorem no_mark {s : ByteArray} (h : Lib.containsAny s.data.toList [46, 101, 69] = false) (j : Nat) (hj : j < s.size) : bt s (j : Int) ≠ 46 ∧ bt s (j : Int) ≠ 101 ∧ bt s (j : Int) ≠ 69 := by
  have hn : Lib.NoAny s.data.toList [46, 101, 69] s.data.toList.length := by
    intro i b hi hb
    cases hc : ([46, 101, 69] : List UInt8).contains b with
    | false => rfl
    | true =>
      exfalso
      -- the first such place
      have hx : ∃ i, ∃ b, s.data.toList[i]? = some b ∧ ([46, 101, 69] : List UInt8).contains b = true := ⟨i, b, hb, hc⟩
      have : ∃ i, (∃ b, s.data.toList[i]? = some b ∧ ([46, 101, 69] : List UInt8).contains b = true) ∧ Lib.NoAny s.data.toList [46, 101, 69] i := by
        clear hb hc hi
        have key : ∀ n, (∃ i, i < n ∧ (∃ b, s.data.toList[i]? = some b ∧ ([46, 101, 69] : List UInt8).contains b = true) ∧ Lib.NoAny s.data.toList [46, 101, 69] i) ∨ Lib.NoAny s.data.toList [46, 101, 69] n := by
          intro n
          induction n with
          | zero => exact .inr (Lib.NoAny.zero _ _)
          | succ n ih =>
            rcases ih with ⟨i, hi, h1, h2⟩ | h1
            · exact .inl ⟨i, by omega, h1, h2⟩
            · cases hn : s.data.toList[n]? with
              | none => exact .inr (fun j b hj hb => by
                  by_cases e : j = n
                  · rw [e, hn] at hb; cases hb
                  · exact h1 j b (by omega) hb)
              | some b =>
                cases hc : ([46, 101, 69] : List UInt8).contains b with
                | true => exact .inl ⟨n, by omega, ⟨b, hn, hc⟩, h1⟩
                | false => exact .inr (h1.succ hn hc)
        obtain ⟨i, b, hb, hc⟩ := hx
        rcases key (i + 1) with ⟨i, _, h1, h2⟩ | h1
        · exact ⟨i, h1, h2⟩
        · rw [h1 i b (by omega) hb] at hc
          cases hc
      obtain ⟨i, ⟨b, hb, hc⟩, h2⟩ := this
      have := Lib.indexAny_hit h2 hb hc
      unfold Lib.containsAny at h
      rw [this] at h
      have := of_decide_eq_false h
      omega
  have hget : s.data.toList[j]? = some (s.data.toList.getD j 0) := by
    rw [List.getD_eq_getElem?_getD, List.getElem?_eq_getElem (by exact hj)]
    rfl
  have hc := hn j _ hj hget
  have hb := byte_bt s hj
  generalize s.data.toList.getD j 0 = b at hc hb
  rw [← hb]
  simp at hc
  obtain ⟨h1, h2, h3⟩ := hc
  refine ⟨fun e => h1 (UInt8.toNat_inj.1 (by show b.toNat = 46; omega)), fun e => h2 (UInt8.toNat_inj.1 (by show b.toNat = 101; omega)), fun e => h3 (UInt8.toNat_inj.1 (by show b.toNat = 69; omega))⟩
/-- Without marks the digits are all, and stand in their one form. -/
theorem taken_canon (s : ByteArray) (h : (ofR (readOf s 0) s.size).2.2.2 ≠ 110) (hm : Lib.containsAny s.data.toList [46, 101, 69] = false) : Canon (digitsOf s) := by
  obtain ⟨hok, hf⟩ := taken s h
  obtain ⟨_, hd, hend⟩ := parts_low s _ hok
  unfold digitsOf
  generalize startOf s 0 = a at *
  have hlt := dg_lt hd
  have n1 : ∀ j x y, (x = 46 ∨ x = 101) → (y = 46 ∨ y = 69) → isAt s j x y = false := by
    intro j x y hx hy
    cases hc : isAt s j x y with
    | false => rfl
    | true =>
      obtain ⟨h1, h2⟩ := isAt_yes hc
      have := no_mark hm j h1
      exfalso
      rcases h2 with h2 | h2 <;> rcases hx with rfl | rfl <;> rcases hy with rfl | rfl <;> omega
  have he := hend (n1 _ _ _ (.inl rfl) (.inl rfl)) (n1 _ _ _ (.inr rfl) (.inr rfl))
  rw [he] at hf
  have hlen : (s.data.toList.drop a).length = s.size - a := by
    rw [List.length_drop]
    rfl
  have hdig : ∀ j, a ≤ j → j < s.size → dg s j = true := by
    intro j h1 h2
    by_cases e : j = a
    · rw [e]; exact hd
    · unfold wholeEnd at hf
      split at hf
      · omega
      · exact dEnd_dg (i := a + 1) (by omega) (by omega)
  refine ⟨?_, ?_, ?_⟩
  · intro c hc
    obtain ⟨j, hj⟩ := List.mem_iff_getElem?.1 hc
    rw [List.getElem?_drop] at hj
    obtain ⟨hl, hb⟩ := byte_at hj
    have := dg_dig (hdig _ (by omega) hl)
    rw [← hb] at this
    omega
  · intro e
    rw [e] at hlen
    simp at hlen
    omega
  · intro h48
    rw [List.head?_drop] at h48
    obtain ⟨hl, hb⟩ := byte_at h48
    have e48 : bt s (a : Int) = 48 := by rw [← hb]; rfl
    unfold wholeEnd at hf
    rw [if_pos e48] at hf
    rw [hlen]
    omega
/-- A number, or that it is too much. -/
def putR : Option Int → Int × Int
  | some v => (v, 0)
  | none => (0, 121)
/-- What Int and Uint tell of a text, for a type that holds the numbers from lo to hi. -/
def wholeR (lo hi : Int) (s : ByteArray) : Int × Int :=
  if (ofR (readOf s 0) s.size).2.2.2 = 110 then (0, 110)
  else if Lib.containsAny s.data.toList [46, 101, 69] = true then (0, 120)
  else putR (putAll lo hi (minus s) (digitsOf s) 0)
/-- What CutPrefix leaves are the digits. -/
theorem cut_is (s : ByteArray) : Lib.trimPrefix s.data.toList [45] = digitsOf s ∧ Lib.hasPrefix s.data.toList [45] = minus s := by
  have key : Lib.hasPrefix s.data.toList [45] = minus s := by
    unfold minus isAt
    cases hl : s.data.toList with
    | nil =>
      have hs : s.size = 0 := by
        show s.data.toList.length = 0
        rw [hl]; rfl
      rw [hs]
      rfl
    | cons a l =>
      have hs : 0 < s.size := by
        show 0 < s.data.toList.length
        rw [hl]; simp
      have ha : (a.toNat : Int) = bt s ((0 : Nat) : Int) := (byte_at (s := s) (j := 0) (b := a) (by rw [hl]; rfl)).2
      rw [decide_eq_true hs, Bool.true_and, Bool.or_self, ← ha]
      show (((45 : UInt8) == a) && List.isPrefixOf [] l) = _
      rw [List.isPrefixOf, Bool.and_true]
      rw [Bool.eq_iff_iff, beq_iff_eq, decide_eq_true_eq]
      constructor
      · rintro rfl
        rfl
      · intro h
        exact UInt8.toNat_inj.1 (by show 45 = a.toNat; omega)
  refine ⟨?_, key⟩
  unfold Lib.trimPrefix
  rw [key]
  unfold digitsOf startOf minus
  cases h : isAt s 0 45 45
  · simp
  · simp
/-- What the loop of read holds. -/
structure ReadRow (k : IntKind) (T U : TypeId) (lo hi : Int) (neg : Bool) (D : ByteArray) (w wr : World) (i : Nat) (v : Int) : Prop where
  le : i ≤ D.size
  low : lo ≤ v
  high : v ≤ hi
  pos : neg = false → 0 ≤ v
  min : neg = true → v ≤ 0
  rest : putAll lo hi neg (D.data.toList.drop i) v = putAll lo hi neg D.data.toList 0
  b0 : wr.heap[w.heap.size]? = some (.cells #[.int k v] T (0, 0))
  b1 : wr.heap[w.heap.size + 1]? = some (.cells #[.int .i64 0] U (0, 0))
  below : Below w.heap.size w wr
theorem ReadRow.drew {k : IntKind} {T U : TypeId} {lo hi : Int} {neg : Bool} {D : ByteArray} {w wr : World} {i : Nat} {v : Int} (h : ReadRow k T U lo hi neg D w wr i v) : ReadRow k T U lo hi neg D w wr.drew i v :=
  ⟨h.le, h.low, h.high, h.pos, h.min, h.rest, h.b0, h.b1, h.below.drew⟩
theorem put_cons (lo hi : Int) (neg : Bool) (x : UInt8) (l : List UInt8) (v : Int) : putAll lo hi neg (x :: l) v = if lo ≤ stepD neg v (dv x) ∧ stepD neg v (dv x) ≤ hi then putAll lo hi neg l (stepD neg v (dv x)) else none := rfl
/-- A digit more. -/
theorem ReadRow.step {k : IntKind} {T U : TypeId} {lo hi : Int} {neg : Bool} {D : ByteArray} {w wr : World} {i : Nat} {v : Int} {x : UInt8} (h : ReadRow k T U lo hi neg D w wr i v) (hi' : i < D.size) (hx : D.data.toList[i]'hi' = x) (hr0 : lo ≤ stepD neg v (dv x)) (hr1 : stepD neg v (dv x) ≤ hi) (hd : 0 ≤ dv x) :
    ReadRow k T U lo hi neg D w (wr.setCell ⟨w.heap.size, 0, none⟩ (.int k (stepD neg v (dv x)))) (i + 1) (stepD neg v (dv x)) := by
  obtain ⟨h1, h2, h3, h4, h5, h6, h7, h8, h9⟩ := h
  refine ⟨hi', hr0, hr1, ?_, ?_, ?_, ?_, ?_, h9.setCell (p := ⟨w.heap.size, 0, none⟩) (Nat.le_refl _) _⟩
  · intro e
    have := h4 e
    rw [e]
    show 0 ≤ v * 10 + dv x
    omega
  · intro e
    have := h5 e
    rw [e]
    show v * 10 - dv x ≤ 0
    omega
  · rw [← h6, List.drop_eq_getElem_cons (show i < D.data.toList.length from hi'), hx, put_cons, if_pos ⟨hr0, hr1⟩]
  · exact blk_set h7 0 _
  · exact blk_far h8 (by show w.heap.size + 1 ≠ w.heap.size; omega) _
/-- Too much. -/
theorem ReadRow.over {k : IntKind} {T U : TypeId} {lo hi : Int} {neg : Bool} {D : ByteArray} {w wr : World} {i : Nat} {v : Int} {x : UInt8} (h : ReadRow k T U lo hi neg D w wr i v) (hi' : i < D.size) (hx : D.data.toList[i]'hi' = x) (hr : ¬ (lo ≤ stepD neg v (dv x) ∧ stepD neg v (dv x) ≤ hi)) :
    putAll lo hi neg D.data.toList 0 = none := by
  rw [← h.rest, List.drop_eq_getElem_cons (show i < D.data.toList.length from hi'), hx, put_cons, if_neg hr]
/-- All of them. -/
theorem ReadRow.all {k : IntKind} {T U : TypeId} {lo hi : Int} {neg : Bool} {D : ByteArray} {w wr : World} {v : Int} (h : ReadRow k T U lo hi neg D w wr D.size v) : putAll lo hi neg D.data.toList 0 = some v := by
  rw [← h.rest, show D.data.toList.drop D.size = [] from List.drop_eq_nil_of_le (Nat.le_refl _), putAll]
end Go.Proofs.YtkjmbibnfohkjaaDoor.Whole

/- What Int and Uint tell, in one word for all types: why a text is no whole number, or one number, held against the type's ends. Plain Lean. -/
namespace Go.Proofs.YtkjmbibnfohkjaaDoor.Whole
open Go.RowKit Go.Proofs.YtkjmbibnfohkjaaDoor.Dec Go.Proofs.YtkjmbibnfohkjaaDoor.Reader
/-- The number that a text of digits is. -/
def valueOf (s : ByteArray) : Int := sgn (minus s) (worth (digitsOf s))
/-- The three ways of a text. -/
inductive Way (s : ByteArray) : Prop
  | none (h : (ofR (readOf s 0) s.size).2.2.2 = 110) (hw : ∀ lo hi, wholeR lo hi s = (0, 110))
  | mark (h : (ofR (readOf s 0) s.size).2.2.2 ≠ 110) (hm : Lib.containsAny s.data.toList [46, 101, 69] = true) (hw : ∀ lo hi, wholeR lo hi s = (0, 120))
  | num (h : (ofR (readOf s 0) s.size).2.2.2 ≠ 110) (hm : Lib.containsAny s.data.toList [46, 101, 69] = false) (hc : Canon (digitsOf s))
      (hw : ∀ lo hi, lo ≤ 0 → 0 ≤ hi → wholeR lo hi s = if lo ≤ valueOf s ∧ valueOf s ≤ hi then (valueOf s, 0) else (0, 121))
theorem way (s : ByteArray) : Way s := by
  by_cases h : (ofR (readOf s 0) s.size).2.2.2 = 110
  · exact .none h (fun lo hi => by unfold wholeR; rw [if_pos h])
  · cases hm : Lib.containsAny s.data.toList [46, 101, 69] with
    | true => exact .mark h hm (fun lo hi => by unfold wholeR; rw [if_neg h, hm, if_pos rfl])
    | false =>
      have hc := taken_canon s h hm
      refine .num h hm hc (fun lo hi h0 h1 => ?_)
      unfold wholeR
      rw [if_neg h, hm, if_neg (by decide)]
      have := putAll_is lo hi h0 h1 (minus s) (digitsOf s) hc.1 0 (Int.le_refl _) (by unfold sgn; split <;> omega) (by unfold sgn; split <;> omega)
      rw [show sgn (minus s) 0 = 0 from by unfold sgn; split <;> rfl] at this
      rw [this]
      show putR (if lo ≤ valueOf s ∧ valueOf s ≤ hi then some (valueOf s) else none) = _
      split <;> rfl
theorem value_neg {s : ByteArray} (hc : Canon (digitsOf s)) (h : minus s = true) : valueOf s ≤ 0 := by
  have := worth_nonneg _ hc.1
  unfold valueOf sgn
  rw [if_pos h]
  omega
theorem value_pos {s : ByteArray} (hc : Canon (digitsOf s)) (h : minus s = false) : 0 ≤ valueOf s := by
  have := worth_nonneg _ hc.1
  unfold valueOf sgn
  rw [if_neg (by rw [h]; decide)]
  exact this
end Go.Proofs.YtkjmbibnfohkjaaDoor.Whole
