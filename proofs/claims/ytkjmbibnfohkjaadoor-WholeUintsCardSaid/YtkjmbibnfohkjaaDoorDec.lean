/- The number that stands at a place of a text: where its partsOf lie, and what it is worth. Plain Lean. -/
import Derived.Test.YtkjmbibnfohkjaaDoorWMore
namespace Go.Proofs.YtkjmbibnfohkjaaDoor.Dec
open Go.RowKit Go.Proofs.YtkjmbibnfohkjaaDoorW.PrintWords Go.Proofs.YtkjmbibnfohkjaaDoorW.PrintLast Go.Proofs.YtkjmbibnfohkjaaDoorW.PrintMore

def isDig (c : Int) : Bool := decide (48 ≤ c) && decide (c ≤ 57)
/-- Does a digit stand at the place? -/
def dg (s : ByteArray) (i : Nat) : Bool := decide (i < s.size) && isDig (bt s (i : Int))
/-- Does one of two piece stand at the place? -/
def isAt (s : ByteArray) (i : Nat) (x y : Int) : Bool := decide (i < s.size) && (decide (bt s (i : Int) = x) || decide (bt s (i : Int) = y))
/-- The place behind the digits from a place on, so many rounds at most. -/
def run (s : ByteArray) : Nat → Nat → Nat
  | 0, i => i
  | n + 1, i => if dg s i = true then run s n (i + 1) else i
def dEnd (s : ByteArray) (i : Nat) : Nat := run s (s.size - i) i

theorem dg_lt {s : ByteArray} {i : Nat} (h : dg s i = true) : i < s.size := by
  unfold dg at h
  simp at h
  exact h.1
theorem dg_dig {s : ByteArray} {i : Nat} (h : dg s i = true) : 48 ≤ bt s (i : Int) ∧ bt s (i : Int) ≤ 57 := by
  unfold dg isDig at h
  simp at h
  exact h.2
theorem run_le (s : ByteArray) : ∀ n i, i ≤ run s n i ∧ run s n i ≤ i + n
  | 0, i => ⟨Nat.le_refl _, Nat.le_refl _⟩
  | n + 1, i => by
    have h := run_le s n (i + 1)
    unfold run
    split
    · omega
    · omega
theorem dEnd_ge (s : ByteArray) (i : Nat) : i ≤ dEnd s i := (run_le s _ i).1
theorem dEnd_le (s : ByteArray) {i : Nat} (h : i ≤ s.size) : dEnd s i ≤ s.size := by
  have := (run_le s (s.size - i) i).2
  unfold dEnd
  omega
theorem dEnd_step {s : ByteArray} {i : Nat} (h : dg s i = true) : dEnd s i = dEnd s (i + 1) := by
  have hl := dg_lt h
  unfold dEnd
  obtain ⟨n, hn⟩ : ∃ n, s.size - i = n + 1 := ⟨s.size - i - 1, by omega⟩
  rw [hn, run, if_pos h, show s.size - (i + 1) = n from by omega]
theorem dEnd_stop {s : ByteArray} {i : Nat} (h : dg s i = false) : dEnd s i = i := by
  unfold dEnd
  cases hn : s.size - i with
  | zero => rfl
  | succ n => rw [run, if_neg (by rw [h]; decide)]
theorem run_dg (s : ByteArray) : ∀ n i j, i ≤ j → j < run s n i → dg s j = true
  | 0, i, j, h1, h2 => by
    unfold run at h2
    omega
  | n + 1, i, j, h1, h2 => by
    unfold run at h2
    by_cases h : dg s i = true
    · rw [if_pos h] at h2
      by_cases e : j = i
      · rw [e]; exact h
      · exact run_dg s n (i + 1) j (by omega) h2
    · rw [if_neg h] at h2
      omega
theorem dEnd_dg {s : ByteArray} {i j : Nat} (h1 : i ≤ j) (h2 : j < dEnd s i) : dg s j = true := run_dg s _ i j h1 h2
theorem run_end (s : ByteArray) : ∀ n i, run s n i < i + n → dg s (run s n i) = false
  | 0, i, h => by
    unfold run at h
    omega
  | n + 1, i, h => by
    unfold run at h ⊢
    by_cases hd : dg s i = true
    · rw [if_pos hd] at h ⊢
      exact run_end s n (i + 1) (by omega)
    · rw [if_neg hd]
      simpa using hd
theorem dEnd_end (s : ByteArray) (i : Nat) : dg s (dEnd s i) = false := by
  by_cases h : run s (s.size - i) i < i + (s.size - i)
  · exact run_end s _ i h
  · have := run_le s (s.size - i) i
    unfold dg dEnd
    rw [decide_eq_false (by omega)]
    rfl

/-- The piece from a place to another one. -/
def piece (s : ByteArray) (a b : Nat) : List UInt8 := (s.data.toList.drop a).take (b - a)
theorem piece_self (s : ByteArray) (a : Nat) : piece s a a = [] := by
  unfold piece
  rw [Nat.sub_self, List.take_zero]
theorem piece_snoc (s : ByteArray) {a b : Nat} (h : a ≤ b) (hb : b < s.size) : piece s a (b + 1) = piece s a b ++ [s.data.toList.getD b 0] := by
  unfold piece
  have hl : s.data.toList.length = s.size := rfl
  rw [show b + 1 - a = (b - a) + 1 from by omega, List.take_succ_eq_append_getElem (by rw [List.length_drop]; omega), List.getElem_drop]
  congr 2
  rw [List.getD_eq_getElem?_getD, List.getElem?_eq_getElem (by omega)]
  simp only [Option.getD_some]
  congr 1
  omega
theorem piece_length (s : ByteArray) {a b : Nat} (hb : b ≤ s.size) : (piece s a b).length = b - a := by
  unfold piece
  have hl : s.data.toList.length = s.size := rfl
  rw [List.length_take, List.length_drop]
  omega
theorem piece_join (s : ByteArray) {a b c : Nat} (h1 : a ≤ b) (h2 : b ≤ c) : piece s a b ++ piece s b c = piece s a c := by
  unfold piece
  rw [show c - a = (b - a) + (c - b) from by omega, List.take_add, List.drop_drop, show a + (b - a) = b from by omega]

/-- The exponent's worth, as far as the program goes on with it: beyond 2^50 it stops. -/
def sat : List UInt8 → Int → Int
  | [], x => x
  | c :: l, x => sat l (if x < 1125899906842624 then 10 * x + ((c.toNat : Int) - 48) else x)
theorem sat_snoc (l : List UInt8) (c : UInt8) (x : Int) : sat (l ++ [c]) x = if sat l x < 1125899906842624 then 10 * sat l x + ((c.toNat : Int) - 48) else sat l x := by
  induction l generalizing x with
  | nil => rfl
  | cons d l ih => exact ih _

/-- Where the partsOf of a number lie, that begins at a place behind its sign: is it one; where it ends, or what stands there that can't; the end of its whole digits; where the ones behind the point begin, and end; where the ones of the exponent begin (equal: none); is it turned? -/
structure Parts where
  ok : Bool
  fin : Nat
  wb : Nat
  ba : Nat
  bb : Nat
  ea : Nat
  turned : Bool

/-- From the exponent's mark on. -/
def expo (s : ByteArray) (wb ba bb : Nat) : Parts :=
  if isAt s bb 101 69 = true then
    (let t := isAt s (bb + 1) 43 45
     let ea := if t = true then bb + 2 else bb + 1
     let tu := t && decide (bt s ((bb + 1 : Nat) : Int) = 45)
     if dg s ea = true then ⟨true, dEnd s (ea + 1), wb, ba, bb, ea, tu⟩ else ⟨false, ea, wb, ba, bb, ea, tu⟩)
  else ⟨true, bb, wb, ba, bb, bb, false⟩
/-- From the point on. -/
def point (s : ByteArray) (wb : Nat) : Parts :=
  if isAt s wb 46 46 = true then
    (if dg s (wb + 1) = true then expo s wb (wb + 1) (dEnd s (wb + 2)) else ⟨false, wb + 1, wb, wb + 1, wb + 1, wb + 1, false⟩)
  else expo s wb wb wb
/-- From the first digit on. -/
def partsOf (s : ByteArray) (a : Nat) : Parts :=
  if dg s a = true then (if bt s (a : Int) = 48 then point s (a + 1) else point s (dEnd s (a + 1))) else ⟨false, a, a, a, a, a, false⟩
end Go.Proofs.YtkjmbibnfohkjaaDoor.Dec
