/- decimal's reader takes a byte, if it is one of a few. -/
import Derived.Test.YtkjmbibnfohkjaaDoorShelf
import Derived.Test.YtkjmbibnfohkjaaDoorReaderBase
namespace Go.Proofs.YtkjmbibnfohkjaaDoor.Reader
open Go.RowKit Go.Proofs.YtkjmbibnfohkjaaDoorW.PrintWords Go.Proofs.YtkjmbibnfohkjaaDoorW.PrintLast Go.Proofs.YtkjmbibnfohkjaaDoorW.PrintMore Go.Proofs.YtkjmbibnfohkjaaDoor.Dec
set_option linter.unusedVariables false

/-- Does one of the bytes stand there? -/
def tk (S : List UInt8) (s : ByteArray) (i : Nat) : Bool := decide (i < s.size) && decide (0 ≤ Lib.indexByte S (bt s (i : Int)).toNat.toUInt8)
theorem byte_is {c : Int} (h0 : 0 ≤ c) (h1 : c ≤ 255) (x : UInt8) : (x == c.toNat.toUInt8) = decide (c = (x.toNat : Int)) := by
  rw [Bool.eq_iff_iff, beq_iff_eq, decide_eq_true_eq, ← UInt8.toNat_inj]
  have : c.toNat.toUInt8.toNat = c.toNat := by
    rw [Nat.toUInt8, UInt8.toNat_ofNat']
    omega
  rw [this]
  omega
theorem index_one {c : Int} (h0 : 0 ≤ c) (h1 : c ≤ 255) (x : UInt8) : decide (0 ≤ Lib.indexByte [x] c.toNat.toUInt8) = decide (c = (x.toNat : Int)) := by
  have hb := byte_is h0 h1 x
  cases hx : (x == c.toNat.toUInt8)
  · rw [hx] at hb
    have e : Lib.indexByte [x] c.toNat.toUInt8 = -1 := by simp [Lib.indexByte, hx]
    rw [e, ← hb]
    decide
  · rw [hx] at hb
    have e : Lib.indexByte [x] c.toNat.toUInt8 = 0 := by simp [Lib.indexByte, hx]
    rw [e, ← hb]
    decide
theorem index_two {c : Int} (h0 : 0 ≤ c) (h1 : c ≤ 255) (x y : UInt8) : decide (0 ≤ Lib.indexByte [x, y] c.toNat.toUInt8) = (decide (c = (x.toNat : Int)) || decide (c = (y.toNat : Int))) := by
  have hb := byte_is h0 h1 x
  have hy := byte_is h0 h1 y
  rw [← hb, ← hy]
  cases hx : (x == c.toNat.toUInt8)
  · cases hz : (y == c.toNat.toUInt8)
    · have e : Lib.indexByte [x, y] c.toNat.toUInt8 = -1 := by simp [Lib.indexByte, hx, hz]
      rw [e]
      decide
    · have e : Lib.indexByte [x, y] c.toNat.toUInt8 = 1 := by simp [Lib.indexByte, hx, hz]
      rw [e]
      decide
  · have e : Lib.indexByte [x, y] c.toNat.toUInt8 = 0 := by simp [Lib.indexByte, hx]
    rw [e]
    rfl
theorem tk_one (s : ByteArray) (i : Nat) (x : UInt8) : tk [x] s i = isAt s i (x.toNat : Int) (x.toNat : Int) := by
  have hr := bt_range s (i : Int)
  unfold tk isAt
  rw [index_one hr.1 hr.2, Bool.or_self]
theorem tk_two (s : ByteArray) (i : Nat) (x y : UInt8) : tk [x, y] s i = isAt s i (x.toNat : Int) (y.toNat : Int) := by
  have hr := bt_range s (i : Int)
  unfold tk isAt
  rw [index_two hr.1 hr.2]
theorem tk_minus (s : ByteArray) (i : Nat) : tk [45] s i = isAt s i 45 45 := tk_one s i 45
theorem tk_point (s : ByteArray) (i : Nat) : tk [46] s i = isAt s i 46 46 := tk_one s i 46
theorem tk_exp (s : ByteArray) (i : Nat) : tk [101, 69] s i = isAt s i 101 69 := tk_two s i 101 69
theorem tk_sign (s : ByteArray) (i : Nat) : tk [43, 45] s i = isAt s i 43 45 := tk_two s i 43 45
theorem tk_lt {S : List UInt8} {s : ByteArray} {i : Nat} (h : tk S s i = true) : i < s.size := by
  unfold tk at h
  simp at h
  exact h.1

set_option maxHeartbeats 800000 in
set_option maxRecDepth 100000 in
theorem take_yes (S : ByteArray) (b : Nat) (s : ByteArray) (i : Nat) (n : Bool) (v : Value) (d e : Int) (w : World) (hs : s.size ≤ 1152921504606846976) (h : RB w b s i n v d e) (hd : tk S.data.toList s i = true) :
    Calls Tryd.prog 109 #[.pointer (some ⟨b, 0, none⟩), .string S] w fun r w' => r = .returned (.tuple #[.int .u8 (bt s i), .bool true]) ∧ RB w' b s ((i : Int) + 1) n v d e ∧ Only b w w' := by
  have hl := tk_lt hd
  have HR := Aside0.mk h
  have c0 := h.c0
  have c1 := h.c1
  have f1 := h.fr 1
  have hx := bt_nat s i
  have q1 : decide (i < s.size) = true := decide_eq_true hl
  have q0 : decide (0 ≤ Lib.indexByte S.data.toList (bt s (i : Int)).toNat.toUInt8) = true := by
    unfold tk at hd
    rw [q1, Bool.true_and] at hd
    exact hd
  clear h hd
  go_enter Tryd.func109, Tryd.ntmps109
  go_wp2
  repeat (go_quiet ((go_at_call 121; exact Calls.quiet_of_same (Tryd.strings_IndexByte _ _ _))); try go_wp2)
  go_ret2
  exact ⟨rfl, RB.drewN (RB.set1 (RB.drewN HR.out _) _) _, Only.drewN (Only.set (Only.drewN (Only.refl b w) _) 1 _) _⟩
set_option maxHeartbeats 800000 in
set_option maxRecDepth 100000 in
theorem take_no (S : ByteArray) (b : Nat) (s : ByteArray) (i : Nat) (n : Bool) (v : Value) (d e : Int) (w : World) (hs : s.size ≤ 1152921504606846976) (h : RB w b s i n v d e) (hd : tk S.data.toList s i = false) :
    Calls Tryd.prog 109 #[.pointer (some ⟨b, 0, none⟩), .string S] w fun r w' => r = .returned (.tuple #[.int .u8 0, .bool false]) ∧ RB w' b s (i : Int) n v d e ∧ Only b w w' := by
  have HR := Aside0.mk h
  have c0 := h.c0
  have c1 := h.c1
  have f1 := h.fr 1
  have hx := bt_nat s i
  clear h
  by_cases hl : i < s.size
  · have q1 : decide (i < s.size) = true := decide_eq_true hl
    have q0 : decide (0 ≤ Lib.indexByte S.data.toList (bt s (i : Int)).toNat.toUInt8) = false := by
      unfold tk at hd
      rw [q1, Bool.true_and] at hd
      exact hd
    clear hd
    go_enter Tryd.func109, Tryd.ntmps109
    go_wp2
    repeat (go_quiet ((go_at_call 121; exact Calls.quiet_of_same (Tryd.strings_IndexByte _ _ _))); try go_wp2)
    go_ret2
    exact ⟨rfl, RB.drewN HR.out _, Only.drewN (Only.refl b w) _⟩
  · have q1 : decide (i < s.size) = false := decide_eq_false hl
    clear hd
    go_enter Tryd.func109, Tryd.ntmps109
    go_wp2
    repeat (go_quiet (fail); try go_wp2)
    go_ret2
    exact ⟨rfl, RB.drewN HR.out _, Only.drewN (Only.refl b w) _⟩
end Go.Proofs.YtkjmbibnfohkjaaDoor.Reader
