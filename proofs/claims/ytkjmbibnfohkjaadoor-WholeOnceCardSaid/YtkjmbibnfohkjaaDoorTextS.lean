/- whole.Text of some types: for every number its decimal text. Printed by gentext.py. -/
import Derived.Test.YtkjmbibnfohkjaaDoorTextRow
import Derived.LoopTactic
import Derived.RegionTactic
import Derived.Deep.LoopGhost
import Derived.IntWalk
namespace Go.Proofs.YtkjmbibnfohkjaaDoor
open Go.RowKit Go.Shelf
set_option linter.unusedVariables false
set_option maxRecDepth 100000 in
set_option maxHeartbeats 1000000 in
theorem text_pos_int64 (m : Nat) (hz : m ≠ 0) (hm : m ≤ 9223372036854775807) (w : World) :
    Calls Tryd.prog 9 #[.int .i64 (m : Int)] w fun e w' => e = .returned (.string ⟨(Lib.decDigits m).toArray⟩) ∧ Below w.heap.size w w' := by
  have q0 : ((m : Int) == 0) = false := beq_eq_false_iff_ne.2 (by omega)
  have q1 : decide ((m : Int) < 0) = false := decide_eq_false (by omega)
  have HS := Lib.hid (TextRow.start w m hz (by omega) 87)
  go_enter Tryd.func9, Tryd.ntmps9
  go_wp2
  clear q0 q1
  go_loopw [0, 4] (fun vn va wr => ∃ (x a : Nat) (tail : List UInt8), vn = .int .i64 (x : Int) ∧ va = .int .i64 (a : Int) ∧ x ≤ 9223372036854775807 ∧ Hid (TextRow w wr m x a tail))
    (fun p _ _ => (intOf p).natAbs)
  case atStart => exact ⟨m, 20, [], rfl, rfl, hm, HS⟩
  case round =>
    obtain ⟨x, a, tail, rfl, rfl, hxm, HT⟩ := hrel
    clear HS
    by_cases hx0 : x = 0
    · subst hx0
      have ha0 : a < 20 := by have := HT.out.reads.2.1; have := Lib.nDigits_pos m; have := Lib.decDigits_length m; omega
      have hcv := HT.out.reads.2.2.2
      have hsl := text_slice w.heap.size a ha0
      go_wp2
      go_ret
      exact ⟨rfl, HT.out.below⟩
    · have hx1 : ((x : Int) != 0) = true := bne_iff_ne.2 (by omega)
      obtain ⟨b, rfl, hb⟩ := HT.out.pos hx0
      have hw1 : wrap64 (((b + 1 : Nat) : Int) - 1) = (b : Int) := by unfold wrap64; omega
      obtain ⟨c, hc⟩ := (HT.out.old b hb).1
      have hf := (HT.out.old b hb).2
      have HN := Lib.hid (HT.out.step hx0)
      have hx10 : 0 ≤ (x : Int) % 10 ∧ (x : Int) % 10 ≤ 9 := by omega
      clear HT
      go_wp2
      go_roundw
      case rel => exact ⟨x / 10, b, _, by first | rfl | go_num, by first | rfl | go_num, by omega, HN⟩
      case measure =>
        simp only [intOf]
        omega
set_option maxRecDepth 100000 in
set_option maxHeartbeats 1000000 in
theorem text_neg_int64 (m : Nat) (hz : m ≠ 0) (hm : m ≤ 9223372036854775808) (w : World) :
    Calls Tryd.prog 9 #[.int .i64 (-(m : Int))] w fun e w' => e = .returned (.string ⟨(45 :: Lib.decDigits m).toArray⟩) ∧ Below w.heap.size w w' := by
  have q0 : (-(m : Int) == 0) = false := beq_eq_false_iff_ne.2 (by omega)
  have q1 : decide (-(m : Int) < 0) = true := decide_eq_true (by omega)
  have HS := Lib.hid (TextRow.start w m hz (by omega) 87)
  go_enter Tryd.func9, Tryd.ntmps9
  go_wp2
  clear q0 q1
  go_loopw [0, 4] (fun vn va wr => ∃ (x a : Nat) (tail : List UInt8), vn = .int .i64 (-(x : Int)) ∧ va = .int .i64 (a : Int) ∧ x ≤ 9223372036854775808 ∧ Hid (TextRow w wr m x a tail))
    (fun p _ _ => (intOf p).natAbs)
  case atStart => exact ⟨m, 20, [], rfl, rfl, hm, HS⟩
  case round =>
    obtain ⟨x, a, tail, rfl, rfl, hxm, HT⟩ := hrel
    clear HS
    by_cases hx0 : x = 0
    · subst hx0
      have ha0 : a < 20 := by have := HT.out.reads.2.1; have := Lib.nDigits_pos m; have := Lib.decDigits_length m; omega
      have hcv := HT.out.reads.2.2.2
      have hmn := text_minus m HT.out.reads.2.2.1
      have hml := HT.out.reads.2.2.1
      have hm1 : decide (0 < m) = true := decide_eq_true (by omega)
      have hsl := text_slice w.heap.size a ha0
      go_wp2
      go_ret
      exact ⟨by simp, HT.out.below⟩
    · have hx1 : ((-(x : Int)) != 0) = true := bne_iff_ne.2 (by omega)
      obtain ⟨b, rfl, hb⟩ := HT.out.pos hx0
      have hw1 : wrap64 (((b + 1 : Nat) : Int) - 1) = (b : Int) := by unfold wrap64; omega
      obtain ⟨c, hc⟩ := (HT.out.old b hb).1
      have hf := (HT.out.old b hb).2
      have HN := Lib.hid (HT.out.step hx0)
      have hx10 : 0 ≤ (x : Int) % 10 ∧ (x : Int) % 10 ≤ 9 := by omega
      have hm1 : decide (0 < m) = true := decide_eq_true (by omega)
      clear HT
      go_wp2
      go_roundw
      case rel => exact ⟨x / 10, b, _, by first | rfl | go_num, by first | rfl | go_num, by omega, HN⟩
      case measure =>
        simp only [intOf]
        omega
theorem text_zero_int64 (w : World) : Calls Tryd.prog 9 #[.int .i64 0] w fun e w' => e = .returned (.string ⟨#[48]⟩) ∧ Below w.heap.size w w' := by
  go_enter Tryd.func9, Tryd.ntmps9
  go_wp2
  go_ret
  exact ⟨rfl, Below.refl _ _⟩
def whole_Text_int64.f (a0 : Int) : Option ByteArray := if -9223372036854775808 ≤ a0 ∧ a0 ≤ 9223372036854775807 then some ⟨(Lib.itoa a0).toArray⟩ else none
theorem whole_Text_int64.calls (a0 : Int) (r : ByteArray) (w : World) (h : whole_Text_int64.f a0 = some r) :
    Calls Tryd.prog 9 #[.int .i64 a0] w fun e w' => e = .returned (.string r) ∧ Below w.heap.size w w' := by
  unfold whole_Text_int64.f at h
  split at h
  · rename_i hr
    obtain rfl := Option.some.inj h
    by_cases hz : a0 = 0
    · subst hz
      rw [show Lib.itoa 0 = [48] from by unfold Lib.itoa; rw [if_neg (by decide), Lib.decDigits, dif_pos (by decide)]; rfl]
      exact text_zero_int64 w
    · by_cases hn : a0 < 0
      · obtain ⟨m, rfl⟩ : ∃ m : Nat, a0 = -(m : Int) := ⟨a0.natAbs, by omega⟩
        rw [Lib.itoa_neg m (by omega)]
        exact text_neg_int64 m (by omega) (by omega) w
      · obtain ⟨m, rfl⟩ : ∃ m : Nat, a0 = (m : Int) := ⟨a0.toNat, by omega⟩
        rw [Lib.itoa_nonneg]
        exact text_pos_int64 m (by omega) (by omega) w
  · cases h
set_option maxRecDepth 100000 in
set_option maxHeartbeats 1000000 in
theorem text_pos_int (m : Nat) (hz : m ≠ 0) (hm : m ≤ 9223372036854775807) (w : World) :
    Calls Tryd.prog 11 #[.int .i64 (m : Int)] w fun e w' => e = .returned (.string ⟨(Lib.decDigits m).toArray⟩) ∧ Below w.heap.size w w' := by
  have q0 : ((m : Int) == 0) = false := beq_eq_false_iff_ne.2 (by omega)
  have q1 : decide ((m : Int) < 0) = false := decide_eq_false (by omega)
  have HS := Lib.hid (TextRow.start w m hz (by omega) 87)
  go_enter Tryd.func11, Tryd.ntmps11
  go_wp2
  clear q0 q1
  go_loopw [0, 4] (fun vn va wr => ∃ (x a : Nat) (tail : List UInt8), vn = .int .i64 (x : Int) ∧ va = .int .i64 (a : Int) ∧ x ≤ 9223372036854775807 ∧ Hid (TextRow w wr m x a tail))
    (fun p _ _ => (intOf p).natAbs)
  case atStart => exact ⟨m, 20, [], rfl, rfl, hm, HS⟩
  case round =>
    obtain ⟨x, a, tail, rfl, rfl, hxm, HT⟩ := hrel
    clear HS
    by_cases hx0 : x = 0
    · subst hx0
      have ha0 : a < 20 := by have := HT.out.reads.2.1; have := Lib.nDigits_pos m; have := Lib.decDigits_length m; omega
      have hcv := HT.out.reads.2.2.2
      have hsl := text_slice w.heap.size a ha0
      go_wp2
      go_ret
      exact ⟨rfl, HT.out.below⟩
    · have hx1 : ((x : Int) != 0) = true := bne_iff_ne.2 (by omega)
      obtain ⟨b, rfl, hb⟩ := HT.out.pos hx0
      have hw1 : wrap64 (((b + 1 : Nat) : Int) - 1) = (b : Int) := by unfold wrap64; omega
      obtain ⟨c, hc⟩ := (HT.out.old b hb).1
      have hf := (HT.out.old b hb).2
      have HN := Lib.hid (HT.out.step hx0)
      have hx10 : 0 ≤ (x : Int) % 10 ∧ (x : Int) % 10 ≤ 9 := by omega
      clear HT
      go_wp2
      go_roundw
      case rel => exact ⟨x / 10, b, _, by first | rfl | go_num, by first | rfl | go_num, by omega, HN⟩
      case measure =>
        simp only [intOf]
        omega
set_option maxRecDepth 100000 in
set_option maxHeartbeats 1000000 in
theorem text_neg_int (m : Nat) (hz : m ≠ 0) (hm : m ≤ 9223372036854775808) (w : World) :
    Calls Tryd.prog 11 #[.int .i64 (-(m : Int))] w fun e w' => e = .returned (.string ⟨(45 :: Lib.decDigits m).toArray⟩) ∧ Below w.heap.size w w' := by
  have q0 : (-(m : Int) == 0) = false := beq_eq_false_iff_ne.2 (by omega)
  have q1 : decide (-(m : Int) < 0) = true := decide_eq_true (by omega)
  have HS := Lib.hid (TextRow.start w m hz (by omega) 87)
  go_enter Tryd.func11, Tryd.ntmps11
  go_wp2
  clear q0 q1
  go_loopw [0, 4] (fun vn va wr => ∃ (x a : Nat) (tail : List UInt8), vn = .int .i64 (-(x : Int)) ∧ va = .int .i64 (a : Int) ∧ x ≤ 9223372036854775808 ∧ Hid (TextRow w wr m x a tail))
    (fun p _ _ => (intOf p).natAbs)
  case atStart => exact ⟨m, 20, [], rfl, rfl, hm, HS⟩
  case round =>
    obtain ⟨x, a, tail, rfl, rfl, hxm, HT⟩ := hrel
    clear HS
    by_cases hx0 : x = 0
    · subst hx0
      have ha0 : a < 20 := by have := HT.out.reads.2.1; have := Lib.nDigits_pos m; have := Lib.decDigits_length m; omega
      have hcv := HT.out.reads.2.2.2
      have hmn := text_minus m HT.out.reads.2.2.1
      have hml := HT.out.reads.2.2.1
      have hm1 : decide (0 < m) = true := decide_eq_true (by omega)
      have hsl := text_slice w.heap.size a ha0
      go_wp2
      go_ret
      exact ⟨by simp, HT.out.below⟩
    · have hx1 : ((-(x : Int)) != 0) = true := bne_iff_ne.2 (by omega)
      obtain ⟨b, rfl, hb⟩ := HT.out.pos hx0
      have hw1 : wrap64 (((b + 1 : Nat) : Int) - 1) = (b : Int) := by unfold wrap64; omega
      obtain ⟨c, hc⟩ := (HT.out.old b hb).1
      have hf := (HT.out.old b hb).2
      have HN := Lib.hid (HT.out.step hx0)
      have hx10 : 0 ≤ (x : Int) % 10 ∧ (x : Int) % 10 ≤ 9 := by omega
      have hm1 : decide (0 < m) = true := decide_eq_true (by omega)
      clear HT
      go_wp2
      go_roundw
      case rel => exact ⟨x / 10, b, _, by first | rfl | go_num, by first | rfl | go_num, by omega, HN⟩
      case measure =>
        simp only [intOf]
        omega
theorem text_zero_int (w : World) : Calls Tryd.prog 11 #[.int .i64 0] w fun e w' => e = .returned (.string ⟨#[48]⟩) ∧ Below w.heap.size w w' := by
  go_enter Tryd.func11, Tryd.ntmps11
  go_wp2
  go_ret
  exact ⟨rfl, Below.refl _ _⟩
def whole_Text_int.f (a0 : Int) : Option ByteArray := if -9223372036854775808 ≤ a0 ∧ a0 ≤ 9223372036854775807 then some ⟨(Lib.itoa a0).toArray⟩ else none
theorem whole_Text_int.calls (a0 : Int) (r : ByteArray) (w : World) (h : whole_Text_int.f a0 = some r) :
    Calls Tryd.prog 11 #[.int .i64 a0] w fun e w' => e = .returned (.string r) ∧ Below w.heap.size w w' := by
  unfold whole_Text_int.f at h
  split at h
  · rename_i hr
    obtain rfl := Option.some.inj h
    by_cases hz : a0 = 0
    · subst hz
      rw [show Lib.itoa 0 = [48] from by unfold Lib.itoa; rw [if_neg (by decide), Lib.decDigits, dif_pos (by decide)]; rfl]
      exact text_zero_int w
    · by_cases hn : a0 < 0
      · obtain ⟨m, rfl⟩ : ∃ m : Nat, a0 = -(m : Int) := ⟨a0.natAbs, by omega⟩
        rw [Lib.itoa_neg m (by omega)]
        exact text_neg_int m (by omega) (by omega) w
      · obtain ⟨m, rfl⟩ : ∃ m : Nat, a0 = (m : Int) := ⟨a0.toNat, by omega⟩
        rw [Lib.itoa_nonneg]
        exact text_pos_int m (by omega) (by omega) w
  · cases h
set_option maxRecDepth 100000 in
set_option maxHeartbeats 1000000 in
theorem text_pos_int32 (m : Nat) (hz : m ≠ 0) (hm : m ≤ 2147483647) (w : World) :
    Calls Tryd.prog 17 #[.int .i32 (m : Int)] w fun e w' => e = .returned (.string ⟨(Lib.decDigits m).toArray⟩) ∧ Below w.heap.size w w' := by
  have q0 : ((m : Int) == 0) = false := beq_eq_false_iff_ne.2 (by omega)
  have q1 : decide ((m : Int) < 0) = false := decide_eq_false (by omega)
  have HS := Lib.hid (TextRow.start w m hz (by omega) 87)
  go_enter Tryd.func17, Tryd.ntmps17
  go_wp2
  clear q0 q1
  go_loopw [0, 4] (fun vn va wr => ∃ (x a : Nat) (tail : List UInt8), vn = .int .i32 (x : Int) ∧ va = .int .i64 (a : Int) ∧ x ≤ 2147483647 ∧ Hid (TextRow w wr m x a tail))
    (fun p _ _ => (intOf p).natAbs)
  case atStart => exact ⟨m, 20, [], rfl, rfl, hm, HS⟩
  case round =>
    obtain ⟨x, a, tail, rfl, rfl, hxm, HT⟩ := hrel
    clear HS
    by_cases hx0 : x = 0
    · subst hx0
      have ha0 : a < 20 := by have := HT.out.reads.2.1; have := Lib.nDigits_pos m; have := Lib.decDigits_length m; omega
      have hcv := HT.out.reads.2.2.2
      have hsl := text_slice w.heap.size a ha0
      go_wp2
      go_ret
      exact ⟨rfl, HT.out.below⟩
    · have hx1 : ((x : Int) != 0) = true := bne_iff_ne.2 (by omega)
      obtain ⟨b, rfl, hb⟩ := HT.out.pos hx0
      have hw1 : wrap64 (((b + 1 : Nat) : Int) - 1) = (b : Int) := by unfold wrap64; omega
      obtain ⟨c, hc⟩ := (HT.out.old b hb).1
      have hf := (HT.out.old b hb).2
      have HN := Lib.hid (HT.out.step hx0)
      have hx10 : 0 ≤ (x : Int) % 10 ∧ (x : Int) % 10 ≤ 9 := by omega
      clear HT
      go_wp2
      go_roundw
      case rel => exact ⟨x / 10, b, _, by first | rfl | go_num, by first | rfl | go_num, by omega, HN⟩
      case measure =>
        simp only [intOf]
        omega
set_option maxRecDepth 100000 in
set_option maxHeartbeats 1000000 in
theorem text_neg_int32 (m : Nat) (hz : m ≠ 0) (hm : m ≤ 2147483648) (w : World) :
    Calls Tryd.prog 17 #[.int .i32 (-(m : Int))] w fun e w' => e = .returned (.string ⟨(45 :: Lib.decDigits m).toArray⟩) ∧ Below w.heap.size w w' := by
  have q0 : (-(m : Int) == 0) = false := beq_eq_false_iff_ne.2 (by omega)
  have q1 : decide (-(m : Int) < 0) = true := decide_eq_true (by omega)
  have HS := Lib.hid (TextRow.start w m hz (by omega) 87)
  go_enter Tryd.func17, Tryd.ntmps17
  go_wp2
  clear q0 q1
  go_loopw [0, 4] (fun vn va wr => ∃ (x a : Nat) (tail : List UInt8), vn = .int .i32 (-(x : Int)) ∧ va = .int .i64 (a : Int) ∧ x ≤ 2147483648 ∧ Hid (TextRow w wr m x a tail))
    (fun p _ _ => (intOf p).natAbs)
  case atStart => exact ⟨m, 20, [], rfl, rfl, hm, HS⟩
  case round =>
    obtain ⟨x, a, tail, rfl, rfl, hxm, HT⟩ := hrel
    clear HS
    by_cases hx0 : x = 0
    · subst hx0
      have ha0 : a < 20 := by have := HT.out.reads.2.1; have := Lib.nDigits_pos m; have := Lib.decDigits_length m; omega
      have hcv := HT.out.reads.2.2.2
      have hmn := text_minus m HT.out.reads.2.2.1
      have hml := HT.out.reads.2.2.1
      have hm1 : decide (0 < m) = true := decide_eq_true (by omega)
      have hsl := text_slice w.heap.size a ha0
      go_wp2
      go_ret
      exact ⟨by simp, HT.out.below⟩
    · have hx1 : ((-(x : Int)) != 0) = true := bne_iff_ne.2 (by omega)
      obtain ⟨b, rfl, hb⟩ := HT.out.pos hx0
      have hw1 : wrap64 (((b + 1 : Nat) : Int) - 1) = (b : Int) := by unfold wrap64; omega
      obtain ⟨c, hc⟩ := (HT.out.old b hb).1
      have hf := (HT.out.old b hb).2
      have HN := Lib.hid (HT.out.step hx0)
      have hx10 : 0 ≤ (x : Int) % 10 ∧ (x : Int) % 10 ≤ 9 := by omega
      have hm1 : decide (0 < m) = true := decide_eq_true (by omega)
      clear HT
      go_wp2
      go_roundw
      case rel => exact ⟨x / 10, b, _, by first | rfl | go_num, by first | rfl | go_num, by omega, HN⟩
      case measure =>
        simp only [intOf]
        omega
theorem text_zero_int32 (w : World) : Calls Tryd.prog 17 #[.int .i32 0] w fun e w' => e = .returned (.string ⟨#[48]⟩) ∧ Below w.heap.size w w' := by
  go_enter Tryd.func17, Tryd.ntmps17
  go_wp2
  go_ret
  exact ⟨rfl, Below.refl _ _⟩
def whole_Text_int32.f (a0 : Int) : Option ByteArray := if -2147483648 ≤ a0 ∧ a0 ≤ 2147483647 then some ⟨(Lib.itoa a0).toArray⟩ else none
theorem whole_Text_int32.calls (a0 : Int) (r : ByteArray) (w : World) (h : whole_Text_int32.f a0 = some r) :
    Calls Tryd.prog 17 #[.int .i32 a0] w fun e w' => e = .returned (.string r) ∧ Below w.heap.size w w' := by
  unfold whole_Text_int32.f at h
  split at h
  · rename_i hr
    obtain rfl := Option.some.inj h
    by_cases hz : a0 = 0
    · subst hz
      rw [show Lib.itoa 0 = [48] from by unfold Lib.itoa; rw [if_neg (by decide), Lib.decDigits, dif_pos (by decide)]; rfl]
      exact text_zero_int32 w
    · by_cases hn : a0 < 0
      · obtain ⟨m, rfl⟩ : ∃ m : Nat, a0 = -(m : Int) := ⟨a0.natAbs, by omega⟩
        rw [Lib.itoa_neg m (by omega)]
        exact text_neg_int32 m (by omega) (by omega) w
      · obtain ⟨m, rfl⟩ : ∃ m : Nat, a0 = (m : Int) := ⟨a0.toNat, by omega⟩
        rw [Lib.itoa_nonneg]
        exact text_pos_int32 m (by omega) (by omega) w
  · cases h
set_option maxRecDepth 100000 in
set_option maxHeartbeats 1000000 in
theorem text_pos_int16 (m : Nat) (hz : m ≠ 0) (hm : m ≤ 32767) (w : World) :
    Calls Tryd.prog 16 #[.int .i16 (m : Int)] w fun e w' => e = .returned (.string ⟨(Lib.decDigits m).toArray⟩) ∧ Below w.heap.size w w' := by
  have q0 : ((m : Int) == 0) = false := beq_eq_false_iff_ne.2 (by omega)
  have q1 : decide ((m : Int) < 0) = false := decide_eq_false (by omega)
  have HS := Lib.hid (TextRow.start w m hz (by omega) 87)
  go_enter Tryd.func16, Tryd.ntmps16
  go_wp2
  clear q0 q1
  go_loopw [0, 4] (fun vn va wr => ∃ (x a : Nat) (tail : List UInt8), vn = .int .i16 (x : Int) ∧ va = .int .i64 (a : Int) ∧ x ≤ 32767 ∧ Hid (TextRow w wr m x a tail))
    (fun p _ _ => (intOf p).natAbs)
  case atStart => exact ⟨m, 20, [], rfl, rfl, hm, HS⟩
  case round =>
    obtain ⟨x, a, tail, rfl, rfl, hxm, HT⟩ := hrel
    clear HS
    by_cases hx0 : x = 0
    · subst hx0
      have ha0 : a < 20 := by have := HT.out.reads.2.1; have := Lib.nDigits_pos m; have := Lib.decDigits_length m; omega
      have hcv := HT.out.reads.2.2.2
      have hsl := text_slice w.heap.size a ha0
      go_wp2
      go_ret
      exact ⟨rfl, HT.out.below⟩
    · have hx1 : ((x : Int) != 0) = true := bne_iff_ne.2 (by omega)
      obtain ⟨b, rfl, hb⟩ := HT.out.pos hx0
      have hw1 : wrap64 (((b + 1 : Nat) : Int) - 1) = (b : Int) := by unfold wrap64; omega
      obtain ⟨c, hc⟩ := (HT.out.old b hb).1
      have hf := (HT.out.old b hb).2
      have HN := Lib.hid (HT.out.step hx0)
      have hx10 : 0 ≤ (x : Int) % 10 ∧ (x : Int) % 10 ≤ 9 := by omega
      clear HT
      go_wp2
      go_roundw
      case rel => exact ⟨x / 10, b, _, by first | rfl | go_num, by first | rfl | go_num, by omega, HN⟩
      case measure =>
        simp only [intOf]
        omega
set_option maxRecDepth 100000 in
set_option maxHeartbeats 1000000 in
theorem text_neg_int16 (m : Nat) (hz : m ≠ 0) (hm : m ≤ 32768) (w : World) :
    Calls Tryd.prog 16 #[.int .i16 (-(m : Int))] w fun e w' => e = .returned (.string ⟨(45 :: Lib.decDigits m).toArray⟩) ∧ Below w.heap.size w w' := by
  have q0 : (-(m : Int) == 0) = false := beq_eq_false_iff_ne.2 (by omega)
  have q1 : decide (-(m : Int) < 0) = true := decide_eq_true (by omega)
  have HS := Lib.hid (TextRow.start w m hz (by omega) 87)
  go_enter Tryd.func16, Tryd.ntmps16
  go_wp2
  clear q0 q1
  go_loopw [0, 4] (fun vn va wr => ∃ (x a : Nat) (tail : List UInt8), vn = .int .i16 (-(x : Int)) ∧ va = .int .i64 (a : Int) ∧ x ≤ 32768 ∧ Hid (TextRow w wr m x a tail))
    (fun p _ _ => (intOf p).natAbs)
  case atStart => exact ⟨m, 20, [], rfl, rfl, hm, HS⟩
  case round =>
    obtain ⟨x, a, tail, rfl, rfl, hxm, HT⟩ := hrel
    clear HS
    by_cases hx0 : x = 0
    · subst hx0
      have ha0 : a < 20 := by have := HT.out.reads.2.1; have := Lib.nDigits_pos m; have := Lib.decDigits_length m; omega
      have hcv := HT.out.reads.2.2.2
      have hmn := text_minus m HT.out.reads.2.2.1
      have hml := HT.out.reads.2.2.1
      have hm1 : decide (0 < m) = true := decide_eq_true (by omega)
      have hsl := text_slice w.heap.size a ha0
      go_wp2
      go_ret
      exact ⟨by simp, HT.out.below⟩
    · have hx1 : ((-(x : Int)) != 0) = true := bne_iff_ne.2 (by omega)
      obtain ⟨b, rfl, hb⟩ := HT.out.pos hx0
      have hw1 : wrap64 (((b + 1 : Nat) : Int) - 1) = (b : Int) := by unfold wrap64; omega
      obtain ⟨c, hc⟩ := (HT.out.old b hb).1
      have hf := (HT.out.old b hb).2
      have HN := Lib.hid (HT.out.step hx0)
      have hx10 : 0 ≤ (x : Int) % 10 ∧ (x : Int) % 10 ≤ 9 := by omega
      have hm1 : decide (0 < m) = true := decide_eq_true (by omega)
      clear HT
      go_wp2
      go_roundw
      case rel => exact ⟨x / 10, b, _, by first | rfl | go_num, by first | rfl | go_num, by omega, HN⟩
      case measure =>
        simp only [intOf]
        omega
theorem text_zero_int16 (w : World) : Calls Tryd.prog 16 #[.int .i16 0] w fun e w' => e = .returned (.string ⟨#[48]⟩) ∧ Below w.heap.size w w' := by
  go_enter Tryd.func16, Tryd.ntmps16
  go_wp2
  go_ret
  exact ⟨rfl, Below.refl _ _⟩
def whole_Text_int16.f (a0 : Int) : Option ByteArray := if -32768 ≤ a0 ∧ a0 ≤ 32767 then some ⟨(Lib.itoa a0).toArray⟩ else none
theorem whole_Text_int16.calls (a0 : Int) (r : ByteArray) (w : World) (h : whole_Text_int16.f a0 = some r) :
    Calls Tryd.prog 16 #[.int .i16 a0] w fun e w' => e = .returned (.string r) ∧ Below w.heap.size w w' := by
  unfold whole_Text_int16.f at h
  split at h
  · rename_i hr
    obtain rfl := Option.some.inj h
    by_cases hz : a0 = 0
    · subst hz
      rw [show Lib.itoa 0 = [48] from by unfold Lib.itoa; rw [if_neg (by decide), Lib.decDigits, dif_pos (by decide)]; rfl]
      exact text_zero_int16 w
    · by_cases hn : a0 < 0
      · obtain ⟨m, rfl⟩ : ∃ m : Nat, a0 = -(m : Int) := ⟨a0.natAbs, by omega⟩
        rw [Lib.itoa_neg m (by omega)]
        exact text_neg_int16 m (by omega) (by omega) w
      · obtain ⟨m, rfl⟩ : ∃ m : Nat, a0 = (m : Int) := ⟨a0.toNat, by omega⟩
        rw [Lib.itoa_nonneg]
        exact text_pos_int16 m (by omega) (by omega) w
  · cases h
set_option maxRecDepth 100000 in
set_option maxHeartbeats 1000000 in
theorem text_pos_int8 (m : Nat) (hz : m ≠ 0) (hm : m ≤ 127) (w : World) :
    Calls Tryd.prog 15 #[.int .i8 (m : Int)] w fun e w' => e = .returned (.string ⟨(Lib.decDigits m).toArray⟩) ∧ Below w.heap.size w w' := by
  have q0 : ((m : Int) == 0) = false := beq_eq_false_iff_ne.2 (by omega)
  have q1 : decide ((m : Int) < 0) = false := decide_eq_false (by omega)
  have HS := Lib.hid (TextRow.start w m hz (by omega) 87)
  go_enter Tryd.func15, Tryd.ntmps15
  go_wp2
  clear q0 q1
  go_loopw [0, 4] (fun vn va wr => ∃ (x a : Nat) (tail : List UInt8), vn = .int .i8 (x : Int) ∧ va = .int .i64 (a : Int) ∧ x ≤ 127 ∧ Hid (TextRow w wr m x a tail))
    (fun p _ _ => (intOf p).natAbs)
  case atStart => exact ⟨m, 20, [], rfl, rfl, hm, HS⟩
  case round =>
    obtain ⟨x, a, tail, rfl, rfl, hxm, HT⟩ := hrel
    clear HS
    by_cases hx0 : x = 0
    · subst hx0
      have ha0 : a < 20 := by have := HT.out.reads.2.1; have := Lib.nDigits_pos m; have := Lib.decDigits_length m; omega
      have hcv := HT.out.reads.2.2.2
      have hsl := text_slice w.heap.size a ha0
      go_wp2
      go_ret
      exact ⟨rfl, HT.out.below⟩
    · have hx1 : ((x : Int) != 0) = true := bne_iff_ne.2 (by omega)
      obtain ⟨b, rfl, hb⟩ := HT.out.pos hx0
      have hw1 : wrap64 (((b + 1 : Nat) : Int) - 1) = (b : Int) := by unfold wrap64; omega
      obtain ⟨c, hc⟩ := (HT.out.old b hb).1
      have hf := (HT.out.old b hb).2
      have HN := Lib.hid (HT.out.step hx0)
      have hx10 : 0 ≤ (x : Int) % 10 ∧ (x : Int) % 10 ≤ 9 := by omega
      clear HT
      go_wp2
      go_roundw
      case rel => exact ⟨x / 10, b, _, by first | rfl | go_num, by first | rfl | go_num, by omega, HN⟩
      case measure =>
        simp only [intOf]
        omega
set_option maxRecDepth 100000 in
set_option maxHeartbeats 1000000 in
theorem text_neg_int8 (m : Nat) (hz : m ≠ 0) (hm : m ≤ 128) (w : World) :
    Calls Tryd.prog 15 #[.int .i8 (-(m : Int))] w fun e w' => e = .returned (.string ⟨(45 :: Lib.decDigits m).toArray⟩) ∧ Below w.heap.size w w' := by
  have q0 : (-(m : Int) == 0) = false := beq_eq_false_iff_ne.2 (by omega)
  have q1 : decide (-(m : Int) < 0) = true := decide_eq_true (by omega)
  have HS := Lib.hid (TextRow.start w m hz (by omega) 87)
  go_enter Tryd.func15, Tryd.ntmps15
  go_wp2
  clear q0 q1
  go_loopw [0, 4] (fun vn va wr => ∃ (x a : Nat) (tail : List UInt8), vn = .int .i8 (-(x : Int)) ∧ va = .int .i64 (a : Int) ∧ x ≤ 128 ∧ Hid (TextRow w wr m x a tail))
    (fun p _ _ => (intOf p).natAbs)
  case atStart => exact ⟨m, 20, [], rfl, rfl, hm, HS⟩
  case round =>
    obtain ⟨x, a, tail, rfl, rfl, hxm, HT⟩ := hrel
    clear HS
    by_cases hx0 : x = 0
    · subst hx0
      have ha0 : a < 20 := by have := HT.out.reads.2.1; have := Lib.nDigits_pos m; have := Lib.decDigits_length m; omega
      have hcv := HT.out.reads.2.2.2
      have hmn := text_minus m HT.out.reads.2.2.1
      have hml := HT.out.reads.2.2.1
      have hm1 : decide (0 < m) = true := decide_eq_true (by omega)
      have hsl := text_slice w.heap.size a ha0
      go_wp2
      go_ret
      exact ⟨by simp, HT.out.below⟩
    · have hx1 : ((-(x : Int)) != 0) = true := bne_iff_ne.2 (by omega)
      obtain ⟨b, rfl, hb⟩ := HT.out.pos hx0
      have hw1 : wrap64 (((b + 1 : Nat) : Int) - 1) = (b : Int) := by unfold wrap64; omega
      obtain ⟨c, hc⟩ := (HT.out.old b hb).1
      have hf := (HT.out.old b hb).2
      have HN := Lib.hid (HT.out.step hx0)
      have hx10 : 0 ≤ (x : Int) % 10 ∧ (x : Int) % 10 ≤ 9 := by omega
      have hm1 : decide (0 < m) = true := decide_eq_true (by omega)
      clear HT
      go_wp2
      go_roundw
      case rel => exact ⟨x / 10, b, _, by first | rfl | go_num, by first | rfl | go_num, by omega, HN⟩
      case measure =>
        simp only [intOf]
        omega
theorem text_zero_int8 (w : World) : Calls Tryd.prog 15 #[.int .i8 0] w fun e w' => e = .returned (.string ⟨#[48]⟩) ∧ Below w.heap.size w w' := by
  go_enter Tryd.func15, Tryd.ntmps15
  go_wp2
  go_ret
  exact ⟨rfl, Below.refl _ _⟩
def whole_Text_int8.f (a0 : Int) : Option ByteArray := if -128 ≤ a0 ∧ a0 ≤ 127 then some ⟨(Lib.itoa a0).toArray⟩ else none
theorem whole_Text_int8.calls (a0 : Int) (r : ByteArray) (w : World) (h : whole_Text_int8.f a0 = some r) :
    Calls Tryd.prog 15 #[.int .i8 a0] w fun e w' => e = .returned (.string r) ∧ Below w.heap.size w w' := by
  unfold whole_Text_int8.f at h
  split at h
  · rename_i hr
    obtain rfl := Option.some.inj h
    by_cases hz : a0 = 0
    · subst hz
      rw [show Lib.itoa 0 = [48] from by unfold Lib.itoa; rw [if_neg (by decide), Lib.decDigits, dif_pos (by decide)]; rfl]
      exact text_zero_int8 w
    · by_cases hn : a0 < 0
      · obtain ⟨m, rfl⟩ : ∃ m : Nat, a0 = -(m : Int) := ⟨a0.natAbs, by omega⟩
        rw [Lib.itoa_neg m (by omega)]
        exact text_neg_int8 m (by omega) (by omega) w
      · obtain ⟨m, rfl⟩ : ∃ m : Nat, a0 = (m : Int) := ⟨a0.toNat, by omega⟩
        rw [Lib.itoa_nonneg]
        exact text_pos_int8 m (by omega) (by omega) w
  · cases h
set_option maxRecDepth 100000 in
set_option maxHeartbeats 1000000 in
theorem text_pos_Small (m : Nat) (hz : m ≠ 0) (hm : m ≤ 127) (w : World) :
    Calls Tryd.prog 18 #[.int .i8 (m : Int)] w fun e w' => e = .returned (.string ⟨(Lib.decDigits m).toArray⟩) ∧ Below w.heap.size w w' := by
  have q0 : ((m : Int) == 0) = false := beq_eq_false_iff_ne.2 (by omega)
  have q1 : decide ((m : Int) < 0) = false := decide_eq_false (by omega)
  have HS := Lib.hid (TextRow.start w m hz (by omega) 87)
  go_enter Tryd.func18, Tryd.ntmps18
  go_wp2
  clear q0 q1
  go_loopw [0, 4] (fun vn va wr => ∃ (x a : Nat) (tail : List UInt8), vn = .int .i8 (x : Int) ∧ va = .int .i64 (a : Int) ∧ x ≤ 127 ∧ Hid (TextRow w wr m x a tail))
    (fun p _ _ => (intOf p).natAbs)
  case atStart => exact ⟨m, 20, [], rfl, rfl, hm, HS⟩
  case round =>
    obtain ⟨x, a, tail, rfl, rfl, hxm, HT⟩ := hrel
    clear HS
    by_cases hx0 : x = 0
    · subst hx0
      have ha0 : a < 20 := by have := HT.out.reads.2.1; have := Lib.nDigits_pos m; have := Lib.decDigits_length m; omega
      have hcv := HT.out.reads.2.2.2
      have hsl := text_slice w.heap.size a ha0
      go_wp2
      go_ret
      exact ⟨rfl, HT.out.below⟩
    · have hx1 : ((x : Int) != 0) = true := bne_iff_ne.2 (by omega)
      obtain ⟨b, rfl, hb⟩ := HT.out.pos hx0
      have hw1 : wrap64 (((b + 1 : Nat) : Int) - 1) = (b : Int) := by unfold wrap64; omega
      obtain ⟨c, hc⟩ := (HT.out.old b hb).1
      have hf := (HT.out.old b hb).2
      have HN := Lib.hid (HT.out.step hx0)
      have hx10 : 0 ≤ (x : Int) % 10 ∧ (x : Int) % 10 ≤ 9 := by omega
      clear HT
      go_wp2
      go_roundw
      case rel => exact ⟨x / 10, b, _, by first | rfl | go_num, by first | rfl | go_num, by omega, HN⟩
      case measure =>
        simp only [intOf]
        omega
set_option maxRecDepth 100000 in
set_option maxHeartbeats 1000000 in
theorem text_neg_Small (m : Nat) (hz : m ≠ 0) (hm : m ≤ 128) (w : World) :
    Calls Tryd.prog 18 #[.int .i8 (-(m : Int))] w fun e w' => e = .returned (.string ⟨(45 :: Lib.decDigits m).toArray⟩) ∧ Below w.heap.size w w' := by
  have q0 : (-(m : Int) == 0) = false := beq_eq_false_iff_ne.2 (by omega)
  have q1 : decide (-(m : Int) < 0) = true := decide_eq_true (by omega)
  have HS := Lib.hid (TextRow.start w m hz (by omega) 87)
  go_enter Tryd.func18, Tryd.ntmps18
  go_wp2
  clear q0 q1
  go_loopw [0, 4] (fun vn va wr => ∃ (x a : Nat) (tail : List UInt8), vn = .int .i8 (-(x : Int)) ∧ va = .int .i64 (a : Int) ∧ x ≤ 128 ∧ Hid (TextRow w wr m x a tail))
    (fun p _ _ => (intOf p).natAbs)
  case atStart => exact ⟨m, 20, [], rfl, rfl, hm, HS⟩
  case round =>
    obtain ⟨x, a, tail, rfl, rfl, hxm, HT⟩ := hrel
    clear HS
    by_cases hx0 : x = 0
    · subst hx0
      have ha0 : a < 20 := by have := HT.out.reads.2.1; have := Lib.nDigits_pos m; have := Lib.decDigits_length m; omega
      have hcv := HT.out.reads.2.2.2
      have hmn := text_minus m HT.out.reads.2.2.1
      have hml := HT.out.reads.2.2.1
      have hm1 : decide (0 < m) = true := decide_eq_true (by omega)
      have hsl := text_slice w.heap.size a ha0
      go_wp2
      go_ret
      exact ⟨by simp, HT.out.below⟩
    · have hx1 : ((-(x : Int)) != 0) = true := bne_iff_ne.2 (by omega)
      obtain ⟨b, rfl, hb⟩ := HT.out.pos hx0
      have hw1 : wrap64 (((b + 1 : Nat) : Int) - 1) = (b : Int) := by unfold wrap64; omega
      obtain ⟨c, hc⟩ := (HT.out.old b hb).1
      have hf := (HT.out.old b hb).2
      have HN := Lib.hid (HT.out.step hx0)
      have hx10 : 0 ≤ (x : Int) % 10 ∧ (x : Int) % 10 ≤ 9 := by omega
      have hm1 : decide (0 < m) = true := decide_eq_true (by omega)
      clear HT
      go_wp2
      go_roundw
      case rel => exact ⟨x / 10, b, _, by first | rfl | go_num, by first | rfl | go_num, by omega, HN⟩
      case measure =>
        simp only [intOf]
        omega
theorem text_zero_Small (w : World) : Calls Tryd.prog 18 #[.int .i8 0] w fun e w' => e = .returned (.string ⟨#[48]⟩) ∧ Below w.heap.size w w' := by
  go_enter Tryd.func18, Tryd.ntmps18
  go_wp2
  go_ret
  exact ⟨rfl, Below.refl _ _⟩
def whole_Text_Small.f (a0 : Int) : Option ByteArray := if -128 ≤ a0 ∧ a0 ≤ 127 then some ⟨(Lib.itoa a0).toArray⟩ else none
theorem whole_Text_Small.calls (a0 : Int) (r : ByteArray) (w : World) (h : whole_Text_Small.f a0 = some r) :
    Calls Tryd.prog 18 #[.int .i8 a0] w fun e w' => e = .returned (.string r) ∧ Below w.heap.size w w' := by
  unfold whole_Text_Small.f at h
  split at h
  · rename_i hr
    obtain rfl := Option.some.inj h
    by_cases hz : a0 = 0
    · subst hz
      rw [show Lib.itoa 0 = [48] from by unfold Lib.itoa; rw [if_neg (by decide), Lib.decDigits, dif_pos (by decide)]; rfl]
      exact text_zero_Small w
    · by_cases hn : a0 < 0
      · obtain ⟨m, rfl⟩ : ∃ m : Nat, a0 = -(m : Int) := ⟨a0.natAbs, by omega⟩
        rw [Lib.itoa_neg m (by omega)]
        exact text_neg_Small m (by omega) (by omega) w
      · obtain ⟨m, rfl⟩ : ∃ m : Nat, a0 = (m : Int) := ⟨a0.toNat, by omega⟩
        rw [Lib.itoa_nonneg]
        exact text_pos_Small m (by omega) (by omega) w
  · cases h
end Go.Proofs.YtkjmbibnfohkjaaDoor
