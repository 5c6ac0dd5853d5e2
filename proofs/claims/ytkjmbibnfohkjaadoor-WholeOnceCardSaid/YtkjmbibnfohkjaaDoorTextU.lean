/- whole.Text of some types: for every number its decimal text. Printed by gentext.py. -/
import Derived.Test.YtkjmbibnfohkjaaDoorTextRow
import Derived.LoopTactic
import Derived.RegionTactic
import Derived.Deep.LoopGhost
import Derived.IntWalk
namespace Go.Proofs.YtkjmbibnfohkjaaDoor
open Go.RowKit Go.Shelf
set_option linter.unusedVariables false
set_option maxRecDepth 100000 in
set_option maxHeartbeats 1000000 in
theorem text_pos_uint64 (m : Nat) (hz : m ≠ 0) (hm : m ≤ 18446744073709551615) (w : World) :
    Calls Tryd.prog 12 #[.int .u64 (m : Int)] w fun e w' => e = .returned (.string ⟨(Lib.decDigits m).toArray⟩) ∧ Below w.heap.size w w' := by
  have q0 : ((m : Int) == 0) = false := beq_eq_false_iff_ne.2 (by omega)
  have q1 : decide ((m : Int) < 0) = false := decide_eq_false (by omega)
  have HS := Lib.hid (TextRow.start w m hz (by omega) 87)
  go_enter Tryd.func12, Tryd.ntmps12
  go_wp2
  clear q0 q1
  go_loopw [0, 4] (fun vn va wr => ∃ (x a : Nat) (tail : List UInt8), vn = .int .u64 (x : Int) ∧ va = .int .i64 (a : Int) ∧ x ≤ 18446744073709551615 ∧ Hid (TextRow w wr m x a tail))
    (fun p _ _ => (intOf p).natAbs)
  case atStart => exact ⟨m, 20, [], rfl, rfl, hm, HS⟩
  case round =>
    obtain ⟨x, a, tail, rfl, rfl, hxm, HT⟩ := hrel
    clear HS
    by_cases hx0 : x = 0
    · subst hx0
      have ha0 : a < 20 := by have := HT.out.reads.2.1; have := Lib.nDigits_pos m; have := Lib.decDigits_length m; omega
      have hcv := HT.out.reads.2.2.2
      have hsl := text_slice w.heap.size a ha0
      go_wp2
      go_ret
      exact ⟨rfl, HT.out.below⟩
    · have hx1 : ((x : Int) != 0) = true := bne_iff_ne.2 (by omega)
      obtain ⟨b, rfl, hb⟩ := HT.out.pos hx0
      have hw1 : wrap64 (((b + 1 : Nat) : Int) - 1) = (b : Int) := by unfold wrap64; omega
      obtain ⟨c, hc⟩ := (HT.out.old b hb).1
      have hf := (HT.out.old b hb).2
      have HN := Lib.hid (HT.out.step hx0)
      have hx10 : 0 ≤ (x : Int) % 10 ∧ (x : Int) % 10 ≤ 9 := by omega
      clear HT
      go_wp2
      go_roundw
      case rel => exact ⟨x / 10, b, _, by first | rfl | go_num, by first | rfl | go_num, by omega, HN⟩
      case measure =>
        simp only [intOf]
        omega
theorem text_zero_uint64 (w : World) : Calls Tryd.prog 12 #[.int .u64 0] w fun e w' => e = .returned (.string ⟨#[48]⟩) ∧ Below w.heap.size w w' := by
  go_enter Tryd.func12, Tryd.ntmps12
  go_wp2
  go_ret
  exact ⟨rfl, Below.refl _ _⟩
def whole_Text_uint64.f (a0 : Int) : Option ByteArray := if 0 ≤ a0 ∧ a0 ≤ 18446744073709551615 then some ⟨(Lib.itoa a0).toArray⟩ else none
theorem whole_Text_uint64.calls (a0 : Int) (r : ByteArray) (w : World) (h : whole_Text_uint64.f a0 = some r) :
    Calls Tryd.prog 12 #[.int .u64 a0] w fun e w' => e = .returned (.string r) ∧ Below w.heap.size w w' := by
  unfold whole_Text_uint64.f at h
  split at h
  · rename_i hr
    obtain rfl := Option.some.inj h
    by_cases hz : a0 = 0
    · subst hz
      rw [show Lib.itoa 0 = [48] from by unfold Lib.itoa; rw [if_neg (by decide), Lib.decDigits, dif_pos (by decide)]; rfl]
      exact text_zero_uint64 w
    · obtain ⟨m, rfl⟩ : ∃ m : Nat, a0 = (m : Int) := ⟨a0.toNat, by omega⟩
      rw [Lib.itoa_nonneg]
      exact text_pos_uint64 m (by omega) (by omega) w
  · cases h
set_option maxRecDepth 100000 in
set_option maxHeartbeats 1000000 in
theorem text_pos_uint (m : Nat) (hz : m ≠ 0) (hm : m ≤ 18446744073709551615) (w : World) :
    Calls Tryd.prog 14 #[.int .u64 (m : Int)] w fun e w' => e = .returned (.string ⟨(Lib.decDigits m).toArray⟩) ∧ Below w.heap.size w w' := by
  have q0 : ((m : Int) == 0) = false := beq_eq_false_iff_ne.2 (by omega)
  have q1 : decide ((m : Int) < 0) = false := decide_eq_false (by omega)
  have HS := Lib.hid (TextRow.start w m hz (by omega) 87)
  go_enter Tryd.func14, Tryd.ntmps14
  go_wp2
  clear q0 q1
  go_loopw [0, 4] (fun vn va wr => ∃ (x a : Nat) (tail : List UInt8), vn = .int .u64 (x : Int) ∧ va = .int .i64 (a : Int) ∧ x ≤ 18446744073709551615 ∧ Hid (TextRow w wr m x a tail))
    (fun p _ _ => (intOf p).natAbs)
  case atStart => exact ⟨m, 20, [], rfl, rfl, hm, HS⟩
  case round =>
    obtain ⟨x, a, tail, rfl, rfl, hxm, HT⟩ := hrel
    clear HS
    by_cases hx0 : x = 0
    · subst hx0
      have ha0 : a < 20 := by have := HT.out.reads.2.1; have := Lib.nDigits_pos m; have := Lib.decDigits_length m; omega
      have hcv := HT.out.reads.2.2.2
      have hsl := text_slice w.heap.size a ha0
      go_wp2
      go_ret
      exact ⟨rfl, HT.out.below⟩
    · have hx1 : ((x : Int) != 0) = true := bne_iff_ne.2 (by omega)
      obtain ⟨b, rfl, hb⟩ := HT.out.pos hx0
      have hw1 : wrap64 (((b + 1 : Nat) : Int) - 1) = (b : Int) := by unfold wrap64; omega
      obtain ⟨c, hc⟩ := (HT.out.old b hb).1
      have hf := (HT.out.old b hb).2
      have HN := Lib.hid (HT.out.step hx0)
      have hx10 : 0 ≤ (x : Int) % 10 ∧ (x : Int) % 10 ≤ 9 := by omega
      clear HT
      go_wp2
      go_roundw
      case rel => exact ⟨x / 10, b, _, by first | rfl | go_num, by first | rfl | go_num, by omega, HN⟩
      case measure =>
        simp only [intOf]
        omega
theorem text_zero_uint (w : World) : Calls Tryd.prog 14 #[.int .u64 0] w fun e w' => e = .returned (.string ⟨#[48]⟩) ∧ Below w.heap.size w w' := by
  go_enter Tryd.func14, Tryd.ntmps14
  go_wp2
  go_ret
  exact ⟨rfl, Below.refl _ _⟩
def whole_Text_uint.f (a0 : Int) : Option ByteArray := if 0 ≤ a0 ∧ a0 ≤ 18446744073709551615 then some ⟨(Lib.itoa a0).toArray⟩ else none
theorem whole_Text_uint.calls (a0 : Int) (r : ByteArray) (w : World) (h : whole_Text_uint.f a0 = some r) :
    Calls Tryd.prog 14 #[.int .u64 a0] w fun e w' => e = .returned (.string r) ∧ Below w.heap.size w w' := by
  unfold whole_Text_uint.f at h
  split at h
  · rename_i hr
    obtain rfl := Option.some.inj h
    by_cases hz : a0 = 0
    · subst hz
      rw [show Lib.itoa 0 = [48] from by unfold Lib.itoa; rw [if_neg (by decide), Lib.decDigits, dif_pos (by decide)]; rfl]
      exact text_zero_uint w
    · obtain ⟨m, rfl⟩ : ∃ m : Nat, a0 = (m : Int) := ⟨a0.toNat, by omega⟩
      rw [Lib.itoa_nonneg]
      exact text_pos_uint m (by omega) (by omega) w
  · cases h
set_option maxRecDepth 100000 in
set_option maxHeartbeats 1000000 in
theorem text_pos_Long (m : Nat) (hz : m ≠ 0) (hm : m ≤ 18446744073709551615) (w : World) :
    Calls Tryd.prog 22 #[.int .u64 (m : Int)] w fun e w' => e = .returned (.string ⟨(Lib.decDigits m).toArray⟩) ∧ Below w.heap.size w w' := by
  have q0 : ((m : Int) == 0) = false := beq_eq_false_iff_ne.2 (by omega)
  have q1 : decide ((m : Int) < 0) = false := decide_eq_false (by omega)
  have HS := Lib.hid (TextRow.start w m hz (by omega) 87)
  go_enter Tryd.func22, Tryd.ntmps22
  go_wp2
  clear q0 q1
  go_loopw [0, 4] (fun vn va wr => ∃ (x a : Nat) (tail : List UInt8), vn = .int .u64 (x : Int) ∧ va = .int .i64 (a : Int) ∧ x ≤ 18446744073709551615 ∧ Hid (TextRow w wr m x a tail))
    (fun p _ _ => (intOf p).natAbs)
  case atStart => exact ⟨m, 20, [], rfl, rfl, hm, HS⟩
  case round =>
    obtain ⟨x, a, tail, rfl, rfl, hxm, HT⟩ := hrel
    clear HS
    by_cases hx0 : x = 0
    · subst hx0
      have ha0 : a < 20 := by have := HT.out.reads.2.1; have := Lib.nDigits_pos m; have := Lib.decDigits_length m; omega
      have hcv := HT.out.reads.2.2.2
      have hsl := text_slice w.heap.size a ha0
      go_wp2
      go_ret
      exact ⟨rfl, HT.out.below⟩
    · have hx1 : ((x : Int) != 0) = true := bne_iff_ne.2 (by omega)
      obtain ⟨b, rfl, hb⟩ := HT.out.pos hx0
      have hw1 : wrap64 (((b + 1 : Nat) : Int) - 1) = (b : Int) := by unfold wrap64; omega
      obtain ⟨c, hc⟩ := (HT.out.old b hb).1
      have hf := (HT.out.old b hb).2
      have HN := Lib.hid (HT.out.step hx0)
      have hx10 : 0 ≤ (x : Int) % 10 ∧ (x : Int) % 10 ≤ 9 := by omega
      clear HT
      go_wp2
      go_roundw
      case rel => exact ⟨x / 10, b, _, by first | rfl | go_num, by first | rfl | go_num, by omega, HN⟩
      case measure =>
        simp only [intOf]
        omega
theorem text_zero_Long (w : World) : Calls Tryd.prog 22 #[.int .u64 0] w fun e w' => e = .returned (.string ⟨#[48]⟩) ∧ Below w.heap.size w w' := by
  go_enter Tryd.func22, Tryd.ntmps22
  go_wp2
  go_ret
  exact ⟨rfl, Below.refl _ _⟩
def whole_Text_Long.f (a0 : Int) : Option ByteArray := if 0 ≤ a0 ∧ a0 ≤ 18446744073709551615 then some ⟨(Lib.itoa a0).toArray⟩ else none
theorem whole_Text_Long.calls (a0 : Int) (r : ByteArray) (w : World) (h : whole_Text_Long.f a0 = some r) :
    Calls Tryd.prog 22 #[.int .u64 a0] w fun e w' => e = .returned (.string r) ∧ Below w.heap.size w w' := by
  unfold whole_Text_Long.f at h
  split at h
  · rename_i hr
    obtain rfl := Option.some.inj h
    by_cases hz : a0 = 0
    · subst hz
      rw [show Lib.itoa 0 = [48] from by unfold Lib.itoa; rw [if_neg (by decide), Lib.decDigits, dif_pos (by decide)]; rfl]
      exact text_zero_Long w
    · obtain ⟨m, rfl⟩ : ∃ m : Nat, a0 = (m : Int) := ⟨a0.toNat, by omega⟩
      rw [Lib.itoa_nonneg]
      exact text_pos_Long m (by omega) (by omega) w
  · cases h
set_option maxRecDepth 100000 in
set_option maxHeartbeats 1000000 in
theorem text_pos_uint32 (m : Nat) (hz : m ≠ 0) (hm : m ≤ 4294967295) (w : World) :
    Calls Tryd.prog 21 #[.int .u32 (m : Int)] w fun e w' => e = .returned (.string ⟨(Lib.decDigits m).toArray⟩) ∧ Below w.heap.size w w' := by
  have q0 : ((m : Int) == 0) = false := beq_eq_false_iff_ne.2 (by omega)
  have q1 : decide ((m : Int) < 0) = false := decide_eq_false (by omega)
  have HS := Lib.hid (TextRow.start w m hz (by omega) 87)
  go_enter Tryd.func21, Tryd.ntmps21
  go_wp2
  clear q0 q1
  go_loopw [0, 4] (fun vn va wr => ∃ (x a : Nat) (tail : List UInt8), vn = .int .u32 (x : Int) ∧ va = .int .i64 (a : Int) ∧ x ≤ 4294967295 ∧ Hid (TextRow w wr m x a tail))
    (fun p _ _ => (intOf p).natAbs)
  case atStart => exact ⟨m, 20, [], rfl, rfl, hm, HS⟩
  case round =>
    obtain ⟨x, a, tail, rfl, rfl, hxm, HT⟩ := hrel
    clear HS
    by_cases hx0 : x = 0
    · subst hx0
      have ha0 : a < 20 := by have := HT.out.reads.2.1; have := Lib.nDigits_pos m; have := Lib.decDigits_length m; omega
      have hcv := HT.out.reads.2.2.2
      have hsl := text_slice w.heap.size a ha0
      go_wp2
      go_ret
      exact ⟨rfl, HT.out.below⟩
    · have hx1 : ((x : Int) != 0) = true := bne_iff_ne.2 (by omega)
      obtain ⟨b, rfl, hb⟩ := HT.out.pos hx0
      have hw1 : wrap64 (((b + 1 : Nat) : Int) - 1) = (b : Int) := by unfold wrap64; omega
      obtain ⟨c, hc⟩ := (HT.out.old b hb).1
      have hf := (HT.out.old b hb).2
      have HN := Lib.hid (HT.out.step hx0)
      have hx10 : 0 ≤ (x : Int) % 10 ∧ (x : Int) % 10 ≤ 9 := by omega
      clear HT
      go_wp2
      go_roundw
      case rel => exact ⟨x / 10, b, _, by first | rfl | go_num, by first | rfl | go_num, by omega, HN⟩
      case measure =>
        simp only [intOf]
        omega
theorem text_zero_uint32 (w : World) : Calls Tryd.prog 21 #[.int .u32 0] w fun e w' => e = .returned (.string ⟨#[48]⟩) ∧ Below w.heap.size w w' := by
  go_enter Tryd.func21, Tryd.ntmps21
  go_wp2
  go_ret
  exact ⟨rfl, Below.refl _ _⟩
def whole_Text_uint32.f (a0 : Int) : Option ByteArray := if 0 ≤ a0 ∧ a0 ≤ 4294967295 then some ⟨(Lib.itoa a0).toArray⟩ else none
theorem whole_Text_uint32.calls (a0 : Int) (r : ByteArray) (w : World) (h : whole_Text_uint32.f a0 = some r) :
    Calls Tryd.prog 21 #[.int .u32 a0] w fun e w' => e = .returned (.string r) ∧ Below w.heap.size w w' := by
  unfold whole_Text_uint32.f at h
  split at h
  · rename_i hr
    obtain rfl := Option.some.inj h
    by_cases hz : a0 = 0
    · subst hz
      rw [show Lib.itoa 0 = [48] from by unfold Lib.itoa; rw [if_neg (by decide), Lib.decDigits, dif_pos (by decide)]; rfl]
      exact text_zero_uint32 w
    · obtain ⟨m, rfl⟩ : ∃ m : Nat, a0 = (m : Int) := ⟨a0.toNat, by omega⟩
      rw [Lib.itoa_nonneg]
      exact text_pos_uint32 m (by omega) (by omega) w
  · cases h
set_option maxRecDepth 100000 in
set_option maxHeartbeats 1000000 in
theorem text_pos_uint16 (m : Nat) (hz : m ≠ 0) (hm : m ≤ 65535) (w : World) :
    Calls Tryd.prog 20 #[.int .u16 (m : Int)] w fun e w' => e = .returned (.string ⟨(Lib.decDigits m).toArray⟩) ∧ Below w.heap.size w w' := by
  have q0 : ((m : Int) == 0) = false := beq_eq_false_iff_ne.2 (by omega)
  have q1 : decide ((m : Int) < 0) = false := decide_eq_false (by omega)
  have HS := Lib.hid (TextRow.start w m hz (by omega) 87)
  go_enter Tryd.func20, Tryd.ntmps20
  go_wp2
  clear q0 q1
  go_loopw [0, 4] (fun vn va wr => ∃ (x a : Nat) (tail : List UInt8), vn = .int .u16 (x : Int) ∧ va = .int .i64 (a : Int) ∧ x ≤ 65535 ∧ Hid (TextRow w wr m x a tail))
    (fun p _ _ => (intOf p).natAbs)
  case atStart => exact ⟨m, 20, [], rfl, rfl, hm, HS⟩
  case round =>
    obtain ⟨x, a, tail, rfl, rfl, hxm, HT⟩ := hrel
    clear HS
    by_cases hx0 : x = 0
    · subst hx0
      have ha0 : a < 20 := by have := HT.out.reads.2.1; have := Lib.nDigits_pos m; have := Lib.decDigits_length m; omega
      have hcv := HT.out.reads.2.2.2
      have hsl := text_slice w.heap.size a ha0
      go_wp2
      go_ret
      exact ⟨rfl, HT.out.below⟩
    · have hx1 : ((x : Int) != 0) = true := bne_iff_ne.2 (by omega)
      obtain ⟨b, rfl, hb⟩ := HT.out.pos hx0
      have hw1 : wrap64 (((b + 1 : Nat) : Int) - 1) = (b : Int) := by unfold wrap64; omega
      obtain ⟨c, hc⟩ := (HT.out.old b hb).1
      have hf := (HT.out.old b hb).2
      have HN := Lib.hid (HT.out.step hx0)
      have hx10 : 0 ≤ (x : Int) % 10 ∧ (x : Int) % 10 ≤ 9 := by omega
      clear HT
      go_wp2
      go_roundw
      case rel => exact ⟨x / 10, b, _, by first | rfl | go_num, by first | rfl | go_num, by omega, HN⟩
      case measure =>
        simp only [intOf]
        omega
theorem text_zero_uint16 (w : World) : Calls Tryd.prog 20 #[.int .u16 0] w fun e w' => e = .returned (.string ⟨#[48]⟩) ∧ Below w.heap.size w w' := by
  go_enter Tryd.func20, Tryd.ntmps20
  go_wp2
  go_ret
  exact ⟨rfl, Below.refl _ _⟩
def whole_Text_uint16.f (a0 : Int) : Option ByteArray := if 0 ≤ a0 ∧ a0 ≤ 65535 then some ⟨(Lib.itoa a0).toArray⟩ else none
theorem whole_Text_uint16.calls (a0 : Int) (r : ByteArray) (w : World) (h : whole_Text_uint16.f a0 = some r) :
    Calls Tryd.prog 20 #[.int .u16 a0] w fun e w' => e = .returned (.string r) ∧ Below w.heap.size w w' := by
  unfold whole_Text_uint16.f at h
  split at h
  · rename_i hr
    obtain rfl := Option.some.inj h
    by_cases hz : a0 = 0
    · subst hz
      rw [show Lib.itoa 0 = [48] from by unfold Lib.itoa; rw [if_neg (by decide), Lib.decDigits, dif_pos (by decide)]; rfl]
      exact text_zero_uint16 w
    · obtain ⟨m, rfl⟩ : ∃ m : Nat, a0 = (m : Int) := ⟨a0.toNat, by omega⟩
      rw [Lib.itoa_nonneg]
      exact text_pos_uint16 m (by omega) (by omega) w
  · cases h
set_option maxRecDepth 100000 in
set_option maxHeartbeats 1000000 in
theorem text_pos_uint8 (m : Nat) (hz : m ≠ 0) (hm : m ≤ 255) (w : World) :
    Calls Tryd.prog 19 #[.int .u8 (m : Int)] w fun e w' => e = .returned (.string ⟨(Lib.decDigits m).toArray⟩) ∧ Below w.heap.size w w' := by
  have q0 : ((m : Int) == 0) = false := beq_eq_false_iff_ne.2 (by omega)
  have q1 : decide ((m : Int) < 0) = false := decide_eq_false (by omega)
  have HS := Lib.hid (TextRow.start w m hz (by omega) 87)
  go_enter Tryd.func19, Tryd.ntmps19
  go_wp2
  clear q0 q1
  go_loopw [0, 4] (fun vn va wr => ∃ (x a : Nat) (tail : List UInt8), vn = .int .u8 (x : Int) ∧ va = .int .i64 (a : Int) ∧ x ≤ 255 ∧ Hid (TextRow w wr m x a tail))
    (fun p _ _ => (intOf p).natAbs)
  case atStart => exact ⟨m, 20, [], rfl, rfl, hm, HS⟩
  case round =>
    obtain ⟨x, a, tail, rfl, rfl, hxm, HT⟩ := hrel
    clear HS
    by_cases hx0 : x = 0
    · subst hx0
      have ha0 : a < 20 := by have := HT.out.reads.2.1; have := Lib.nDigits_pos m; have := Lib.decDigits_length m; omega
      have hcv := HT.out.reads.2.2.2
      have hsl := text_slice w.heap.size a ha0
      go_wp2
      go_ret
      exact ⟨rfl, HT.out.below⟩
    · have hx1 : ((x : Int) != 0) = true := bne_iff_ne.2 (by omega)
      obtain ⟨b, rfl, hb⟩ := HT.out.pos hx0
      have hw1 : wrap64 (((b + 1 : Nat) : Int) - 1) = (b : Int) := by unfold wrap64; omega
      obtain ⟨c, hc⟩ := (HT.out.old b hb).1
      have hf := (HT.out.old b hb).2
      have HN := Lib.hid (HT.out.step hx0)
      have hx10 : 0 ≤ (x : Int) % 10 ∧ (x : Int) % 10 ≤ 9 := by omega
      clear HT
      go_wp2
      go_roundw
      case rel => exact ⟨x / 10, b, _, by first | rfl | go_num, by first | rfl | go_num, by omega, HN⟩
      case measure =>
        simp only [intOf]
        omega
theorem text_zero_uint8 (w : World) : Calls Tryd.prog 19 #[.int .u8 0] w fun e w' => e = .returned (.string ⟨#[48]⟩) ∧ Below w.heap.size w w' := by
  go_enter Tryd.func19, Tryd.ntmps19
  go_wp2
  go_ret
  exact ⟨rfl, Below.refl _ _⟩
def whole_Text_uint8.f (a0 : Int) : Option ByteArray := if 0 ≤ a0 ∧ a0 ≤ 255 then some ⟨(Lib.itoa a0).toArray⟩ else none
theorem whole_Text_uint8.calls (a0 : Int) (r : ByteArray) (w : World) (h : whole_Text_uint8.f a0 = some r) :
    Calls Tryd.prog 19 #[.int .u8 a0] w fun e w' => e = .returned (.string r) ∧ Below w.heap.size w w' := by
  unfold whole_Text_uint8.f at h
  split at h
  · rename_i hr
    obtain rfl := Option.some.inj h
    by_cases hz : a0 = 0
    · subst hz
      rw [show Lib.itoa 0 = [48] from by unfold Lib.itoa; rw [if_neg (by decide), Lib.decDigits, dif_pos (by decide)]; rfl]
      exact text_zero_uint8 w
    · obtain ⟨m, rfl⟩ : ∃ m : Nat, a0 = (m : Int) := ⟨a0.toNat, by omega⟩
      rw [Lib.itoa_nonneg]
      exact text_pos_uint8 m (by omega) (by omega) w
  · cases h
end Go.Proofs.YtkjmbibnfohkjaaDoor
