/- quarryref15.one: the walk, byte by byte below 32. -/
import Derived.Test.YthlneooboiphdaaFlatRow
import Derived.Test.YthlneooboiphdaaProg
import Derived.Deep.QuietTactic
import Derived.BigQuiet
set_option linter.unusedVariables false
set_option linter.unusedSimpArgs false
namespace Go.Proofs.Ythlneooboiphdaa
open Go.RowKit Go.Proofs.YthlneooboiphdaaW.PrintWords Go.Proofs.YthlneooboiphdaaW.PrintLast Go.Proofs.YthlneooboiphdaaW.PrintMore
/-- A byte as Escape has it. -/
def one15 (c : Int) : ByteArray :=
  if c = 34 then ⟨#[92, 34]⟩ else if c = 92 then ⟨#[92, 92]⟩ else if c = 8 then ⟨#[92, 98]⟩ else if c = 12 then ⟨#[92, 102]⟩ else if c = 10 then ⟨#[92, 110]⟩ else if c = 13 then ⟨#[92, 114]⟩ else if c = 9 then ⟨#[92, 116]⟩ else
  if c < 32 then ⟨#[92, 117, 48, 48, (if c < 16 then 48 else 49), (if c % 16 < 10 then 48 + (c % 16).toNat.toUInt8 else 87 + (c % 16).toNat.toUInt8)]⟩ else ⟨#[c.toNat.toUInt8]⟩

set_option maxHeartbeats 4000000 in
set_option maxRecDepth 100000 in
theorem one15_0 (w : World) : Calls Try.prog 94 #[.int .u8 0] w fun e w' => e = .returned (.string (one15 0)) ∧ Below w.heap.size w w' := by
  go_enter Try.func94, Try.ntmps94
  have w0 : IntKind.u8.wrap 0 = 0 := by decide
  have w1 : IntKind.u8.wrap 1 = 1 := by decide
  have hsz : (⟨#[48, 49, 50, 51, 52, 53, 54, 55, 56, 57, 97, 98, 99, 100, 101, 102]⟩ : ByteArray).size = 16 := rfl
  go_wp2
  go_region_held3 (fun _ => True) (trivial) (fail)
  go_wp2
  go_ret
  exact ⟨rfl, below_drew1 (Below.refl _ _)⟩

set_option maxHeartbeats 4000000 in
set_option maxRecDepth 100000 in
theorem one15_1 (w : World) : Calls Try.prog 94 #[.int .u8 1] w fun e w' => e = .returned (.string (one15 1)) ∧ Below w.heap.size w w' := by
  go_enter Try.func94, Try.ntmps94
  have w0 : IntKind.u8.wrap 0 = 0 := by decide
  have w1 : IntKind.u8.wrap 1 = 1 := by decide
  have w2 : IntKind.u8.wrap 2 = 2 := by decide
  have hsz : (⟨#[48, 49, 50, 51, 52, 53, 54, 55, 56, 57, 97, 98, 99, 100, 101, 102]⟩ : ByteArray).size = 16 := rfl
  go_wp2
  go_region_held3 (fun _ => True) (trivial) (fail)
  go_wp2
  go_ret
  exact ⟨rfl, below_drew1 (Below.refl _ _)⟩

set_option maxHeartbeats 4000000 in
set_option maxRecDepth 100000 in
theorem one15_2 (w : World) : Calls Try.prog 94 #[.int .u8 2] w fun e w' => e = .returned (.string (one15 2)) ∧ Below w.heap.size w w' := by
  go_enter Try.func94, Try.ntmps94
  have w0 : IntKind.u8.wrap 0 = 0 := by decide
  have w1 : IntKind.u8.wrap 1 = 1 := by decide
  have w2 : IntKind.u8.wrap 2 = 2 := by decide
  have w3 : IntKind.u8.wrap 3 = 3 := by decide
  have hsz : (⟨#[48, 49, 50, 51, 52, 53, 54, 55, 56, 57, 97, 98, 99, 100, 101, 102]⟩ : ByteArray).size = 16 := rfl
  go_wp2
  go_region_held3 (fun _ => True) (trivial) (fail)
  go_wp2
  go_ret
  exact ⟨rfl, below_drew1 (Below.refl _ _)⟩

set_option maxHeartbeats 4000000 in
set_option maxRecDepth 100000 in
theorem one15_3 (w : World) : Calls Try.prog 94 #[.int .u8 3] w fun e w' => e = .returned (.string (one15 3)) ∧ Below w.heap.size w w' := by
  go_enter Try.func94, Try.ntmps94
  have w0 : IntKind.u8.wrap 0 = 0 := by decide
  have w1 : IntKind.u8.wrap 1 = 1 := by decide
  have w3 : IntKind.u8.wrap 3 = 3 := by decide
  have w4 : IntKind.u8.wrap 4 = 4 := by decide
  have hsz : (⟨#[48, 49, 50, 51, 52, 53, 54, 55, 56, 57, 97, 98, 99, 100, 101, 102]⟩ : ByteArray).size = 16 := rfl
  go_wp2
  go_region_held3 (fun _ => True) (trivial) (fail)
  go_wp2
  go_ret
  exact ⟨rfl, below_drew1 (Below.refl _ _)⟩

set_option maxHeartbeats 4000000 in
set_option maxRecDepth 100000 in
theorem one15_4 (w : World) : Calls Try.prog 94 #[.int .u8 4] w fun e w' => e = .returned (.string (one15 4)) ∧ Below w.heap.size w w' := by
  go_enter Try.func94, Try.ntmps94
  have w0 : IntKind.u8.wrap 0 = 0 := by decide
  have w1 : IntKind.u8.wrap 1 = 1 := by decide
  have w4 : IntKind.u8.wrap 4 = 4 := by decide
  have w5 : IntKind.u8.wrap 5 = 5 := by decide
  have hsz : (⟨#[48, 49, 50, 51, 52, 53, 54, 55, 56, 57, 97, 98, 99, 100, 101, 102]⟩ : ByteArray).size = 16 := rfl
  go_wp2
  go_region_held3 (fun _ => True) (trivial) (fail)
  go_wp2
  go_ret
  exact ⟨rfl, below_drew1 (Below.refl _ _)⟩

set_option maxHeartbeats 4000000 in
set_option maxRecDepth 100000 in
theorem one15_5 (w : World) : Calls Try.prog 94 #[.int .u8 5] w fun e w' => e = .returned (.string (one15 5)) ∧ Below w.heap.size w w' := by
  go_enter Try.func94, Try.ntmps94
  have w0 : IntKind.u8.wrap 0 = 0 := by decide
  have w1 : IntKind.u8.wrap 1 = 1 := by decide
  have w5 : IntKind.u8.wrap 5 = 5 := by decide
  have w6 : IntKind.u8.wrap 6 = 6 := by decide
  have hsz : (⟨#[48, 49, 50, 51, 52, 53, 54, 55, 56, 57, 97, 98, 99, 100, 101, 102]⟩ : ByteArray).size = 16 := rfl
  go_wp2
  go_region_held3 (fun _ => True) (trivial) (fail)
  go_wp2
  go_ret
  exact ⟨rfl, below_drew1 (Below.refl _ _)⟩

set_option maxHeartbeats 4000000 in
set_option maxRecDepth 100000 in
theorem one15_6 (w : World) : Calls Try.prog 94 #[.int .u8 6] w fun e w' => e = .returned (.string (one15 6)) ∧ Below w.heap.size w w' := by
  go_enter Try.func94, Try.ntmps94
  have w0 : IntKind.u8.wrap 0 = 0 := by decide
  have w1 : IntKind.u8.wrap 1 = 1 := by decide
  have w6 : IntKind.u8.wrap 6 = 6 := by decide
  have w7 : IntKind.u8.wrap 7 = 7 := by decide
  have hsz : (⟨#[48, 49, 50, 51, 52, 53, 54, 55, 56, 57, 97, 98, 99, 100, 101, 102]⟩ : ByteArray).size = 16 := rfl
  go_wp2
  go_region_held3 (fun _ => True) (trivial) (fail)
  go_wp2
  go_ret
  exact ⟨rfl, below_drew1 (Below.refl _ _)⟩

set_option maxHeartbeats 4000000 in
set_option maxRecDepth 100000 in
theorem one15_7 (w : World) : Calls Try.prog 94 #[.int .u8 7] w fun e w' => e = .returned (.string (one15 7)) ∧ Below w.heap.size w w' := by
  go_enter Try.func94, Try.ntmps94
  have w0 : IntKind.u8.wrap 0 = 0 := by decide
  have w1 : IntKind.u8.wrap 1 = 1 := by decide
  have w7 : IntKind.u8.wrap 7 = 7 := by decide
  have w8 : IntKind.u8.wrap 8 = 8 := by decide
  have hsz : (⟨#[48, 49, 50, 51, 52, 53, 54, 55, 56, 57, 97, 98, 99, 100, 101, 102]⟩ : ByteArray).size = 16 := rfl
  go_wp2
  go_region_held3 (fun _ => True) (trivial) (fail)
  go_wp2
  go_ret
  exact ⟨rfl, below_drew1 (Below.refl _ _)⟩

set_option maxHeartbeats 4000000 in
set_option maxRecDepth 100000 in
theorem one15_8 (w : World) : Calls Try.prog 94 #[.int .u8 8] w fun e w' => e = .returned (.string (one15 8)) ∧ Below w.heap.size w w' := by
  go_enter Try.func94, Try.ntmps94
  go_wp2
  go_ret
  exact ⟨rfl, Below.refl _ _⟩

set_option maxHeartbeats 4000000 in
set_option maxRecDepth 100000 in
theorem one15_9 (w : World) : Calls Try.prog 94 #[.int .u8 9] w fun e w' => e = .returned (.string (one15 9)) ∧ Below w.heap.size w w' := by
  go_enter Try.func94, Try.ntmps94
  go_wp2
  go_ret
  exact ⟨rfl, Below.refl _ _⟩

set_option maxHeartbeats 4000000 in
set_option maxRecDepth 100000 in
theorem one15_10 (w : World) : Calls Try.prog 94 #[.int .u8 10] w fun e w' => e = .returned (.string (one15 10)) ∧ Below w.heap.size w w' := by
  go_enter Try.func94, Try.ntmps94
  go_wp2
  go_ret
  exact ⟨rfl, Below.refl _ _⟩

set_option maxHeartbeats 4000000 in
set_option maxRecDepth 100000 in
theorem one15_11 (w : World) : Calls Try.prog 94 #[.int .u8 11] w fun e w' => e = .returned (.string (one15 11)) ∧ Below w.heap.size w w' := by
  go_enter Try.func94, Try.ntmps94
  have w0 : IntKind.u8.wrap 0 = 0 := by decide
  have w1 : IntKind.u8.wrap 1 = 1 := by decide
  have w11 : IntKind.u8.wrap 11 = 11 := by decide
  have w12 : IntKind.u8.wrap 12 = 12 := by decide
  have hsz : (⟨#[48, 49, 50, 51, 52, 53, 54, 55, 56, 57, 97, 98, 99, 100, 101, 102]⟩ : ByteArray).size = 16 := rfl
  go_wp2
  go_region_held3 (fun _ => True) (trivial) (fail)
  go_wp2
  go_ret
  exact ⟨rfl, below_drew1 (Below.refl _ _)⟩

set_option maxHeartbeats 4000000 in
set_option maxRecDepth 100000 in
theorem one15_12 (w : World) : Calls Try.prog 94 #[.int .u8 12] w fun e w' => e = .returned (.string (one15 12)) ∧ Below w.heap.size w w' := by
  go_enter Try.func94, Try.ntmps94
  go_wp2
  go_ret
  exact ⟨rfl, Below.refl _ _⟩

set_option maxHeartbeats 4000000 in
set_option maxRecDepth 100000 in
theorem one15_13 (w : World) : Calls Try.prog 94 #[.int .u8 13] w fun e w' => e = .returned (.string (one15 13)) ∧ Below w.heap.size w w' := by
  go_enter Try.func94, Try.ntmps94
  go_wp2
  go_ret
  exact ⟨rfl, Below.refl _ _⟩

set_option maxHeartbeats 4000000 in
set_option maxRecDepth 100000 in
theorem one15_14 (w : World) : Calls Try.prog 94 #[.int .u8 14] w fun e w' => e = .returned (.string (one15 14)) ∧ Below w.heap.size w w' := by
  go_enter Try.func94, Try.ntmps94
  have w0 : IntKind.u8.wrap 0 = 0 := by decide
  have w1 : IntKind.u8.wrap 1 = 1 := by decide
  have w14 : IntKind.u8.wrap 14 = 14 := by decide
  have w15 : IntKind.u8.wrap 15 = 15 := by decide
  have hsz : (⟨#[48, 49, 50, 51, 52, 53, 54, 55, 56, 57, 97, 98, 99, 100, 101, 102]⟩ : ByteArray).size = 16 := rfl
  go_wp2
  go_region_held3 (fun _ => True) (trivial) (fail)
  go_wp2
  go_ret
  exact ⟨rfl, below_drew1 (Below.refl _ _)⟩

set_option maxHeartbeats 4000000 in
set_option maxRecDepth 100000 in
theorem one15_15 (w : World) : Calls Try.prog 94 #[.int .u8 15] w fun e w' => e = .returned (.string (one15 15)) ∧ Below w.heap.size w w' := by
  go_enter Try.func94, Try.ntmps94
  have w0 : IntKind.u8.wrap 0 = 0 := by decide
  have w1 : IntKind.u8.wrap 1 = 1 := by decide
  have w15 : IntKind.u8.wrap 15 = 15 := by decide
  have w16 : IntKind.u8.wrap 16 = 16 := by decide
  have hsz : (⟨#[48, 49, 50, 51, 52, 53, 54, 55, 56, 57, 97, 98, 99, 100, 101, 102]⟩ : ByteArray).size = 16 := rfl
  go_wp2
  go_region_held3 (fun _ => True) (trivial) (fail)
  go_wp2
  go_ret
  exact ⟨rfl, below_drew1 (Below.refl _ _)⟩

set_option maxHeartbeats 4000000 in
set_option maxRecDepth 100000 in
theorem one15_16 (w : World) : Calls Try.prog 94 #[.int .u8 16] w fun e w' => e = .returned (.string (one15 16)) ∧ Below w.heap.size w w' := by
  go_enter Try.func94, Try.ntmps94
  have w0 : IntKind.u8.wrap 0 = 0 := by decide
  have w1 : IntKind.u8.wrap 1 = 1 := by decide
  have w2 : IntKind.u8.wrap 2 = 2 := by decide
  have hsz : (⟨#[48, 49, 50, 51, 52, 53, 54, 55, 56, 57, 97, 98, 99, 100, 101, 102]⟩ : ByteArray).size = 16 := rfl
  go_wp2
  go_region_held3 (fun _ => True) (trivial) (fail)
  go_wp2
  go_ret
  exact ⟨rfl, below_drew1 (Below.refl _ _)⟩

set_option maxHeartbeats 4000000 in
set_option maxRecDepth 100000 in
theorem one15_17 (w : World) : Calls Try.prog 94 #[.int .u8 17] w fun e w' => e = .returned (.string (one15 17)) ∧ Below w.heap.size w w' := by
  go_enter Try.func94, Try.ntmps94
  have w1 : IntKind.u8.wrap 1 = 1 := by decide
  have w2 : IntKind.u8.wrap 2 = 2 := by decide
  have hsz : (⟨#[48, 49, 50, 51, 52, 53, 54, 55, 56, 57, 97, 98, 99, 100, 101, 102]⟩ : ByteArray).size = 16 := rfl
  go_wp2
  go_region_held3 (fun _ => True) (trivial) (fail)
  go_wp2
  go_ret
  exact ⟨rfl, below_drew1 (Below.refl _ _)⟩

set_option maxHeartbeats 4000000 in
set_option maxRecDepth 100000 in
theorem one15_18 (w : World) : Calls Try.prog 94 #[.int .u8 18] w fun e w' => e = .returned (.string (one15 18)) ∧ Below w.heap.size w w' := by
  go_enter Try.func94, Try.ntmps94
  have w1 : IntKind.u8.wrap 1 = 1 := by decide
  have w2 : IntKind.u8.wrap 2 = 2 := by decide
  have w3 : IntKind.u8.wrap 3 = 3 := by decide
  have hsz : (⟨#[48, 49, 50, 51, 52, 53, 54, 55, 56, 57, 97, 98, 99, 100, 101, 102]⟩ : ByteArray).size = 16 := rfl
  go_wp2
  go_region_held3 (fun _ => True) (trivial) (fail)
  go_wp2
  go_ret
  exact ⟨rfl, below_drew1 (Below.refl _ _)⟩

set_option maxHeartbeats 4000000 in
set_option maxRecDepth 100000 in
theorem one15_19 (w : World) : Calls Try.prog 94 #[.int .u8 19] w fun e w' => e = .returned (.string (one15 19)) ∧ Below w.heap.size w w' := by
  go_enter Try.func94, Try.ntmps94
  have w1 : IntKind.u8.wrap 1 = 1 := by decide
  have w2 : IntKind.u8.wrap 2 = 2 := by decide
  have w3 : IntKind.u8.wrap 3 = 3 := by decide
  have w4 : IntKind.u8.wrap 4 = 4 := by decide
  have hsz : (⟨#[48, 49, 50, 51, 52, 53, 54, 55, 56, 57, 97, 98, 99, 100, 101, 102]⟩ : ByteArray).size = 16 := rfl
  go_wp2
  go_region_held3 (fun _ => True) (trivial) (fail)
  go_wp2
  go_ret
  exact ⟨rfl, below_drew1 (Below.refl _ _)⟩

set_option maxHeartbeats 4000000 in
set_option maxRecDepth 100000 in
theorem one15_20 (w : World) : Calls Try.prog 94 #[.int .u8 20] w fun e w' => e = .returned (.string (one15 20)) ∧ Below w.heap.size w w' := by
  go_enter Try.func94, Try.ntmps94
  have w1 : IntKind.u8.wrap 1 = 1 := by decide
  have w2 : IntKind.u8.wrap 2 = 2 := by decide
  have w4 : IntKind.u8.wrap 4 = 4 := by decide
  have w5 : IntKind.u8.wrap 5 = 5 := by decide
  have hsz : (⟨#[48, 49, 50, 51, 52, 53, 54, 55, 56, 57, 97, 98, 99, 100, 101, 102]⟩ : ByteArray).size = 16 := rfl
  go_wp2
  go_region_held3 (fun _ => True) (trivial) (fail)
  go_wp2
  go_ret
  exact ⟨rfl, below_drew1 (Below.refl _ _)⟩

set_option maxHeartbeats 4000000 in
set_option maxRecDepth 100000 in
theorem one15_21 (w : World) : Calls Try.prog 94 #[.int .u8 21] w fun e w' => e = .returned (.string (one15 21)) ∧ Below w.heap.size w w' := by
  go_enter Try.func94, Try.ntmps94
  have w1 : IntKind.u8.wrap 1 = 1 := by decide
  have w2 : IntKind.u8.wrap 2 = 2 := by decide
  have w5 : IntKind.u8.wrap 5 = 5 := by decide
  have w6 : IntKind.u8.wrap 6 = 6 := by decide
  have hsz : (⟨#[48, 49, 50, 51, 52, 53, 54, 55, 56, 57, 97, 98, 99, 100, 101, 102]⟩ : ByteArray).size = 16 := rfl
  go_wp2
  go_region_held3 (fun _ => True) (trivial) (fail)
  go_wp2
  go_ret
  exact ⟨rfl, below_drew1 (Below.refl _ _)⟩

set_option maxHeartbeats 4000000 in
set_option maxRecDepth 100000 in
theorem one15_22 (w : World) : Calls Try.prog 94 #[.int .u8 22] w fun e w' => e = .returned (.string (one15 22)) ∧ Below w.heap.size w w' := by
  go_enter Try.func94, Try.ntmps94
  have w1 : IntKind.u8.wrap 1 = 1 := by decide
  have w2 : IntKind.u8.wrap 2 = 2 := by decide
  have w6 : IntKind.u8.wrap 6 = 6 := by decide
  have w7 : IntKind.u8.wrap 7 = 7 := by decide
  have hsz : (⟨#[48, 49, 50, 51, 52, 53, 54, 55, 56, 57, 97, 98, 99, 100, 101, 102]⟩ : ByteArray).size = 16 := rfl
  go_wp2
  go_region_held3 (fun _ => True) (trivial) (fail)
  go_wp2
  go_ret
  exact ⟨rfl, below_drew1 (Below.refl _ _)⟩

set_option maxHeartbeats 4000000 in
set_option maxRecDepth 100000 in
theorem one15_23 (w : World) : Calls Try.prog 94 #[.int .u8 23] w fun e w' => e = .returned (.string (one15 23)) ∧ Below w.heap.size w w' := by
  go_enter Try.func94, Try.ntmps94
  have w1 : IntKind.u8.wrap 1 = 1 := by decide
  have w2 : IntKind.u8.wrap 2 = 2 := by decide
  have w7 : IntKind.u8.wrap 7 = 7 := by decide
  have w8 : IntKind.u8.wrap 8 = 8 := by decide
  have hsz : (⟨#[48, 49, 50, 51, 52, 53, 54, 55, 56, 57, 97, 98, 99, 100, 101, 102]⟩ : ByteArray).size = 16 := rfl
  go_wp2
  go_region_held3 (fun _ => True) (trivial) (fail)
  go_wp2
  go_ret
  exact ⟨rfl, below_drew1 (Below.refl _ _)⟩

set_option maxHeartbeats 4000000 in
set_option maxRecDepth 100000 in
theorem one15_24 (w : World) : Calls Try.prog 94 #[.int .u8 24] w fun e w' => e = .returned (.string (one15 24)) ∧ Below w.heap.size w w' := by
  go_enter Try.func94, Try.ntmps94
  have w1 : IntKind.u8.wrap 1 = 1 := by decide
  have w2 : IntKind.u8.wrap 2 = 2 := by decide
  have w8 : IntKind.u8.wrap 8 = 8 := by decide
  have w9 : IntKind.u8.wrap 9 = 9 := by decide
  have hsz : (⟨#[48, 49, 50, 51, 52, 53, 54, 55, 56, 57, 97, 98, 99, 100, 101, 102]⟩ : ByteArray).size = 16 := rfl
  go_wp2
  go_region_held3 (fun _ => True) (trivial) (fail)
  go_wp2
  go_ret
  exact ⟨rfl, below_drew1 (Below.refl _ _)⟩

set_option maxHeartbeats 4000000 in
set_option maxRecDepth 100000 in
theorem one15_25 (w : World) : Calls Try.prog 94 #[.int .u8 25] w fun e w' => e = .returned (.string (one15 25)) ∧ Below w.heap.size w w' := by
  go_enter Try.func94, Try.ntmps94
  have w1 : IntKind.u8.wrap 1 = 1 := by decide
  have w2 : IntKind.u8.wrap 2 = 2 := by decide
  have w9 : IntKind.u8.wrap 9 = 9 := by decide
  have w10 : IntKind.u8.wrap 10 = 10 := by decide
  have hsz : (⟨#[48, 49, 50, 51, 52, 53, 54, 55, 56, 57, 97, 98, 99, 100, 101, 102]⟩ : ByteArray).size = 16 := rfl
  go_wp2
  go_region_held3 (fun _ => True) (trivial) (fail)
  go_wp2
  go_ret
  exact ⟨rfl, below_drew1 (Below.refl _ _)⟩

set_option maxHeartbeats 4000000 in
set_option maxRecDepth 100000 in
theorem one15_26 (w : World) : Calls Try.prog 94 #[.int .u8 26] w fun e w' => e = .returned (.string (one15 26)) ∧ Below w.heap.size w w' := by
  go_enter Try.func94, Try.ntmps94
  have w1 : IntKind.u8.wrap 1 = 1 := by decide
  have w2 : IntKind.u8.wrap 2 = 2 := by decide
  have w10 : IntKind.u8.wrap 10 = 10 := by decide
  have w11 : IntKind.u8.wrap 11 = 11 := by decide
  have hsz : (⟨#[48, 49, 50, 51, 52, 53, 54, 55, 56, 57, 97, 98, 99, 100, 101, 102]⟩ : ByteArray).size = 16 := rfl
  go_wp2
  go_region_held3 (fun _ => True) (trivial) (fail)
  go_wp2
  go_ret
  exact ⟨rfl, below_drew1 (Below.refl _ _)⟩

set_option maxHeartbeats 4000000 in
set_option maxRecDepth 100000 in
theorem one15_27 (w : World) : Calls Try.prog 94 #[.int .u8 27] w fun e w' => e = .returned (.string (one15 27)) ∧ Below w.heap.size w w' := by
  go_enter Try.func94, Try.ntmps94
  have w1 : IntKind.u8.wrap 1 = 1 := by decide
  have w2 : IntKind.u8.wrap 2 = 2 := by decide
  have w11 : IntKind.u8.wrap 11 = 11 := by decide
  have w12 : IntKind.u8.wrap 12 = 12 := by decide
  have hsz : (⟨#[48, 49, 50, 51, 52, 53, 54, 55, 56, 57, 97, 98, 99, 100, 101, 102]⟩ : ByteArray).size = 16 := rfl
  go_wp2
  go_region_held3 (fun _ => True) (trivial) (fail)
  go_wp2
  go_ret
  exact ⟨rfl, below_drew1 (Below.refl _ _)⟩

set_option maxHeartbeats 4000000 in
set_option maxRecDepth 100000 in
theorem one15_28 (w : World) : Calls Try.prog 94 #[.int .u8 28] w fun e w' => e = .returned (.string (one15 28)) ∧ Below w.heap.size w w' := by
  go_enter Try.func94, Try.ntmps94
  have w1 : IntKind.u8.wrap 1 = 1 := by decide
  have w2 : IntKind.u8.wrap 2 = 2 := by decide
  have w12 : IntKind.u8.wrap 12 = 12 := by decide
  have w13 : IntKind.u8.wrap 13 = 13 := by decide
  have hsz : (⟨#[48, 49, 50, 51, 52, 53, 54, 55, 56, 57, 97, 98, 99, 100, 101, 102]⟩ : ByteArray).size = 16 := rfl
  go_wp2
  go_region_held3 (fun _ => True) (trivial) (fail)
  go_wp2
  go_ret
  exact ⟨rfl, below_drew1 (Below.refl _ _)⟩

set_option maxHeartbeats 4000000 in
set_option maxRecDepth 100000 in
theorem one15_29 (w : World) : Calls Try.prog 94 #[.int .u8 29] w fun e w' => e = .returned (.string (one15 29)) ∧ Below w.heap.size w w' := by
  go_enter Try.func94, Try.ntmps94
  have w1 : IntKind.u8.wrap 1 = 1 := by decide
  have w2 : IntKind.u8.wrap 2 = 2 := by decide
  have w13 : IntKind.u8.wrap 13 = 13 := by decide
  have w14 : IntKind.u8.wrap 14 = 14 := by decide
  have hsz : (⟨#[48, 49, 50, 51, 52, 53, 54, 55, 56, 57, 97, 98, 99, 100, 101, 102]⟩ : ByteArray).size = 16 := rfl
  go_wp2
  go_region_held3 (fun _ => True) (trivial) (fail)
  go_wp2
  go_ret
  exact ⟨rfl, below_drew1 (Below.refl _ _)⟩

set_option maxHeartbeats 4000000 in
set_option maxRecDepth 100000 in
theorem one15_30 (w : World) : Calls Try.prog 94 #[.int .u8 30] w fun e w' => e = .returned (.string (one15 30)) ∧ Below w.heap.size w w' := by
  go_enter Try.func94, Try.ntmps94
  have w1 : IntKind.u8.wrap 1 = 1 := by decide
  have w2 : IntKind.u8.wrap 2 = 2 := by decide
  have w14 : IntKind.u8.wrap 14 = 14 := by decide
  have w15 : IntKind.u8.wrap 15 = 15 := by decide
  have hsz : (⟨#[48, 49, 50, 51, 52, 53, 54, 55, 56, 57, 97, 98, 99, 100, 101, 102]⟩ : ByteArray).size = 16 := rfl
  go_wp2
  go_region_held3 (fun _ => True) (trivial) (fail)
  go_wp2
  go_ret
  exact ⟨rfl, below_drew1 (Below.refl _ _)⟩

set_option maxHeartbeats 4000000 in
set_option maxRecDepth 100000 in
theorem one15_31 (w : World) : Calls Try.prog 94 #[.int .u8 31] w fun e w' => e = .returned (.string (one15 31)) ∧ Below w.heap.size w w' := by
  go_enter Try.func94, Try.ntmps94
  have w1 : IntKind.u8.wrap 1 = 1 := by decide
  have w2 : IntKind.u8.wrap 2 = 2 := by decide
  have w15 : IntKind.u8.wrap 15 = 15 := by decide
  have w16 : IntKind.u8.wrap 16 = 16 := by decide
  have hsz : (⟨#[48, 49, 50, 51, 52, 53, 54, 55, 56, 57, 97, 98, 99, 100, 101, 102]⟩ : ByteArray).size = 16 := rfl
  go_wp2
  go_region_held3 (fun _ => True) (trivial) (fail)
  go_wp2
  go_ret
  exact ⟨rfl, below_drew1 (Below.refl _ _)⟩

set_option maxHeartbeats 4000000 in
set_option maxRecDepth 100000 in
theorem one15_34 (w : World) : Calls Try.prog 94 #[.int .u8 34] w fun e w' => e = .returned (.string (one15 34)) ∧ Below w.heap.size w w' := by
  go_enter Try.func94, Try.ntmps94
  go_wp2
  go_ret
  exact ⟨rfl, Below.refl _ _⟩

set_option maxHeartbeats 4000000 in
set_option maxRecDepth 100000 in
theorem one15_92 (w : World) : Calls Try.prog 94 #[.int .u8 92] w fun e w' => e = .returned (.string (one15 92)) ∧ Below w.heap.size w w' := by
  go_enter Try.func94, Try.ntmps94
  go_wp2
  go_ret
  exact ⟨rfl, Below.refl _ _⟩

theorem one15_big (c : Int) (h : 32 ≤ c) (h1 : ¬ c = 34) (h2 : ¬ c = 92) : one15 c = ⟨#[c.toNat.toUInt8]⟩ := by
  unfold one15
  rw [if_neg h1, if_neg h2, if_neg (by omega), if_neg (by omega), if_neg (by omega), if_neg (by omega), if_neg (by omega), if_neg (by omega)]
set_option maxHeartbeats 4000000 in
set_option maxRecDepth 100000 in
theorem one15_else (c : Int) (h0 : 32 ≤ c) (h255 : c ≤ 255) (h1 : ¬ c = 34) (h2 : ¬ c = 92) (w : World) : Calls Try.prog 94 #[.int .u8 c] w fun e w' => e = .returned (.string (one15 c)) ∧ Below w.heap.size w w' := by
  rw [one15_big c h0 h1 h2]
  have e1 : (c == 34) = false := beq_eq_false_iff_ne.2 h1
  have e2 : (c == 92) = false := beq_eq_false_iff_ne.2 h2
  have e3 : (c == 8) = false := beq_eq_false_iff_ne.2 (by omega)
  have e4 : (c == 12) = false := beq_eq_false_iff_ne.2 (by omega)
  have e5 : (c == 10) = false := beq_eq_false_iff_ne.2 (by omega)
  have e6 : (c == 13) = false := beq_eq_false_iff_ne.2 (by omega)
  have e7 : (c == 9) = false := beq_eq_false_iff_ne.2 (by omega)
  have e8 : decide (c < 32) = false := decide_eq_false (by omega)
  have hb := below_alloc (Below.refl w.heap.size w) (.cells #[.int .u8 c] 5)
  have HB := Aside0.mk hb
  have ho : (w.alloc (.cells #[.int .u8 c] 5)).ownsRow w.heap.size 5 1 (.slice (some ⟨w.heap.size, 0, none⟩) 1 1) 1 (nums .u8 [c]) := own_lit w w.heap.size 5 .u8 [c] (Nat.le_refl _) (by simp)
  have hs := own_string (P := Try.prog) (src := 129) (dst := 9) Try.underlying129 Try.underlying5 Try.underlying9 ho
  have hq : strOfNums [c] = ⟨#[c.toNat.toUInt8]⟩ := by
    first | rfl | (simp [strOfNums])
  rw [hq] at hs
  clear h0 h255 h1 h2 hb ho hq
  go_enter Try.func94, Try.ntmps94
  go_wp2
  go_ret
  exact ⟨rfl, HB.out⟩
def quarryref15_one.f (a0 : Int) : Option ByteArray := if 0 ≤ a0 ∧ a0 ≤ 255 then some (one15 a0) else none
theorem one15_size (c : Int) : (one15 c).size ≤ 6 := by
  unfold one15
  repeat' split
  all_goals first | decide | (show 6 ≤ 6; decide) | (show 1 ≤ 6; decide)
theorem quarryref15_one.calls (a0 : Int) (r : ByteArray) (w : World) (h : quarryref15_one.f a0 = some r) :
    Calls Try.prog 94 #[.int .u8 a0] w fun e w' => e = .returned (.string r) ∧ Below w.heap.size w w' := by
  unfold quarryref15_one.f at h
  split at h
  case isFalse => cases h
  rename_i hs
  obtain rfl := Option.some.inj h
  by_cases h1 : a0 = 34
  · subst h1; exact one15_34 w
  · by_cases h2 : a0 = 92
    · subst h2; exact one15_92 w
    · by_cases h3 : 32 ≤ a0
      · exact one15_else a0 h3 hs.2 h1 h2 w
      · have h4 : a0 = 0 ∨ a0 = 1 ∨ a0 = 2 ∨ a0 = 3 ∨ a0 = 4 ∨ a0 = 5 ∨ a0 = 6 ∨ a0 = 7 ∨ a0 = 8 ∨ a0 = 9 ∨ a0 = 10 ∨ a0 = 11 ∨ a0 = 12 ∨ a0 = 13 ∨ a0 = 14 ∨ a0 = 15 ∨ a0 = 16 ∨ a0 = 17 ∨ a0 = 18 ∨ a0 = 19 ∨ a0 = 20 ∨ a0 = 21 ∨ a0 = 22 ∨ a0 = 23 ∨ a0 = 24 ∨ a0 = 25 ∨ a0 = 26 ∨ a0 = 27 ∨ a0 = 28 ∨ a0 = 29 ∨ a0 = 30 ∨ a0 = 31 := by omega
        rcases h4 with rfl | rfl | rfl | rfl | rfl | rfl | rfl | rfl | rfl | rfl | rfl | rfl | rfl | rfl | rfl | rfl | rfl | rfl | rfl | rfl | rfl | rfl | rfl | rfl | rfl | rfl | rfl | rfl | rfl | rfl | rfl | rfl
        · exact one15_0 w
        · exact one15_1 w
        · exact one15_2 w
        · exact one15_3 w
        · exact one15_4 w
        · exact one15_5 w
        · exact one15_6 w
        · exact one15_7 w
        · exact one15_8 w
        · exact one15_9 w
        · exact one15_10 w
        · exact one15_11 w
        · exact one15_12 w
        · exact one15_13 w
        · exact one15_14 w
        · exact one15_15 w
        · exact one15_16 w
        · exact one15_17 w
        · exact one15_18 w
        · exact one15_19 w
        · exact one15_20 w
        · exact one15_21 w
        · exact one15_22 w
        · exact one15_23 w
        · exact one15_24 w
        · exact one15_25 w
        · exact one15_26 w
        · exact one15_27 w
        · exact one15_28 w
        · exact one15_29 w
        · exact one15_30 w
        · exact one15_31 w
end Go.Proofs.Ythlneooboiphdaa
