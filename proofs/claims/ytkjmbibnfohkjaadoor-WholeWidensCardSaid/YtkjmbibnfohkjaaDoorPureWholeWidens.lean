/- WholeWidens: what a type takes every wider one takes. No condition. Printed by genwid.py. -/
import Derived.Test.YtkjmbibnfohkjaaDoorStatWholeWidens
import Derived.Test.YtkjmbibnfohkjaaDoorWholeBase
namespace Go.Proofs.YtkjmbibnfohkjaaDoor.Pure
open Go.RowKit Go.Proofs.YtkjmbibnfohkjaaDoor.PWholeWidens Go.Proofs.YtkjmbibnfohkjaaDoorW.PrintWords Go.Proofs.YtkjmbibnfohkjaaDoorW.PrintLast Go.Proofs.YtkjmbibnfohkjaaDoorW.PrintMore Go.Proofs.YtkjmbibnfohkjaaDoor.Dec Go.Proofs.YtkjmbibnfohkjaaDoor.Reader Go.Proofs.YtkjmbibnfohkjaaDoor.Whole
theorem awake_is : quarrylaw12_awake.f = some true := by
  unfold quarrylaw12_awake.f whole_Int_int8.f
  rw [if_pos (by decide), show wholeR (-128) 127 (⟨#[45, 49, 50, 56]⟩ : ByteArray) = (-128, 0) from by decide +kernel]
  rfl
/- ∀ (a0 : ByteArray), .. → ∃ k, quarrylaw12_WholeWidens.f k a0 = some true -/
theorem WholeWidens : quarrylaw12_WholeWidens.Pure := by
  intro s hs
  have hsz : s.size ≤ 140737488355328 := by omega
  refine ⟨3, ?_⟩
  have haw := awake_is
  unfold quarrylaw12_WholeWidens.f
  have f1 : whole_Int_int8.f s = some (wholeR (-128) 127 s) := if_pos hsz
  have f2 : whole_Int_int16.f s = some (wholeR (-32768) 32767 s) := if_pos hsz
  have f3 : whole_Int_int32.f s = some (wholeR (-2147483648) 2147483647 s) := if_pos hsz
  have f4 : whole_Int_int64.f s = some (wholeR (-9223372036854775808) 9223372036854775807 s) := if_pos hsz
  have f5 : whole_Uint_uint8.f s = some (wholeR 0 255 s) := if_pos hsz
  have f6 : whole_Uint_uint16.f s = some (wholeR 0 65535 s) := if_pos hsz
  have f7 : whole_Uint_uint32.f s = some (wholeR 0 4294967295 s) := if_pos hsz
  have f8 : whole_Uint_uint64.f s = some (wholeR 0 18446744073709551615 s) := if_pos hsz
  clear hs hsz
  rcases way s with ⟨h, hw⟩ | ⟨h, hm, hw⟩ | ⟨h, hm, hc, hw⟩
  · rw [hw] at f1 f2 f3 f4 f5 f6 f7 f8
    simp [f1, f2, f3, f4, f5, f6, f7, f8, quarrylaw12_WholeWidens.j0, quarrylaw12_WholeWidens.j1, quarrylaw12_WholeWidens.j2, haw]
  · rw [hw] at f1 f2 f3 f4 f5 f6 f7 f8
    simp [f1, f2, f3, f4, f5, f6, f7, f8, quarrylaw12_WholeWidens.j0, quarrylaw12_WholeWidens.j1, quarrylaw12_WholeWidens.j2, haw]
  · rw [hw _ _ (by decide) (by decide)] at f1 f2 f3 f4 f5 f6 f7 f8
    clear hw hc hm h
    generalize valueOf s = v at *
    have hv : (v < -9223372036854775808) ∨ (-9223372036854775808 ≤ v ∧ v < -2147483648) ∨ (-2147483648 ≤ v ∧ v < -32768) ∨ (-32768 ≤ v ∧ v < -128) ∨ (-128 ≤ v ∧ v < 0) ∨ (0 ≤ v ∧ v < 128) ∨ (128 ≤ v ∧ v < 256) ∨ (256 ≤ v ∧ v < 32768) ∨ (32768 ≤ v ∧ v < 65536) ∨ (65536 ≤ v ∧ v < 2147483648) ∨ (2147483648 ≤ v ∧ v < 4294967296) ∨ (4294967296 ≤ v ∧ v < 9223372036854775808) ∨ (9223372036854775808 ≤ v ∧ v < 18446744073709551616) ∨ (18446744073709551616 ≤ v) := by omega
    rcases hv with hv | hv | hv | hv | hv | hv | hv | hv | hv | hv | hv | hv | hv | hv
    · rw [if_neg (by omega)] at f1
      rw [if_neg (by omega)] at f2
      rw [if_neg (by omega)] at f3
      rw [if_neg (by omega)] at f4
      rw [if_neg (by omega)] at f5
      rw [if_neg (by omega)] at f6
      rw [if_neg (by omega)] at f7
      rw [if_neg (by omega)] at f8
      clear hv
      simp [f1, f2, f3, f4, f5, f6, f7, f8, quarrylaw12_WholeWidens.j0, quarrylaw12_WholeWidens.j1, quarrylaw12_WholeWidens.j2, haw]
    · rw [if_neg (by omega)] at f1
      rw [if_neg (by omega)] at f2
      rw [if_neg (by omega)] at f3
      rw [if_pos (by omega)] at f4
      rw [if_neg (by omega)] at f5
      rw [if_neg (by omega)] at f6
      rw [if_neg (by omega)] at f7
      rw [if_neg (by omega)] at f8
      clear hv
      simp [f1, f2, f3, f4, f5, f6, f7, f8, quarrylaw12_WholeWidens.j0, quarrylaw12_WholeWidens.j1, quarrylaw12_WholeWidens.j2, haw]
    · rw [if_neg (by omega)] at f1
      rw [if_neg (by omega)] at f2
      rw [if_pos (by omega)] at f3
      rw [if_pos (by omega)] at f4
      rw [if_neg (by omega)] at f5
      rw [if_neg (by omega)] at f6
      rw [if_neg (by omega)] at f7
      rw [if_neg (by omega)] at f8
      have g3 : wrap64 v = v := IntWalk.wrap64_in v (by omega)
      clear hv
      simp [f1, f2, f3, f4, f5, f6, f7, f8, quarrylaw12_WholeWidens.j0, quarrylaw12_WholeWidens.j1, quarrylaw12_WholeWidens.j2, haw, g3]
    · rw [if_neg (by omega)] at f1
      rw [if_pos (by omega)] at f2
      rw [if_pos (by omega)] at f3
      rw [if_pos (by omega)] at f4
      rw [if_neg (by omega)] at f5
      rw [if_neg (by omega)] at f6
      rw [if_neg (by omega)] at f7
      rw [if_neg (by omega)] at f8
      have g2 : wrap32 v = v := IntWalk.wrap32_in v (by omega)
      have g3 : wrap64 v = v := IntWalk.wrap64_in v (by omega)
      clear hv
      simp [f1, f2, f3, f4, f5, f6, f7, f8, quarrylaw12_WholeWidens.j0, quarrylaw12_WholeWidens.j1, quarrylaw12_WholeWidens.j2, haw, g2, g3]
    · rw [if_pos (by omega)] at f1
      rw [if_pos (by omega)] at f2
      rw [if_pos (by omega)] at f3
      rw [if_pos (by omega)] at f4
      rw [if_neg (by omega)] at f5
      rw [if_neg (by omega)] at f6
      rw [if_neg (by omega)] at f7
      rw [if_neg (by omega)] at f8
      have g1 : IntKind.i16.wrap v = v := IntWalk.i16_in v (by omega)
      have g2 : wrap32 v = v := IntWalk.wrap32_in v (by omega)
      have g3 : wrap64 v = v := IntWalk.wrap64_in v (by omega)
      clear hv
      simp [f1, f2, f3, f4, f5, f6, f7, f8, quarrylaw12_WholeWidens.j0, quarrylaw12_WholeWidens.j1, quarrylaw12_WholeWidens.j2, haw, g1, g2, g3]
    · rw [if_pos (by omega)] at f1
      rw [if_pos (by omega)] at f2
      rw [if_pos (by omega)] at f3
      rw [if_pos (by omega)] at f4
      rw [if_pos (by omega)] at f5
      rw [if_pos (by omega)] at f6
      rw [if_pos (by omega)] at f7
      rw [if_pos (by omega)] at f8
      have g1 : IntKind.i16.wrap v = v := IntWalk.i16_in v (by omega)
      have g2 : wrap32 v = v := IntWalk.wrap32_in v (by omega)
      have g3 : wrap64 v = v := IntWalk.wrap64_in v (by omega)
      have g4 : IntKind.u16.wrap v = v := IntWalk.u16_in v (by omega)
      have g5 : v % 4294967296 = v := by omega
      have g6 : IntKind.u64.wrap v = v := IntWalk.u64_in v (by omega)
      clear hv
      simp [f1, f2, f3, f4, f5, f6, f7, f8, quarrylaw12_WholeWidens.j0, quarrylaw12_WholeWidens.j1, quarrylaw12_WholeWidens.j2, haw, g1, g2, g3, g4, g5, g6]
    · rw [if_neg (by omega)] at f1
      rw [if_pos (by omega)] at f2
      rw [if_pos (by omega)] at f3
      rw [if_pos (by omega)] at f4
      rw [if_pos (by omega)] at f5
      rw [if_pos (by omega)] at f6
      rw [if_pos (by omega)] at f7
      rw [if_pos (by omega)] at f8
      have g1 : IntKind.i16.wrap v = v := IntWalk.i16_in v (by omega)
      have g2 : wrap32 v = v := IntWalk.wrap32_in v (by omega)
      have g3 : wrap64 v = v := IntWalk.wrap64_in v (by omega)
      have g4 : IntKind.u16.wrap v = v := IntWalk.u16_in v (by omega)
      have g5 : v % 4294967296 = v := by omega
      have g6 : IntKind.u64.wrap v = v := IntWalk.u64_in v (by omega)
      clear hv
      simp [f1, f2, f3, f4, f5, f6, f7, f8, quarrylaw12_WholeWidens.j0, quarrylaw12_WholeWidens.j1, quarrylaw12_WholeWidens.j2, haw, g1, g2, g3, g4, g5, g6]
    · rw [if_neg (by omega)] at f1
      rw [if_pos (by omega)] at f2
      rw [if_pos (by omega)] at f3
      rw [if_pos (by omega)] at f4
      rw [if_neg (by omega)] at f5
      rw [if_pos (by omega)] at f6
      rw [if_pos (by omega)] at f7
      rw [if_pos (by omega)] at f8
      have g2 : wrap32 v = v := IntWalk.wrap32_in v (by omega)
      have g3 : wrap64 v = v := IntWalk.wrap64_in v (by omega)
      have g5 : v % 4294967296 = v := by omega
      have g6 : IntKind.u64.wrap v = v := IntWalk.u64_in v (by omega)
      clear hv
      simp [f1, f2, f3, f4, f5, f6, f7, f8, quarrylaw12_WholeWidens.j0, quarrylaw12_WholeWidens.j1, quarrylaw12_WholeWidens.j2, haw, g2, g3, g5, g6]
    · rw [if_neg (by omega)] at f1
      rw [if_neg (by omega)] at f2
      rw [if_pos (by omega)] at f3
      rw [if_pos (by omega)] at f4
      rw [if_neg (by omega)] at f5
      rw [if_pos (by omega)] at f6
      rw [if_pos (by omega)] at f7
      rw [if_pos (by omega)] at f8
      have g3 : wrap64 v = v := IntWalk.wrap64_in v (by omega)
      have g5 : v % 4294967296 = v := by omega
      have g6 : IntKind.u64.wrap v = v := IntWalk.u64_in v (by omega)
      clear hv
      simp [f1, f2, f3, f4, f5, f6, f7, f8, quarrylaw12_WholeWidens.j0, quarrylaw12_WholeWidens.j1, quarrylaw12_WholeWidens.j2, haw, g3, g5, g6]
    · rw [if_neg (by omega)] at f1
      rw [if_neg (by omega)] at f2
      rw [if_pos (by omega)] at f3
      rw [if_pos (by omega)] at f4
      rw [if_neg (by omega)] at f5
      rw [if_neg (by omega)] at f6
      rw [if_pos (by omega)] at f7
      rw [if_pos (by omega)] at f8
      have g3 : wrap64 v = v := IntWalk.wrap64_in v (by omega)
      have g6 : IntKind.u64.wrap v = v := IntWalk.u64_in v (by omega)
      clear hv
      simp [f1, f2, f3, f4, f5, f6, f7, f8, quarrylaw12_WholeWidens.j0, quarrylaw12_WholeWidens.j1, quarrylaw12_WholeWidens.j2, haw, g3, g6]
    · rw [if_neg (by omega)] at f1
      rw [if_neg (by omega)] at f2
      rw [if_neg (by omega)] at f3
      rw [if_pos (by omega)] at f4
      rw [if_neg (by omega)] at f5
      rw [if_neg (by omega)] at f6
      rw [if_pos (by omega)] at f7
      rw [if_pos (by omega)] at f8
      have g3 : wrap64 v = v := IntWalk.wrap64_in v (by omega)
      have g6 : IntKind.u64.wrap v = v := IntWalk.u64_in v (by omega)
      clear hv
      simp [f1, f2, f3, f4, f5, f6, f7, f8, quarrylaw12_WholeWidens.j0, quarrylaw12_WholeWidens.j1, quarrylaw12_WholeWidens.j2, haw, g3, g6]
    · rw [if_neg (by omega)] at f1
      rw [if_neg (by omega)] at f2
      rw [if_neg (by omega)] at f3
      rw [if_pos (by omega)] at f4
      rw [if_neg (by omega)] at f5
      rw [if_neg (by omega)] at f6
      rw [if_neg (by omega)] at f7
      rw [if_pos (by omega)] at f8
      clear hv
      simp [f1, f2, f3, f4, f5, f6, f7, f8, quarrylaw12_WholeWidens.j0, quarrylaw12_WholeWidens.j1, quarrylaw12_WholeWidens.j2, haw]
    · rw [if_neg (by omega)] at f1
      rw [if_neg (by omega)] at f2
      rw [if_neg (by omega)] at f3
      rw [if_neg (by omega)] at f4
      rw [if_neg (by omega)] at f5
      rw [if_neg (by omega)] at f6
      rw [if_neg (by omega)] at f7
      rw [if_pos (by omega)] at f8
      clear hv
      simp [f1, f2, f3, f4, f5, f6, f7, f8, quarrylaw12_WholeWidens.j0, quarrylaw12_WholeWidens.j1, quarrylaw12_WholeWidens.j2, haw]
    · rw [if_neg (by omega)] at f1
      rw [if_neg (by omega)] at f2
      rw [if_neg (by omega)] at f3
      rw [if_neg (by omega)] at f4
      rw [if_neg (by omega)] at f5
      rw [if_neg (by omega)] at f6
      rw [if_neg (by omega)] at f7
      rw [if_neg (by omega)] at f8
      clear hv
      simp [f1, f2, f3, f4, f5, f6, f7, f8, quarrylaw12_WholeWidens.j0, quarrylaw12_WholeWidens.j1, quarrylaw12_WholeWidens.j2, haw]
end Go.Proofs.YtkjmbibnfohkjaaDoor.Pure
