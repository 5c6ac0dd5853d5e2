/- WholeTexts: for every two numbers, Text of each type tells what the library's decimal text tells. No condition. -/
import Derived.Test.YtkjmbibnfohkjaaDoorStatWholeTexts
namespace Go.Proofs.YtkjmbibnfohkjaaDoor.Pure
open Go.RowKit Go.Proofs.YtkjmbibnfohkjaaDoor.PWholeTexts Go.Proofs.YtkjmbibnfohkjaaDoorW.PrintWords Go.Proofs.YtkjmbibnfohkjaaDoorW.PrintLast Go.Proofs.YtkjmbibnfohkjaaDoorW.PrintMore

theorem fmt_int (n : Int) (h0 : -9223372036854775808 ≤ n) (h1 : n ≤ 9223372036854775807) : strconv_FormatInt.f n 10 = some ⟨(Lib.itoa n).toArray⟩ := by
  unfold strconv_FormatInt.f
  rw [if_pos ⟨⟨h0, h1⟩, rfl⟩]
theorem fmt_uint (n : Int) (h0 : 0 ≤ n) (h1 : n < 18446744073709551616) : strconv_FormatUint.f n 10 = some ⟨(Lib.itoa n).toArray⟩ := by
  unfold strconv_FormatUint.f
  rw [if_pos ⟨⟨h0, h1⟩, rfl⟩]
  obtain ⟨u, rfl⟩ := Int.eq_ofNat_of_zero_le h0
  rw [Lib.itoa_nonneg, Int.toNat_natCast]
theorem w8 (x : Int) : -128 ≤ IntKind.i8.wrap x ∧ IntKind.i8.wrap x ≤ 127 := by
  simp only [IntKind.wrap, IntKind.bits, IntKind.signed]
  simp
  omega
theorem w16 (x : Int) : -32768 ≤ IntKind.i16.wrap x ∧ IntKind.i16.wrap x ≤ 32767 := by
  simp only [IntKind.wrap, IntKind.bits, IntKind.signed]
  simp
  omega
theorem wu16 (x : Int) : 0 ≤ IntKind.u16.wrap x ∧ IntKind.u16.wrap x ≤ 65535 := by
  simp only [IntKind.wrap, IntKind.bits, IntKind.signed]
  simp
  omega
theorem w32 (x : Int) : -2147483648 ≤ wrap32 x ∧ wrap32 x ≤ 2147483647 := by
  unfold wrap32
  omega
theorem t64 (x : Int) (h : -9223372036854775808 ≤ x ∧ x ≤ 9223372036854775807) : wrap64 x = x := by
  unfold wrap64
  omega
theorem tu64 (x : Int) (h : 0 ≤ x ∧ x ≤ 65535) : IntKind.u64.wrap x = x := by
  rw [IntKind.wrap_u64]
  omega
/- ∀ (a0 : Int) (a1 : Int), ((Lit.int .i64 a0).wf = true) → ((Lit.int .u64 a1).wf = true) → ∃ k, quarrylaw12_WholeTexts.f k a0 a1 = some true -/
theorem WholeTexts : quarrylaw12_WholeTexts.Pure := by
  intro a0 a1 h0 h1
  have h0' : -9223372036854775808 ≤ a0 ∧ a0 ≤ 9223372036854775807 := by simpa [Lit.wf, IntKind.min, IntKind.max, IntKind.signed, IntKind.bits] using h0
  have h1' : 0 ≤ a1 ∧ a1 ≤ 18446744073709551615 := by simpa [Lit.wf, IntKind.min, IntKind.max, IntKind.signed, IntKind.bits] using h1
  have b8 := w8 a0
  have b16 := w16 a0
  have b32 := w32 a0
  have u16 := wu16 a1
  refine ⟨2, ?_⟩
  unfold quarrylaw12_WholeTexts.f
  rw [show whole_Text_int64.f a0 = some ⟨(Lib.itoa a0).toArray⟩ from if_pos h0', fmt_int a0 h0'.1 h0'.2, Option.bind_some, Option.bind_some, if_pos rfl,
    show whole_Text_int.f a0 = some ⟨(Lib.itoa a0).toArray⟩ from if_pos h0', Option.bind_some, Option.bind_some, if_pos rfl,
    show whole_Text_uint64.f a1 = some ⟨(Lib.itoa a1).toArray⟩ from if_pos h1', fmt_uint a1 h1'.1 (by omega), Option.bind_some, Option.bind_some, if_pos rfl,
    show whole_Text_uint.f a1 = some ⟨(Lib.itoa a1).toArray⟩ from if_pos h1', Option.bind_some, Option.bind_some, bne_self_eq_false, quarrylaw12_WholeTexts.j0, if_neg (by decide)]
  rw [t64 _ (by omega), t64 _ (by omega), t64 _ (by omega)]
  rw [show whole_Text_int8.f (IntKind.i8.wrap a0) = some ⟨(Lib.itoa (IntKind.i8.wrap a0)).toArray⟩ from if_pos b8, fmt_int (IntKind.i8.wrap a0) (by omega) (by omega), Option.bind_some, Option.bind_some, if_pos rfl,
    show whole_Text_int16.f (IntKind.i16.wrap a0) = some ⟨(Lib.itoa (IntKind.i16.wrap a0)).toArray⟩ from if_pos b16, fmt_int (IntKind.i16.wrap a0) (by omega) (by omega), Option.bind_some, Option.bind_some, if_pos rfl,
    show whole_Text_int32.f (wrap32 a0) = some ⟨(Lib.itoa (wrap32 a0)).toArray⟩ from if_pos b32, fmt_int (wrap32 a0) (by omega) (by omega), Option.bind_some, Option.bind_some, if_pos rfl,
    show whole_Text_Small.f (IntKind.i8.wrap a0) = some ⟨(Lib.itoa (IntKind.i8.wrap a0)).toArray⟩ from if_pos b8, Option.bind_some, Option.bind_some, bne_self_eq_false, quarrylaw12_WholeTexts.j1, if_neg (by decide)]
  rw [tu64 _ u16]
  rw [show whole_Text_uint8.f (a1 % 256) = some ⟨(Lib.itoa (a1 % 256)).toArray⟩ from if_pos (by omega), fmt_uint (a1 % 256) (by omega) (by omega), Option.bind_some, Option.bind_some, if_pos rfl,
    show whole_Text_uint16.f (IntKind.u16.wrap a1) = some ⟨(Lib.itoa (IntKind.u16.wrap a1)).toArray⟩ from if_pos u16, fmt_uint (IntKind.u16.wrap a1) (by omega) (by omega), Option.bind_some, Option.bind_some, if_pos rfl,
    show whole_Text_uint32.f (a1 % 4294967296) = some ⟨(Lib.itoa (a1 % 4294967296)).toArray⟩ from if_pos (by omega), fmt_uint (a1 % 4294967296) (by omega) (by omega), Option.bind_some, Option.bind_some, if_pos rfl,
    show whole_Text_Long.f a1 = some ⟨(Lib.itoa a1).toArray⟩ from if_pos h1', fmt_uint a1 h1'.1 (by omega), Option.bind_some, Option.bind_some, beq_self_eq_true]
end Go.Proofs.YtkjmbibnfohkjaaDoor.Pure
