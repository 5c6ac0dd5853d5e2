/- BitmapLimits: the longest row is made, one bit more is refused; the refusals by their numbers. No parameter. -/
import Derived.Test.YtahmpmlbonpabaaStatBitmapLimits
import Derived.Laws.Bits64
namespace Go.Proofs.Ytahmpmlbonpabaa.Pure
open Go.RowKit Go.Proofs.Ytahmpmlbonpabaa.PBitmapLimits Go.Proofs.YtahmpmlbonpabaaW.PrintWords Go.Proofs.YtahmpmlbonpabaaW.PrintLast Go.Proofs.YtahmpmlbonpabaaW.PrintMore

theorem limits_size (n : Nat) (hn : n ≤ 140737488355328) (hm : n % 64 = 0) : bitmap_size.f (n : Int) = some ((n / 64 : Nat) : Int) := by
  have e1 : Int.tmod (n : Int) 64 = ((n % 64 : Nat) : Int) := (Int.ofNat_tmod n 64).symm
  have e2 : Int.tdiv (n : Int) 64 = ((n / 64 : Nat) : Int) := (Int.ofNat_tdiv n 64).symm
  unfold bitmap_size.f
  rw [e1, e2, if_pos (by omega)]
  congr 1
  unfold wrap64
  omega
theorem limits_big (k : Nat) : bitmap_Make.f (k + 1) 16777217 ([] : List Int) = some (0, [], 2) := by
  unfold bitmap_Make.f
  rw [if_neg (by decide), decide_eq_true (by decide), bitmap_Make.j0, if_pos rfl]
theorem limits_neg (k : Nat) : bitmap_Make.f (k + 1) (-1) ([] : List Int) = some (0, [], 2) := by
  unfold bitmap_Make.f
  rw [if_pos (by decide), bitmap_Make.j0, if_pos rfl]
theorem limits_three (k : Nat) : bitmap_Make.f (k + 2) 3 [3] = some (0, [], 2) := by
  have e1 : Int.tmod 3 64 = 3 := by decide
  have e2 : Int.tdiv 3 64 = 0 := by decide
  have hs : bitmap_size.f 3 = some 1 := by
    unfold bitmap_size.f
    rw [e1, e2, if_neg (by decide)]
    congr 1
    unfold wrap64
    omega
  have r0 : rd [3] 0 = 3 := rfl
  unfold bitmap_Make.f
  rw [if_neg (by decide), decide_eq_false (by decide), bitmap_Make.j0, if_neg (by decide), hs, Option.bind_some, if_pos (by decide), if_pos (by decide)]
  rw [bitmap_Make.l0, if_pos (by decide), if_pos (by decide), if_pos (by decide), r0, if_neg (by decide), if_pos (by decide)]
theorem limits_not (k : Nat) : bitmap_Not.f (k + 2) 3 ([] : List Int) = some (0, [], 1) := by
  have e1 : Int.tmod 3 64 = 3 := by decide
  have e2 : Int.tdiv 3 64 = 0 := by decide
  have hs : bitmap_size.f 3 = some 1 := by
    unfold bitmap_size.f
    rw [e1, e2, if_neg (by decide)]
    congr 1
    unfold wrap64
    omega
  have hf : bitmap_Formed.f 3 ([] : List Int) = some false := by
    unfold bitmap_Formed.f
    rw [if_neg (by decide), hs, Option.bind_some, if_neg (by decide)]
  have hb : bitmap_both.f (k + 2) 3 ([] : List Int) 3 ([] : List Int) = some (0, [], 1) := by
    unfold bitmap_both.f
    rw [hf, Option.bind_some, if_neg (by decide), bitmap_both.j0, if_pos rfl]
  unfold bitmap_Not.f bitmap_Xor.f
  rw [hb, Option.bind_some, Option.bind_some, if_neg (by decide)]

theorem limits_long (k : Nat) : ∃ l, bitmap_Make.f (k + 3) 16777216 [16777215] = some (16777216, l, 0) ∧ l.length = 262144 ∧ rd l 262143 = 9223372036854775808 := by
  have hs : bitmap_size.f 16777216 = some ((262144 : Nat) : Int) := limits_size 16777216 (by decide) (by decide)
  have e1 : Int.tmod 16777215 64 = 63 := by decide
  have e2 : wrap64 (Int.tdiv 16777215 64) = ((262143 : Nat) : Int) := by
    rw [show Int.tdiv 16777215 64 = 262143 from by decide]
    unfold wrap64
    omega
  have hsh : shl .u64 1 63 = 9223372036854775808 := by
    unfold shl
    rw [show ((63 : Int).toNat) = 63 from rfl, Nat.min_eq_left (by decide), show ((1 : Int) * 2 ^ 63) = 9223372036854775808 from by decide, IntKind.wrap_u64]
    decide
  have hor : ∀ z : Int, z = 0 → Go.bits .or .u64 z 9223372036854775808 = 9223372036854775808 := by
    rintro z rfl
    decide
  obtain ⟨n, hn⟩ : ∃ n : Nat, n = 262144 := ⟨_, rfl⟩
  obtain ⟨m, hm⟩ : ∃ m : Nat, m = 262143 := ⟨_, rfl⟩
  have hmn : m < n := by omega
  have hz : rd (List.replicate n 0) (m : Int) = 0 := by
    unfold rd
    rw [Int.toNat_natCast, List.getD_eq_getElem?_getD, List.getElem?_replicate]
    rw [if_pos hmn]
    rfl
  have r0 : rd [16777215] 0 = 16777215 := rfl
  rw [← hn] at hs
  rw [← hm] at e2
  have h1 : (n : Int) = 262144 := by omega
  refine ⟨(List.replicate n 0).set m 9223372036854775808, ?_, ?_, ?_⟩
  · unfold bitmap_Make.f
    rw [if_neg (by decide), decide_eq_false (by decide), bitmap_Make.j0, if_neg (by decide), hs, Option.bind_some, if_pos (by omega), Int.toNat_natCast, if_pos (by omega)]
    rw [bitmap_Make.l0, if_pos (by decide), if_pos (by decide), if_pos (by decide), r0, if_neg (by decide), if_neg (by decide), e2, e1, if_pos (by omega), List.length_replicate, if_pos (by omega), if_pos (by decide), hsh, hor _ hz, Int.toNat_natCast]
    rw [bitmap_Make.l0, if_neg (by rw [show wrap64 (0 + 1) = 1 from by unfold wrap64; omega]; decide)]
  · rw [List.length_set, List.length_replicate, hn]
  · rw [show (262143 : Int) = ((m : Nat) : Int) from by omega]
    unfold rd
    rw [Int.toNat_natCast, List.getD_eq_getElem?_getD, List.getElem?_set_self (by rw [List.length_replicate]; exact hmn)]
    rfl

theorem BitmapLimits : quarrylaw04_BitmapLimits.Pure := by
  obtain ⟨l, h1, h2, h3⟩ := limits_long 0
  refine ⟨3, ?_⟩
  unfold quarrylaw04_BitmapLimits.f
  rw [h1, Option.bind_some, limits_big, Option.bind_some, limits_neg, Option.bind_some, limits_three, Option.bind_some, limits_not, Option.bind_some, if_pos rfl, if_pos rfl]
  rw [h2, if_pos (by decide), if_pos (by decide), h3, if_pos rfl, if_pos rfl, if_pos rfl, if_pos rfl]
  rfl
end Go.Proofs.Ytahmpmlbonpabaa.Pure
