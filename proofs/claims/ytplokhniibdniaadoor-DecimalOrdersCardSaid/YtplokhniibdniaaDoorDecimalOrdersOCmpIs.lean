/- decimal.Cmp, as it is printed. -/
import Derived.Test.YtplokhniibdniaaDoorDecimalOrdersOFormed
import Derived.Test.YtplokhniibdniaaDoorCmpDef
namespace Go.Proofs.YtplokhniibdniaaDoor.PDecimalOrders
open Go.RowKit Go.Proofs.YtplokhniibdniaaDoorW.PrintWords Go.Proofs.YtplokhniibdniaaDoorW.PrintLast Go.Proofs.YtplokhniibdniaaDoorW.PrintMore Go.Proofs.YtplokhniibdniaaDoor.Dec

theorem sign_is (n : Bool) (s : ByteArray) (e : Int) : decimal_sign.f n s e = some (sg n s) := by
  unfold decimal_sign.f sg
  by_cases h : s.size = 0
  · rw [if_pos ((toList_nil s).2 h), if_pos h]
  · rw [if_neg (fun g => h ((toList_nil s).1 g)), if_neg h]
    cases n <;> rfl
theorem compare_is (a b : Int) : cmp_Compare_int.f a b = some (cm a b) := by
  unfold cmp_Compare_int.f cmp_isNaN_int.f cm
  by_cases h : a < b
  · simp [h]
  · by_cases g : a > b
    · simp [h, g]
    · simp [h, g]
theorem or_is (a b : Int) (k : Nat) (hk : 3 < k) : cmp_Or_int.f k [a, b] = some (if a = 0 then b else a) := by
  obtain ⟨k, rfl⟩ : ∃ m, k = m + 1 + 1 + 1 := ⟨k - 3, by omega⟩
  have w1 : wrap64 (0 + 1) = 1 := by unfold wrap64; omega
  have w2 : wrap64 (1 + 1) = 2 := by unfold wrap64; omega
  have r0 : rd [a, b] 0 = a := rfl
  have r1 : rd [a, b] 1 = b := rfl
  have hl : (([a, b] : List Int).length : Int) = 2 := rfl
  unfold cmp_Or_int.f
  rw [hl]
  rw [cmp_Or_int.l0, if_pos (by decide), if_pos (by decide), if_pos (by rw [hl]; decide), r0, w1]
  by_cases ha : a = 0
  · rw [if_pos ha, if_pos ha]
    rw [cmp_Or_int.l0, if_pos (by decide), if_pos (by decide), if_pos (by rw [hl]; decide), r1, w2]
    by_cases hb : b = 0
    · rw [if_pos hb]
      rw [cmp_Or_int.l0, if_neg (by decide), hb]
    · rw [if_neg hb]
  · rw [if_neg ha, if_neg ha]

theorem cmp_is (na : Bool) (sa : ByteArray) (ea : Int) (nb : Bool) (sb : ByteArray) (eb : Int) (ha : sa.size ≤ 140737488351232) (hb : sb.size ≤ 140737488351232) (k : Nat) (hk : sa.size + sb.size + 8 < k) :
    decimal_Cmp.f k na sa ea nb sb eb = some (cmpS na sa ea nb sb eb) := by
  obtain ⟨k, rfl⟩ : ∃ m, k = m + 1 + 1 := ⟨k - 2, by omega⟩
  unfold decimal_Cmp.f cmpS
  rw [formed_is na sa ea ha _ (by omega), formed_is nb sb eb hb _ (by omega)]
  simp only [Option.bind_some]
  cases h1 : fm sa ea
  · rw [if_neg (by decide)]
    simp [decimal_Cmp.j0]
  · rw [if_pos rfl]
    cases h2 : fm sb eb
    · simp [decimal_Cmp.j0]
    · have e1 := fm_exp h1
      have e2 := fm_exp h2
      have w1 : wrap64 ((sa.size : Int) + ea) = (sa.size : Int) + ea := i64_small (by omega) (by omega)
      have w2 : wrap64 ((sb.size : Int) + eb) = (sb.size : Int) + eb := i64_small (by omega) (by omega)
      rw [if_neg (by decide)]
      simp only [Bool.not_true, decimal_Cmp.j0]
      rw [if_neg (by decide), sign_is, sign_is]
      simp only [Option.bind_some]
      by_cases hs : sg na sa = sg nb sb
      · rw [if_pos hs]
        by_cases hz : sg na sa = 0
        · rw [if_pos (show sg na sa ≠ sg nb sb ∨ sg na sa = 0 from .inr hz), decimal_Cmp.j1, if_pos (by simp [hz]), sign_is]
          simp only [Option.bind_some]
          rw [compare_is]
          rfl
        · rw [if_neg (show ¬ (sg na sa ≠ sg nb sb ∨ sg na sa = 0) from fun h => h.elim (fun g => g hs) hz), decimal_Cmp.j1, if_neg (by simp [hz]), w1, w2, compare_is]
          simp only [Option.bind_some, strings_Compare.f]
          rw [or_is _ _ _ (by omega)]
          simp only [Option.bind_some]
          have hv := sg_vals na sa
          have hc := cm_vals ((sa.size : Int) + ea) ((sb.size : Int) + eb)
          have hd := cb_vals sa.data.toList sb.data.toList
          generalize sg na sa = x at *
          generalize cm ((sa.size : Int) + ea) ((sb.size : Int) + eb) = y at *
          generalize Lib.compareBytes sa.data.toList sb.data.toList = z at *
          rw [i64_small]
          all_goals
            split
            · rcases hv with rfl | rfl | rfl <;> rcases hd with rfl | rfl | rfl <;> decide
            · rcases hv with rfl | rfl | rfl <;> rcases hc with rfl | rfl | rfl <;> decide
      · rw [if_neg hs, if_pos (show sg na sa ≠ sg nb sb ∨ sg na sa = 0 from .inl hs), decimal_Cmp.j1, if_pos rfl, sign_is]
        simp only [Option.bind_some]
        rw [compare_is]
        rfl

end Go.Proofs.YtplokhniibdniaaDoor.PDecimalOrders
