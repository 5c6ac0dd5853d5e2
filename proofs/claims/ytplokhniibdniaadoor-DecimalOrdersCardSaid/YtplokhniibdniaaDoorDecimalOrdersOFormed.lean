/- decimal.Formed, as it is printed. -/
import Derived.Test.YtplokhniibdniaaDoorPDecimalOrdersx3
import Derived.Test.YtplokhniibdniaaDoorFmDef
namespace Go.Proofs.YtplokhniibdniaaDoor.PDecimalOrders
open Go.RowKit Go.Proofs.YtplokhniibdniaaDoorW.PrintWords Go.Proofs.YtplokhniibdniaaDoorW.PrintLast Go.Proofs.YtplokhniibdniaaDoorW.PrintMore Go.Proofs.YtplokhniibdniaaDoor.Dec

theorem formed_loop (n : Bool) (s : ByteArray) (e : Int) (hs : s.size ≤ 140737488351232) (hp : 0 < s.size) (d : Nat) : ∀ (k i : Nat), i + d = s.size → d < k →
    decimal_Formed.l0 k (s.size : Int) (i : Int) n s e = some (digsFrom s i d && ends s e) := by
  induction d with
  | zero =>
    intro k i hi hk
    obtain ⟨k, rfl⟩ : ∃ m, k = m + 1 := ⟨k - 1, by omega⟩
    have hw : wrap64 ((s.size : Int) - 1) = (s.size : Int) - 1 := i64_small (by omega) (by omega)
    simp only [decimal_Formed.l0]
    rw [if_neg (by omega), if_pos (by omega), hw]
    unfold digsFrom ends
    by_cases h1 : bt s 0 = 48
    · simp [h1]
    · rw [if_neg h1, if_pos (by omega), if_pos (by omega)]
      by_cases h2 : bt s ((s.size : Int) - 1) = 48
      · simp [h2]
      · by_cases h3 : -1073741824 ≤ e
        · simp [h1, h2, h3]
        · simp [h2, h3]
  | succ d ih =>
    intro k i hi hk
    obtain ⟨k, rfl⟩ : ∃ m, k = m + 1 := ⟨k - 1, by omega⟩
    have hw : wrap64 ((i : Int) + 1) = ((i + 1 : Nat) : Int) := by
      rw [i64_small (by omega) (by omega)]
      omega
    have hb := bt_range s (i : Int)
    simp only [decimal_Formed.l0]
    rw [if_pos (by omega), if_pos (by omega), if_pos (by omega), hw]
    by_cases hd : isDig (bt s (i : Int)) = false
    · rw [if_pos ((dig_mod9 _ hb.1 hb.2).2 hd)]
      simp [digsFrom, hd]
    · rw [if_neg (fun h => hd ((dig_mod9 _ hb.1 hb.2).1 h)), ih k (i + 1) (by omega) (by omega)]
      simp at hd
      simp [digsFrom, hd]

theorem formed_is (n : Bool) (s : ByteArray) (e : Int) (hs : s.size ≤ 140737488351232) (k : Nat) (hk : s.size < k) : decimal_Formed.f k n s e = some (fm s e) := by
  unfold decimal_Formed.f fm
  by_cases h : s.size = 0
  · rw [if_pos ((toList_nil s).2 h), if_pos h]
  · rw [if_neg (fun g => h ((toList_nil s).1 g)), if_neg h]
    exact formed_loop n s e hs (by omega) s.size k 0 (by omega) hk

end Go.Proofs.YtplokhniibdniaaDoor.PDecimalOrders
