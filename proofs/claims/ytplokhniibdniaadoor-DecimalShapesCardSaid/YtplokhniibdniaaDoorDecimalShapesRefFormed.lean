/- quarryref11.Formed, as it is printed. -/
import Derived.Test.YtplokhniibdniaaDoorStatDecimalShapes
import Derived.Test.YtplokhniibdniaaDoorFmDef
namespace Go.Proofs.YtplokhniibdniaaDoor.PDecimalShapes
open Go.RowKit Go.Proofs.YtplokhniibdniaaDoorW.PrintWords Go.Proofs.YtplokhniibdniaaDoorW.PrintLast Go.Proofs.YtplokhniibdniaaDoorW.PrintMore Go.Proofs.YtplokhniibdniaaDoor.Dec

theorem ref_digit9 (s : ByteArray) (i : Nat) (hi : i < s.size) : quarryref11_digit.f s (i : Int) = some (isDig (bt s i)) := by
  unfold quarryref11_digit.f isDig
  rw [if_pos (by omega), if_pos (by omega)]
  by_cases h : 48 ≤ bt s i
  · simp [h]
  · simp [h]

theorem ref_formed_loop (n : Bool) (s : ByteArray) (e : Int) (hs : s.size ≤ 140737488351232) (d : Nat) : ∀ (k i : Nat), i + d = s.size → d < k →
    quarryref11_Formed.l0 k (i : Int) n s e = some (digsFrom s i d && (if s.size = 0 then e == 0 else ends s e)) := by
  induction d with
  | zero =>
    intro k i hi hk
    obtain ⟨k, rfl⟩ : ∃ m, k = m + 1 := ⟨k - 1, by omega⟩
    have hw : wrap64 ((s.size : Int) - 1) = (s.size : Int) - 1 := i64_small (by omega) (by omega)
    simp only [quarryref11_Formed.l0]
    rw [if_neg (by omega)]
    by_cases hz : s.size = 0
    · rw [if_pos (by omega), if_pos hz]
      simp [digsFrom]
    · rw [if_neg (by omega), if_pos (by omega), hw, if_neg hz]
      unfold digsFrom ends
      by_cases h1 : bt s 0 = 48
      · simp [h1]
      · rw [if_neg h1, if_pos (by omega), if_pos (by omega)]
        by_cases h2 : bt s ((s.size : Int) - 1) = 48
        · simp [h2]
        · by_cases h3 : -1073741824 ≤ e
          · simp [h1, h2, h3]
          · simp [h2, h3]
  | succ d ih =>
    intro k i hi hk
    obtain ⟨k, rfl⟩ : ∃ m, k = m + 1 := ⟨k - 1, by omega⟩
    have hw : wrap64 ((i : Int) + 1) = ((i + 1 : Nat) : Int) := by
      rw [i64_small (by omega) (by omega)]
      omega
    simp only [quarryref11_Formed.l0]
    rw [if_pos (by omega), ref_digit9 s i (by omega), hw]
    simp only [Option.bind_some]
    cases hd : isDig (bt s (i : Int))
    · simp [digsFrom, hd]
    · rw [if_pos rfl, ih k (i + 1) (by omega) (by omega)]
      simp [digsFrom, hd]

theorem ref_formed_is (n : Bool) (s : ByteArray) (e : Int) (hs : s.size ≤ 140737488351232) (k : Nat) (hk : s.size < k) : quarryref11_Formed.f k n s e = some (fm s e) := by
  have h := ref_formed_loop n s e hs s.size k 0 (by omega) hk
  unfold quarryref11_Formed.f
  rw [show (0 : Int) = ((0 : Nat) : Int) from rfl, h]
  unfold fm
  by_cases hz : s.size = 0
  · rw [if_pos hz, if_pos hz, hz]
    simp [digsFrom]
  · rw [if_neg hz, if_neg hz]

end Go.Proofs.YtplokhniibdniaaDoor.PDecimalShapes
