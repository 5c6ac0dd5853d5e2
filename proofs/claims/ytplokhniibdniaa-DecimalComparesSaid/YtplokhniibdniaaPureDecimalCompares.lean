/- DecimalCompares: for every two decimals Cmp tells what the document says, in range or not; and 1e2 is above 99. No condition. -/
import Derived.Test.YtplokhniibdniaaStatDecimalCompares
namespace Go.Proofs.Ytplokhniibdniaa.Pure
open Go.RowKit Go.Proofs.Ytplokhniibdniaa.PDecimalCompares Go.Proofs.YtplokhniibdniaaW.PrintWords Go.Proofs.YtplokhniibdniaaW.PrintLast Go.Proofs.YtplokhniibdniaaW.PrintMore

theorem i64_small {i : Int} (h0 : -4611686018427387904 ≤ i) (h1 : i < 4611686018427387904) : wrap64 i = i := by
  unfold wrap64
  omega

def isDig (c : Int) : Bool := decide (48 ≤ c) && decide (c ≤ 57)
def digsFrom (s : ByteArray) (i : Nat) : Nat → Bool
  | 0 => true
  | d + 1 => isDig (bt s i) && digsFrom s (i + 1) d
def ends (s : ByteArray) (e : Int) : Bool := !decide (bt s 0 = 48) && (!decide (bt s ((s.size : Int) - 1) = 48) && (decide (-1073741824 ≤ e) && decide (e ≤ 1073741824)))
/-- Is it a decimal in its one form? -/
def fm (s : ByteArray) (e : Int) : Bool := if s.size = 0 then e == 0 else digsFrom s 0 s.size && ends s e

theorem dig_mod (c : Int) (h0 : 0 ≤ c) (h1 : c ≤ 255) : ((c - 48) % 256 > 9) ↔ isDig c = false := by
  unfold isDig
  rw [Bool.and_eq_false_iff]
  simp
  omega

theorem formed_loop (n : Bool) (s : ByteArray) (e : Int) (hs : s.size ≤ 140737488351232) (hp : 0 < s.size) (d : Nat) : ∀ (k i : Nat), i + d = s.size → d < k →
    decimal_Formed.l0 k (s.size : Int) (i : Int) n s e = some (digsFrom s i d && ends s e) := by
  induction d with
  | zero =>
    intro k i hi hk
    obtain ⟨k, rfl⟩ : ∃ m, k = m + 1 := ⟨k - 1, by omega⟩
    have hw : wrap64 ((s.size : Int) - 1) = (s.size : Int) - 1 := i64_small (by omega) (by omega)
    simp only [decimal_Formed.l0]
    rw [if_neg (by omega), if_pos (by omega), hw]
    unfold digsFrom ends
    by_cases h1 : bt s 0 = 48
    · simp [h1]
    · rw [if_neg h1, if_pos (by omega), if_pos (by omega)]
      by_cases h2 : bt s ((s.size : Int) - 1) = 48
      · simp [h2]
      · by_cases h3 : -1073741824 ≤ e
        · simp [h1, h2, h3]
        · simp [h2, h3]
  | succ d ih =>
    intro k i hi hk
    obtain ⟨k, rfl⟩ : ∃ m, k = m + 1 := ⟨k - 1, by omega⟩
    have hw : wrap64 ((i : Int) + 1) = ((i + 1 : Nat) : Int) := by
      rw [i64_small (by omega) (by omega)]
      omega
    have hb := bt_range s (i : Int)
    simp only [decimal_Formed.l0]
    rw [if_pos (by omega), if_pos (by omega), if_pos (by omega), hw]
    by_cases hd : isDig (bt s (i : Int)) = false
    · rw [if_pos ((dig_mod _ hb.1 hb.2).2 hd)]
      simp [digsFrom, hd]
    · rw [if_neg (fun h => hd ((dig_mod _ hb.1 hb.2).1 h)), ih k (i + 1) (by omega) (by omega)]
      simp at hd
      simp [digsFrom, hd]

theorem toList_nil (s : ByteArray) : s.toList = ([] : List UInt8) ↔ s.size = 0 := by
  rw [ByteArray.toList_eq, ← List.length_eq_zero_iff, Array.length_toList]
  exact Iff.rfl

theorem formed_is (n : Bool) (s : ByteArray) (e : Int) (hs : s.size ≤ 140737488351232) (k : Nat) (hk : s.size < k) : decimal_Formed.f k n s e = some (fm s e) := by
  unfold decimal_Formed.f fm
  by_cases h : s.size = 0
  · rw [if_pos ((toList_nil s).2 h), if_pos h]
  · rw [if_neg (fun g => h ((toList_nil s).1 g)), if_neg h]
    exact formed_loop n s e hs (by omega) s.size k 0 (by omega) hk

theorem ref_digit (s : ByteArray) (i : Nat) (hi : i < s.size) : quarryref11_digit.f s (i : Int) = some (isDig (bt s i)) := by
  unfold quarryref11_digit.f isDig
  rw [if_pos (by omega), if_pos (by omega)]
  by_cases h : 48 ≤ bt s i
  · simp [h]
  · simp [h]

theorem ref_formed_loop (n : Bool) (s : ByteArray) (e : Int) (hs : s.size ≤ 140737488351232) (d : Nat) : ∀ (k i : Nat), i + d = s.size → d < k →
    quarryref11_Formed.l0 k (i : Int) n s e = some (digsFrom s i d && (if s.size = 0 then e == 0 else ends s e)) := by
  induction d with
  | zero =>
    intro k i hi hk
    obtain ⟨k, rfl⟩ : ∃ m, k = m + 1 := ⟨k - 1, by omega⟩
    have hw : wrap64 ((s.size : Int) - 1) = (s.size : Int) - 1 := i64_small (by omega) (by omega)
    simp only [quarryref11_Formed.l0]
    rw [if_neg (by omega)]
    by_cases hz : s.size = 0
    · rw [if_pos (by omega), if_pos hz]
      simp [digsFrom]
    · rw [if_neg (by omega), if_pos (by omega), hw, if_neg hz]
      unfold digsFrom ends
      by_cases h1 : bt s 0 = 48
      · simp [h1]
      · rw [if_neg h1, if_pos (by omega), if_pos (by omega)]
        by_cases h2 : bt s ((s.size : Int) - 1) = 48
        · simp [h2]
        · by_cases h3 : -1073741824 ≤ e
          · simp [h1, h2, h3]
          · simp [h2, h3]
  | succ d ih =>
    intro k i hi hk
    obtain ⟨k, rfl⟩ : ∃ m, k = m + 1 := ⟨k - 1, by omega⟩
    have hw : wrap64 ((i : Int) + 1) = ((i + 1 : Nat) : Int) := by
      rw [i64_small (by omega) (by omega)]
      omega
    simp only [quarryref11_Formed.l0]
    rw [if_pos (by omega), ref_digit s i (by omega), hw]
    simp only [Option.bind_some]
    cases hd : isDig (bt s (i : Int))
    · simp [digsFrom, hd]
    · rw [if_pos rfl, ih k (i + 1) (by omega) (by omega)]
      simp [digsFrom, hd]

theorem ref_formed_is (n : Bool) (s : ByteArray) (e : Int) (hs : s.size ≤ 140737488351232) (k : Nat) (hk : s.size < k) : quarryref11_Formed.f k n s e = some (fm s e) := by
  have h := ref_formed_loop n s e hs s.size k 0 (by omega) hk
  unfold quarryref11_Formed.f
  rw [show (0 : Int) = ((0 : Nat) : Int) from rfl, h]
  unfold fm
  by_cases hz : s.size = 0
  · rw [if_pos hz, if_pos hz, hz]
    simp [digsFrom]
  · rw [if_neg hz, if_neg hz]

def sg (n : Bool) (s : ByteArray) : Int := if s.size = 0 then 0 else if n = true then -1 else 1
theorem sign_is (n : Bool) (s : ByteArray) (e : Int) : decimal_sign.f n s e = some (sg n s) := by
  unfold decimal_sign.f sg
  by_cases h : s.size = 0
  · rw [if_pos ((toList_nil s).2 h), if_pos h]
  · rw [if_neg (fun g => h ((toList_nil s).1 g)), if_neg h]
    cases n <;> rfl
theorem ref_sign_is (n : Bool) (s : ByteArray) (e : Int) : quarryref11_sign.f n s e = some (sg n s) := by
  unfold quarryref11_sign.f sg
  by_cases h : s.size = 0
  · rw [if_pos (by omega), if_pos h]
  · rw [if_neg (by omega), if_neg h]
    cases n <;> rfl
def cm (a b : Int) : Int := if a < b then -1 else if a > b then 1 else 0
theorem compare_is (a b : Int) : cmp_Compare_int.f a b = some (cm a b) := by
  unfold cmp_Compare_int.f cmp_isNaN_int.f cm
  by_cases h : a < b
  · simp [h]
  · by_cases g : a > b
    · simp [h, g]
    · simp [h, g]
theorem or_is (a b : Int) (k : Nat) (hk : 3 < k) : cmp_Or_int.f k [a, b] = some (if a = 0 then b else a) := by
  obtain ⟨k, rfl⟩ : ∃ m, k = m + 1 + 1 + 1 := ⟨k - 3, by omega⟩
  have w1 : wrap64 (0 + 1) = 1 := by unfold wrap64; omega
  have w2 : wrap64 (1 + 1) = 2 := by unfold wrap64; omega
  have r0 : rd [a, b] 0 = a := rfl
  have r1 : rd [a, b] 1 = b := rfl
  have hl : (([a, b] : List Int).length : Int) = 2 := rfl
  unfold cmp_Or_int.f
  rw [hl]
  rw [cmp_Or_int.l0, if_pos (by decide), if_pos (by decide), if_pos (by rw [hl]; decide), r0, w1]
  by_cases ha : a = 0
  · rw [if_pos ha, if_pos ha]
    rw [cmp_Or_int.l0, if_pos (by decide), if_pos (by decide), if_pos (by rw [hl]; decide), r1, w2]
    by_cases hb : b = 0
    · rw [if_pos hb]
      rw [cmp_Or_int.l0, if_neg (by decide), hb]
    · rw [if_neg hb]
  · rw [if_neg ha, if_neg ha]

theorem less_irrefl : ∀ x : List UInt8, Op.bytesLess x x = false
  | [] => rfl
  | a :: x => by
    have : ¬ a < a := by rw [UInt8.lt_iff_toNat_lt]; omega
    simp [Op.bytesLess, this, less_irrefl x]
theorem compare_less : ∀ x y : List UInt8, Lib.compareBytes x y = if Op.bytesLess y x = true then 1 else if Op.bytesLess x y = true then -1 else 0
  | [], [] => rfl
  | [], b :: y => rfl
  | a :: x, [] => rfl
  | a :: x, b :: y => by
    have ih := compare_less x y
    simp only [Lib.compareBytes, Op.bytesLess]
    rcases Nat.lt_trichotomy a.toNat b.toNat with h | h | h
    · have h2 : a < b := h
      have h3 : ¬ b < a := by rw [UInt8.lt_iff_toNat_lt]; omega
      have h4 : (b == a) = false := by
        rw [beq_eq_false_iff_ne]
        rintro rfl
        omega
      simp [h2, h3, h4]
    · obtain rfl : a = b := UInt8.toNat_inj.1 h
      have h2 : ¬ a < a := by rw [UInt8.lt_iff_toNat_lt]; omega
      simp only [h2, decide_false, Bool.false_or, beq_self_eq_true, Bool.true_and, if_false]
      exact ih
    · have h2 : b < a := h
      have h3 : ¬ a < b := by rw [UInt8.lt_iff_toNat_lt]; omega
      simp [h2, h3]

/-- What Cmp tells. -/
def cmpS (na : Bool) (sa : ByteArray) (ea : Int) (nb : Bool) (sb : ByteArray) (eb : Int) : Int × Int :=
  if (fm sa ea && fm sb eb) = false then (0, 1)
  else if sg na sa ≠ sg nb sb ∨ sg na sa = 0 then (cm (sg na sa) (sg nb sb), 0)
  else (sg na sa * (if cm ((sa.size : Int) + ea) ((sb.size : Int) + eb) = 0 then Lib.compareBytes sa.data.toList sb.data.toList else cm ((sa.size : Int) + ea) ((sb.size : Int) + eb)), 0)

theorem fm_exp {s : ByteArray} {e : Int} (h : fm s e = true) : -1073741824 ≤ e ∧ e ≤ 1073741824 := by
  unfold fm ends at h
  by_cases hz : s.size = 0
  · rw [if_pos hz] at h
    have : e = 0 := by simpa using h
    omega
  · rw [if_neg hz] at h
    simp at h
    exact ⟨h.2.2.2.1, h.2.2.2.2⟩
theorem sg_vals (n : Bool) (s : ByteArray) : sg n s = 0 ∨ sg n s = 1 ∨ sg n s = -1 := by
  unfold sg
  split
  · exact .inl rfl
  · cases n
    · exact .inr (.inl rfl)
    · exact .inr (.inr rfl)
theorem cm_vals (a b : Int) : cm a b = 0 ∨ cm a b = 1 ∨ cm a b = -1 := by
  unfold cm
  split
  · exact .inr (.inr rfl)
  · split
    · exact .inr (.inl rfl)
    · exact .inl rfl
theorem cb_vals (x y : List UInt8) : Lib.compareBytes x y = 0 ∨ Lib.compareBytes x y = 1 ∨ Lib.compareBytes x y = -1 := by
  rw [compare_less]
  split
  · exact .inr (.inl rfl)
  · split
    · exact .inr (.inr rfl)
    · exact .inl rfl

theorem cmp_is (na : Bool) (sa : ByteArray) (ea : Int) (nb : Bool) (sb : ByteArray) (eb : Int) (ha : sa.size ≤ 140737488351232) (hb : sb.size ≤ 140737488351232) (k : Nat) (hk : sa.size + sb.size + 8 < k) :
    decimal_Cmp.f k na sa ea nb sb eb = some (cmpS na sa ea nb sb eb) := by
  obtain ⟨k, rfl⟩ : ∃ m, k = m + 1 + 1 := ⟨k - 2, by omega⟩
  unfold decimal_Cmp.f cmpS
  rw [formed_is na sa ea ha _ (by omega), formed_is nb sb eb hb _ (by omega)]
  simp only [Option.bind_some]
  cases h1 : fm sa ea
  · rw [if_neg (by decide)]
    simp [decimal_Cmp.j0]
  · rw [if_pos rfl]
    cases h2 : fm sb eb
    · simp [decimal_Cmp.j0]
    · have e1 := fm_exp h1
      have e2 := fm_exp h2
      have w1 : wrap64 ((sa.size : Int) + ea) = (sa.size : Int) + ea := i64_small (by omega) (by omega)
      have w2 : wrap64 ((sb.size : Int) + eb) = (sb.size : Int) + eb := i64_small (by omega) (by omega)
      rw [if_neg (by decide)]
      simp only [Bool.not_true, decimal_Cmp.j0]
      rw [if_neg (by decide), sign_is, sign_is]
      simp only [Option.bind_some]
      by_cases hs : sg na sa = sg nb sb
      · rw [if_pos hs]
        by_cases hz : sg na sa = 0
        · rw [if_pos (show sg na sa ≠ sg nb sb ∨ sg na sa = 0 from .inr hz), decimal_Cmp.j1, if_pos (by simp [hz]), sign_is]
          simp only [Option.bind_some]
          rw [compare_is]
          rfl
        · rw [if_neg (show ¬ (sg na sa ≠ sg nb sb ∨ sg na sa = 0) from fun h => h.elim (fun g => g hs) hz), decimal_Cmp.j1, if_neg (by simp [hz]), w1, w2, compare_is]
          simp only [Option.bind_some, strings_Compare.f]
          rw [or_is _ _ _ (by omega)]
          simp only [Option.bind_some]
          have hv := sg_vals na sa
          have hc := cm_vals ((sa.size : Int) + ea) ((sb.size : Int) + eb)
          have hd := cb_vals sa.data.toList sb.data.toList
          generalize sg na sa = x at *
          generalize cm ((sa.size : Int) + ea) ((sb.size : Int) + eb) = y at *
          generalize Lib.compareBytes sa.data.toList sb.data.toList = z at *
          rw [i64_small]
          all_goals
            split
            · rcases hv with rfl | rfl | rfl <;> rcases hd with rfl | rfl | rfl <;> decide
            · rcases hv with rfl | rfl | rfl <;> rcases hc with rfl | rfl | rfl <;> decide
      · rw [if_neg hs, if_pos (show sg na sa ≠ sg nb sb ∨ sg na sa = 0 from .inl hs), decimal_Cmp.j1, if_pos rfl, sign_is]
        simp only [Option.bind_some]
        rw [compare_is]
        rfl

theorem toList_data (s : ByteArray) : s.toList = s.data.toList := ByteArray.toList_eq s

theorem ref_cmp_is (na : Bool) (sa : ByteArray) (ea : Int) (nb : Bool) (sb : ByteArray) (eb : Int) (ha : sa.size ≤ 140737488351232) (hb : sb.size ≤ 140737488351232) (k : Nat) (hk : sa.size + sb.size + 8 < k) :
    quarryref11_Cmp.f k na sa ea nb sb eb = some (cmpS na sa ea nb sb eb) := by
  obtain ⟨k, rfl⟩ : ∃ m, k = m + 1 := ⟨k - 1, by omega⟩
  unfold quarryref11_Cmp.f cmpS
  rw [ref_formed_is na sa ea ha _ (by omega), ref_formed_is nb sb eb hb _ (by omega)]
  simp only [Option.bind_some]
  cases h1 : fm sa ea
  · rw [if_neg (by decide)]
    simp [quarryref11_Cmp.j0]
  · rw [if_pos rfl]
    cases h2 : fm sb eb
    · simp [quarryref11_Cmp.j0]
    · have e1 := fm_exp h1
      have e2 := fm_exp h2
      have w1 : wrap64 ((sa.size : Int) + ea) = (sa.size : Int) + ea := i64_small (by omega) (by omega)
      have w2 : wrap64 ((sb.size : Int) + eb) = (sb.size : Int) + eb := i64_small (by omega) (by omega)
      rw [if_neg (by decide)]
      simp only [Bool.not_true, quarryref11_Cmp.j0]
      rw [if_neg (by decide), ref_sign_is, ref_sign_is]
      simp only [Option.bind_some]
      by_cases hs : sg na sa = sg nb sb
      · by_cases hz : sg na sa = 0
        · rw [if_neg (by omega), if_neg (by omega), if_pos hz, if_pos (show sg na sa ≠ sg nb sb ∨ sg na sa = 0 from .inr hz)]
          simp [cm, ← hs]
        · rw [if_neg (by omega), if_neg (by omega), if_neg hz, if_neg (show ¬ (sg na sa ≠ sg nb sb ∨ sg na sa = 0) from fun h => h.elim (fun g => g hs) hz)]
          unfold quarryref11_above.f
          rw [w1, w2]
          have hv := sg_vals na sa
          have hm : wrap64 (-sg na sa) = -sg na sa := i64_small (by omega) (by omega)
          by_cases hp : (sa.size : Int) + ea = (sb.size : Int) + eb
          · rw [if_pos hp, if_pos hp.symm]
            have hc : cm ((sa.size : Int) + ea) ((sb.size : Int) + eb) = 0 := by simp [cm, hp]
            rw [if_pos hc, compare_less, ← toList_data, ← toList_data]
            simp only [Option.bind_some]
            cases Op.bytesLess sb.toList sa.toList
            · cases Op.bytesLess sa.toList sb.toList
              · simp
              · simp [hm]
            · simp
          · rw [if_neg hp, if_neg (fun h => hp h.symm)]
            simp only [Option.bind_some]
            by_cases hg : (sa.size : Int) + ea > (sb.size : Int) + eb
            · have hc : cm ((sa.size : Int) + ea) ((sb.size : Int) + eb) = 1 := by unfold cm; rw [if_neg (by omega), if_pos hg]
              rw [if_pos (by simpa using hg), hc]
              simp
            · have hc : cm ((sa.size : Int) + ea) ((sb.size : Int) + eb) = -1 := by unfold cm; rw [if_pos (by omega)]
              rw [if_neg (by simpa using hg), if_pos (by simp; omega), hc, hm]
              simp
      · rw [if_pos (show sg na sa ≠ sg nb sb ∨ sg na sa = 0 from .inl hs)]
        by_cases hl : sg na sa < sg nb sb
        · rw [if_pos hl]
          simp [cm, hl]
        · rw [if_neg hl, if_pos (by omega)]
          have : sg na sa > sg nb sb := by omega
          simp [cm, hl, this]

/- ∀ (a0_0 : Bool) (a0_1 : ByteArray) (a0_2 : Int) (a1_0 : Bool) (a1_1 : ByteArray) (a1_2 : Int), .. → ∃ k, quarrylaw11_DecimalCompares.f k a0_0 a0_1 a0_2 a1_0 a1_1 a1_2 = some true -/
theorem DecimalCompares : quarrylaw11_DecimalCompares.Pure := by
  intro na sa ea nb sb eb ha _ hb _
  refine ⟨sa.size + sb.size + 20, ?_⟩
  have h1 : decimal_Cmp.f (sa.size + sb.size + 20) false (⟨#[49]⟩ : ByteArray) 2 false (⟨#[57, 57]⟩ : ByteArray) 0 = some (1, 0) := by
    rw [cmp_is _ _ _ _ _ _ (by decide) (by decide) _ (by show 1 + 2 + 8 < _; omega)]
    decide
  unfold quarrylaw11_DecimalCompares.f
  rw [h1]
  simp only [Option.bind_some, if_true]
  obtain ⟨k, hk⟩ : ∃ k, sa.size + sb.size + 20 = k + 1 := ⟨_, rfl⟩
  rw [hk]
  simp only [quarrylaw11_DecimalCompares.j0]
  rw [if_neg (by decide), cmp_is na sa ea nb sb eb ha hb k (by omega), ref_cmp_is na sa ea nb sb eb ha hb k (by omega)]
  simp

end Go.Proofs.Ytplokhniibdniaa.Pure
