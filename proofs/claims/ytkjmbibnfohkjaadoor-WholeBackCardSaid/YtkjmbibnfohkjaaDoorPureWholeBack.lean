/- Joined texts of one law. -/
import Derived.Test.YtkjmbibnfohkjaaDoorWholeCmp
import Derived.Test.YtkjmbibnfohkjaaDoorNumFm
import Derived.Lib.ItoaLen
import Derived.Test.YtkjmbibnfohkjaaDoorStatWholeBack
/- A row of digits in its one form, behind a minus or not, is taken: for the number that it is. Plain Lean. -/
namespace Go.Proofs.YtkjmbibnfohkjaaDoor.Whole
open Go.RowKit Go.Proofs.YtkjmbibnfohkjaaDoorW.PrintWords Go.Proofs.YtkjmbibnfohkjaaDoorW.PrintLast Go.Proofs.YtkjmbibnfohkjaaDoorW.PrintMore Go.Proofs.YtkjmbibnfohkjaaDoor.Dec Go.Proofs.YtkjmbibnfohkjaaDoor.Reader
theorem digs_at {s : ByteArray} (hc : Dgs (digitsOf s)) (j : Nat) (h1 : startOf s 0 ≤ j) (h2 : j < s.size) : dg s j = true := by
  have hl : j - startOf s 0 < (digitsOf s).length := by
    unfold digitsOf
    rw [List.length_drop]
    have : s.data.toList.length = s.size := rfl
    omega
  have hm := hc _ (List.getElem_mem hl)
  have hg : s.data.toList[j]? = some ((digitsOf s)[j - startOf s 0]) := by
    rw [← List.getElem?_eq_getElem hl]
    unfold digitsOf
    rw [List.getElem?_drop, show startOf s 0 + (j - startOf s 0) = j from by omega]
  obtain ⟨_, hb⟩ := Whole.byte_at hg
  unfold dg isDig
  rw [decide_eq_true h2, Bool.true_and, ← hb]
  simp
  omega
theorem canon_parts (s : ByteArray) (hc : Canon (digitsOf s)) : partsOf s (startOf s 0) = ⟨true, s.size, s.size, s.size, s.size, s.size, false⟩ := by
  have hlen : (digitsOf s).length = s.size - startOf s 0 := by
    unfold digitsOf
    rw [List.length_drop]
    rfl
  have hlt : startOf s 0 < s.size := by
    have := List.length_pos_iff.2 hc.2.1
    omega
  have hdg := digs_at hc.1
  have h0 := hc.2.2
  have hhead : (digitsOf s).head? = s.data.toList[startOf s 0]? := by
    unfold digitsOf
    rw [List.head?_drop]
  have hg : s.data.toList[startOf s 0]? = some (s.data.toList[startOf s 0]'hlt) := List.getElem?_eq_getElem hlt
  obtain ⟨_, hb⟩ := Whole.byte_at hg
  rw [hhead, hg, hlen] at h0
  generalize s.data.toList[startOf s 0]'hlt = c at *
  generalize startOf s 0 = a at *
  have nA : ∀ x y, isAt s s.size x y = false := by
    intro x y
    unfold isAt
    rw [decide_eq_false (by omega)]
    rfl
  have hp : point s s.size = ⟨true, s.size, s.size, s.size, s.size, s.size, false⟩ := by
    unfold point expo
    rw [nA, nA, if_neg (by decide), if_neg (by decide)]
  unfold partsOf
  rw [if_pos (hdg a (Nat.le_refl _) hlt)]
  by_cases h48 : bt s (a : Int) = 48
  · rw [if_pos h48]
    have : c = 48 := UInt8.toNat_inj.1 (by show c.toNat = 48; omega)
    have := h0 (by rw [this])
    rw [show a + 1 = s.size from by omega, hp]
  · rw [if_neg h48]
    have e : dEnd s (a + 1) = s.size := by
      have h1 := dEnd_le s (i := a + 1) (by omega)
      have h2 := dEnd_ge s (a + 1)
      have h3 := dEnd_end s (a + 1)
      by_cases h : dEnd s (a + 1) = s.size
      · exact h
      · rw [hdg _ (by omega) (by omega)] at h3
        cases h3
    rw [e, hp]
theorem sub_len {p : UInt8 → Bool} (l : List UInt8) : (l.dropWhile p).length ≤ l.length := (List.dropWhile_sublist p).length_le
/-- What decimal.Of tells of it. -/
theorem canon_of (s : ByteArray) (hc : Canon (digitsOf s)) (hs : s.size ≤ 1000) : ofR (readOf s 0) s.size = ((numOf (minus s) (digitsOf s) 0 0).1, (numOf (minus s) (digitsOf s) 0 0).2.1, (numOf (minus s) (digitsOf s) 0 0).2.2.1, 0) ∧ (numOf (minus s) (digitsOf s) 0 0).2.2.2 = true ∧ Digits (digitsOf s) := by
  have hp := canon_parts s hc
  have hpe : piece s (startOf s 0) s.size ++ piece s s.size s.size = digitsOf s := by
    rw [piece_self, List.append_nil]
    unfold piece digitsOf
    exact List.take_of_length_le (by rw [List.length_drop]; exact Nat.le_refl _)
  have hy := readOf_yes (s := s) (i := 0) (p := partsOf s (startOf s 0)) (n := minus s) (l := digitsOf s) (d := 0) (e := 0) rfl (by rw [hp]) rfl (by rw [hp]; exact hpe.symm) (by rw [hp]; exact (Nat.sub_self _).symm) (by rw [hp]; simp only [Bool.false_eq_true, if_false]; rw [piece_self]; rfl)
  have hbig : (numOf (minus s) (digitsOf s) 0 0).2.2.2 = true := by
    have hl : (digitsOf s).length ≤ 1000 := by
      unfold digitsOf
      rw [List.length_drop]
      have : s.data.toList.length = s.size := rfl
      omega
    unfold numOf
    split
    · rfl
    · rename_i h1
      have a1 : (trimA (digitsOf s)).size ≤ (digitsOf s).length := by
        show ((Lib.trimLeftB (digitsOf s) 48).toArray).size ≤ _
        rw [List.size_toArray]
        exact sub_len _
      have a2 : 0 ≤ (trimB (digitsOf s)).size := Nat.zero_le _
      have a3 : (trimB (digitsOf s)).size ≤ 1000 := by
        have := num_size (minus s) (digitsOf s) 0 0
        show ((Lib.trimRightB (Lib.trimLeftB (digitsOf s) 48) 48).toArray).size ≤ _
        rw [List.size_toArray]
        refine Nat.le_trans ?_ hl
        refine Nat.le_trans ?_ (sub_len (p := fun b => b == 48) _)
        unfold Lib.trimRightB
        rw [List.length_reverse]
        refine Nat.le_trans (sub_len _) ?_
        rw [List.length_reverse]
        exact Nat.le_refl _
      rw [if_neg (by unfold expOf; omega)]
  refine ⟨?_, hbig, ?_⟩
  · rw [hy, if_pos hbig, hp]
    unfold ofR
    simp only
    rw [if_neg (by decide), if_neg (by omega)]
  · intro c hcm
    have := hc.1 c hcm
    omega
/-- No mark stands in it. -/
theorem canon_mark (s : ByteArray) (hc : Canon (digitsOf s)) : Lib.containsAny s.data.toList [46, 101, 69] = false := by
  cases h : Lib.containsAny s.data.toList [46, 101, 69] with
  | false => rfl
  | true =>
    exfalso
    have hno : Lib.NoAny s.data.toList [46, 101, 69] s.data.toList.length := by
      intro j b hj hb
      cases hcc : ([46, 101, 69] : List UInt8).contains b with
      | false => rfl
      | true =>
        exfalso
        obtain ⟨hl, hbt⟩ := Whole.byte_at hb
        have hbm : b.toNat = 46 ∨ b.toNat = 101 ∨ b.toNat = 69 := by
          simp at hcc
          rcases hcc with rfl | rfl | rfl
          · exact .inl rfl
          · exact .inr (.inl rfl)
          · exact .inr (.inr rfl)
        by_cases hj0 : startOf s 0 ≤ j
        · have := dg_dig (digs_at hc.1 j hj0 hl)
          omega
        · unfold startOf at hj0
          split at hj0
          · rename_i hm
            have := (isAt_yes hm).2
            obtain rfl : j = 0 := by omega
            omega
          · omega
    unfold Lib.containsAny at h
    rw [Lib.indexAny_none hno] at h
    exact absurd h (by decide)
theorem canon_whole (s : ByteArray) (hc : Canon (digitsOf s)) (hs : s.size ≤ 1000) (lo hi : Int) (h0 : lo ≤ 0) (h1 : 0 ≤ hi) (h2 : lo ≤ valueOf s) (h3 : valueOf s ≤ hi) : wholeR lo hi s = (valueOf s, 0) := by
  have ho := (canon_of s hc hs).1
  rcases way s with ⟨h, _⟩ | ⟨h, hm, _⟩ | ⟨h, hm, _, hw⟩
  · rw [ho] at h
    exact absurd (show (0 : Int) = 110 from h) (by decide)
  · rw [canon_mark s hc] at hm
    cases hm
  · rw [hw lo hi h0 h1, if_pos ⟨h2, h3⟩]
/-- The text of a number. -/
theorem text_is (n : Int) : digitsOf ⟨(Lib.itoa n).toArray⟩ = Lib.decDigits n.natAbs ∧ minus ⟨(Lib.itoa n).toArray⟩ = decide (n < 0) := by
  obtain ⟨s, hs⟩ : ∃ s : ByteArray, s = ⟨(Lib.itoa n).toArray⟩ := ⟨_, rfl⟩
  have hl : s.data.toList = Lib.itoa n := by rw [hs]
  rw [← hs]
  obtain ⟨c1, c2⟩ := cut_is s
  rw [← c1, ← c2, hl]
  by_cases h : n < 0
  · have e : Lib.itoa n = 45 :: Lib.decDigits n.natAbs := by unfold Lib.itoa; rw [if_pos h]
    rw [e, decide_eq_true h]
    constructor
    · rfl
    · rfl
  · have e : Lib.itoa n = Lib.decDigits n.natAbs := by
      unfold Lib.itoa
      rw [if_neg h, show n.toNat = n.natAbs from by omega]
    have hd := dec_dgs n.natAbs n.natAbs (Nat.le_refl _)
    rw [e, decide_eq_false h]
    have hp : Lib.hasPrefix (Lib.decDigits n.natAbs) [45] = false := by
      cases hq : Lib.decDigits n.natAbs with
      | nil => rfl
      | cons c l =>
        have := hd.1 c (by rw [hq]; exact List.mem_cons_self ..)
        show (((45 : UInt8) == c) && List.isPrefixOf [] l) = false
        rw [beq_eq_false_iff_ne.2 (by rintro rfl; exact absurd this.1 (by decide)), Bool.false_and]
    unfold Lib.trimPrefix
    rw [hp, if_neg (by decide)]
    exact ⟨rfl, rfl⟩
theorem text_value (n : Int) : valueOf ⟨(Lib.itoa n).toArray⟩ = n ∧ Canon (digitsOf ⟨(Lib.itoa n).toArray⟩) := by
  obtain ⟨h1, h2⟩ := text_is n
  unfold valueOf sgn
  rw [h1, h2, worth_dec _ _ (Nat.le_refl _)]
  refine ⟨?_, dec_canon _⟩
  by_cases h : n < 0
  · rw [decide_eq_true h, if_pos rfl]; omega
  · rw [decide_eq_false h, if_neg (by decide)]; omega
theorem text_size (n : Int) (h0 : -9223372036854775808 ≤ n) (h1 : n ≤ 18446744073709551615) : (⟨(Lib.itoa n).toArray⟩ : ByteArray).size ≤ 21 := by
  show (Lib.itoa n).toArray.size ≤ 21
  rw [List.size_toArray]
  have h := Lib.nDigits_le20 n.natAbs (by omega)
  unfold Lib.itoa
  split
  · rw [List.length_cons, Lib.decDigits_length]
    omega
  · rw [Lib.decDigits_length, show n.toNat = n.natAbs from by omega]
    omega
/-- A number's text is read as the number. -/
theorem back (n lo hi : Int) (h0 : lo ≤ 0) (h1 : 0 ≤ hi) (h2 : lo ≤ n) (h3 : n ≤ hi) (h4 : -9223372036854775808 ≤ n) (h5 : n ≤ 18446744073709551615) : wholeR lo hi ⟨(Lib.itoa n).toArray⟩ = (n, 0) := by
  obtain ⟨e, hc⟩ := text_value n
  have hs := text_size n h4 h5
  have := canon_whole _ hc (by omega) lo hi h0 h1 (by rw [e]; exact h2) (by rw [e]; exact h3)
  rw [e] at this
  exact this
end Go.Proofs.YtkjmbibnfohkjaaDoor.Whole

/- WholeBack: every number of every type is what its text is read as. No condition. -/
namespace Go.Proofs.YtkjmbibnfohkjaaDoor.Pure
open Go.RowKit Go.Proofs.YtkjmbibnfohkjaaDoor.PWholeBack Go.Proofs.YtkjmbibnfohkjaaDoorW.PrintWords Go.Proofs.YtkjmbibnfohkjaaDoorW.PrintLast Go.Proofs.YtkjmbibnfohkjaaDoorW.PrintMore Go.Proofs.YtkjmbibnfohkjaaDoor.Dec Go.Proofs.YtkjmbibnfohkjaaDoor.Reader Go.Proofs.YtkjmbibnfohkjaaDoor.Whole
theorem w8 (x : Int) : -128 ≤ IntKind.i8.wrap x ∧ IntKind.i8.wrap x ≤ 127 := ⟨(spec_i8 x).1, (spec_i8 x).2.1⟩
theorem w16 (x : Int) : -32768 ≤ IntKind.i16.wrap x ∧ IntKind.i16.wrap x ≤ 32767 := ⟨(spec_i16 x).1, (spec_i16 x).2.1⟩
theorem wu16 (x : Int) : 0 ≤ IntKind.u16.wrap x ∧ IntKind.u16.wrap x ≤ 65535 := ⟨(spec_u16 x).1, (spec_u16 x).2.1⟩
theorem w32 (x : Int) : -2147483648 ≤ wrap32 x ∧ wrap32 x ≤ 2147483647 := by
  unfold wrap32
  omega
theorem awake_is : quarrylaw12_awake.f = some true := by
  unfold quarrylaw12_awake.f whole_Int_int8.f
  rw [if_pos (by decide), show wholeR (-128) 127 (⟨#[45, 49, 50, 56]⟩ : ByteArray) = (-128, 0) from by decide +kernel]
  rfl
/- ∀ (a0 : Int) (a1 : Int), .. → ∃ k, quarrylaw12_WholeBack.f k a0 a1 = some true -/
theorem WholeBack : quarrylaw12_WholeBack.Pure := by
  intro a0 a1 h0 h1
  have h0' : -9223372036854775808 ≤ a0 ∧ a0 ≤ 9223372036854775807 := by simpa [Lit.wf, IntKind.min, IntKind.max, IntKind.signed, IntKind.bits] using h0
  have h1' : 0 ≤ a1 ∧ a1 ≤ 18446744073709551615 := by simpa [Lit.wf, IntKind.min, IntKind.max, IntKind.signed, IntKind.bits] using h1
  have b8 := w8 a0
  have b16 := w16 a0
  have b32 := w32 a0
  have u16 := wu16 a1
  refine ⟨1, ?_⟩
  have sz : ∀ n : Int, -9223372036854775808 ≤ n → n ≤ 18446744073709551615 → (⟨(Lib.itoa n).toArray⟩ : ByteArray).size ≤ 140737488355328 := fun n p q => Nat.le_trans (text_size n p q) (by decide)
  unfold quarrylaw12_WholeBack.f
  rw [show whole_Text_int8.f (IntKind.i8.wrap a0) = some ⟨(Lib.itoa (IntKind.i8.wrap a0)).toArray⟩ from if_pos b8, Option.bind_some,
    show whole_Int_int8.f ⟨(Lib.itoa (IntKind.i8.wrap a0)).toArray⟩ = some (wholeR (-128) 127 ⟨(Lib.itoa (IntKind.i8.wrap a0)).toArray⟩) from if_pos (sz _ (by omega) (by omega)), back _ (-128) 127 (by decide) (by decide) b8.1 b8.2 (by omega) (by omega), Option.bind_some,
    show whole_Text_int16.f (IntKind.i16.wrap a0) = some ⟨(Lib.itoa (IntKind.i16.wrap a0)).toArray⟩ from if_pos b16, Option.bind_some,
    show whole_Int_int16.f ⟨(Lib.itoa (IntKind.i16.wrap a0)).toArray⟩ = some (wholeR (-32768) 32767 ⟨(Lib.itoa (IntKind.i16.wrap a0)).toArray⟩) from if_pos (sz _ (by omega) (by omega)), back _ (-32768) 32767 (by decide) (by decide) b16.1 b16.2 (by omega) (by omega), Option.bind_some,
    show whole_Text_int32.f (wrap32 a0) = some ⟨(Lib.itoa (wrap32 a0)).toArray⟩ from if_pos b32, Option.bind_some,
    show whole_Int_int32.f ⟨(Lib.itoa (wrap32 a0)).toArray⟩ = some (wholeR (-2147483648) 2147483647 ⟨(Lib.itoa (wrap32 a0)).toArray⟩) from if_pos (sz _ (by omega) (by omega)), back _ (-2147483648) 2147483647 (by decide) (by decide) b32.1 b32.2 (by omega) (by omega), Option.bind_some,
    show whole_Text_int64.f a0 = some ⟨(Lib.itoa a0).toArray⟩ from if_pos h0', Option.bind_some,
    show whole_Int_int64.f ⟨(Lib.itoa a0).toArray⟩ = some (wholeR (-9223372036854775808) 9223372036854775807 ⟨(Lib.itoa a0).toArray⟩) from if_pos (sz _ (by omega) (by omega)), back _ (-9223372036854775808) 9223372036854775807 (by decide) (by decide) h0'.1 h0'.2 (by omega) (by omega), Option.bind_some,
    if_pos rfl, if_pos rfl, if_pos rfl, if_pos rfl, if_pos rfl, if_pos rfl, if_pos rfl, bne_self_eq_false, quarrylaw12_WholeBack.j0, if_neg (by decide)]
  rw [show whole_Text_uint8.f (a1 % 256) = some ⟨(Lib.itoa (a1 % 256)).toArray⟩ from if_pos (by omega), Option.bind_some,
    show whole_Uint_uint8.f ⟨(Lib.itoa (a1 % 256)).toArray⟩ = some (wholeR 0 255 ⟨(Lib.itoa (a1 % 256)).toArray⟩) from if_pos (sz _ (by omega) (by omega)), back _ 0 255 (by decide) (by decide) (by omega) (by omega) (by omega) (by omega), Option.bind_some,
    show whole_Text_uint16.f (IntKind.u16.wrap a1) = some ⟨(Lib.itoa (IntKind.u16.wrap a1)).toArray⟩ from if_pos u16, Option.bind_some,
    show whole_Uint_uint16.f ⟨(Lib.itoa (IntKind.u16.wrap a1)).toArray⟩ = some (wholeR 0 65535 ⟨(Lib.itoa (IntKind.u16.wrap a1)).toArray⟩) from if_pos (sz _ (by omega) (by omega)), back _ 0 65535 (by decide) (by decide) u16.1 u16.2 (by omega) (by omega), Option.bind_some,
    show whole_Text_uint32.f (a1 % 4294967296) = some ⟨(Lib.itoa (a1 % 4294967296)).toArray⟩ from if_pos (by omega), Option.bind_some,
    show whole_Uint_uint32.f ⟨(Lib.itoa (a1 % 4294967296)).toArray⟩ = some (wholeR 0 4294967295 ⟨(Lib.itoa (a1 % 4294967296)).toArray⟩) from if_pos (sz _ (by omega) (by omega)), back _ 0 4294967295 (by decide) (by decide) (by omega) (by omega) (by omega) (by omega), Option.bind_some,
    show whole_Text_uint64.f a1 = some ⟨(Lib.itoa a1).toArray⟩ from if_pos h1', Option.bind_some,
    show whole_Uint_uint64.f ⟨(Lib.itoa a1).toArray⟩ = some (wholeR 0 18446744073709551615 ⟨(Lib.itoa a1).toArray⟩) from if_pos (sz _ (by omega) (by omega)), back _ 0 18446744073709551615 (by decide) (by decide) h1'.1 h1'.2 (by omega) (by omega), Option.bind_some,
    if_pos rfl, if_pos rfl, if_pos rfl, if_pos rfl, if_pos rfl, if_pos rfl, if_pos rfl, if_pos rfl, awake_is, Option.bind_some]
end Go.Proofs.YtkjmbibnfohkjaaDoor.Pure
