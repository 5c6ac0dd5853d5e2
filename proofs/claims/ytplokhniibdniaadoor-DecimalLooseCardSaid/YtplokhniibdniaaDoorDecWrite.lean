/- What is written of a decimal is read as it. Plain Lean. -/
import Derived.Test.YtplokhniibdniaaDoorDecParse
import Derived.Test.YtplokhniibdniaaDoorTxDef
namespace Go.Proofs.YtplokhniibdniaaDoor.Dec
open Go.RowKit Go.Proofs.YtplokhniibdniaaDoorW.PrintWords Go.Proofs.YtplokhniibdniaaDoorW.PrintLast Go.Proofs.YtplokhniibdniaaDoorW.PrintMore Go.Proofs.YtplokhniibdniaaDoor.Reader

theorem dec_byte (u : Nat) (h : u < 10) : (UInt8.ofNat (48 + u)).toNat = 48 + u := by
  rw [UInt8.toNat_ofNat']
  omega
theorem dec_digits : ∀ (n u : Nat), u ≤ n → Digits (Lib.decDigits u) ∧ Lib.decDigits u ≠ [] := by
  intro n
  induction n with
  | zero =>
    intro u hu
    obtain rfl : u = 0 := by omega
    rw [Lib.decDigits, dif_pos (by decide)]
    refine ⟨?_, by simp⟩
    intro c hc
    rw [List.mem_singleton] at hc
    rw [hc, dec_byte 0 (by decide)]
    omega
  | succ n ih =>
    intro u hu
    rw [Lib.decDigits]
    by_cases h : u < 10
    · rw [dif_pos h]
      refine ⟨?_, by simp⟩
      intro c hc
      rw [List.mem_singleton] at hc
      rw [hc, dec_byte u h]
      omega
    · rw [dif_neg h]
      obtain ⟨h1, h2⟩ := ih (u / 10) (by omega)
      refine ⟨?_, by simp⟩
      intro c hc
      rcases List.mem_append.1 hc with g | g
      · exact h1 c g
      · rw [List.mem_singleton] at g
        rw [g, dec_byte (u % 10) (by omega)]
        omega
theorem sat_dec : ∀ (n u : Nat), u ≤ n → u ≤ 1000000000000000 → sat (Lib.decDigits u) 0 = (u : Int) := by
  intro n
  induction n with
  | zero =>
    intro u hu _
    obtain rfl : u = 0 := by omega
    rw [Lib.decDigits, dif_pos (by decide)]
    unfold sat
    rw [if_pos (by decide), dec_byte 0 (by decide)]
    rfl
  | succ n ih =>
    intro u hu hb
    rw [Lib.decDigits]
    by_cases h : u < 10
    · rw [dif_pos h]
      unfold sat
      rw [if_pos (by decide), dec_byte u h]
      show (10 * 0 + (((48 + u : Nat) : Int) - 48)) = _
      omega
    · rw [dif_neg h, sat_snoc, ih (u / 10) (by omega) (by omega), if_pos (by omega), dec_byte (u % 10) (by omega)]
      omega
theorem data_of {s : ByteArray} (h : s.data.toList = []) : s = ⟨#[]⟩ := by
  apply ByteArray.ext
  apply Array.toList_inj.1
  rw [h]
theorem dropWhile_none {p : UInt8 → Bool} : ∀ {l : List UInt8}, (∀ c, l.head? = some c → p c = false) → l.dropWhile p = l
  | [], _ => rfl
  | c :: l, h => by
    rw [List.dropWhile_cons, if_neg]
    rw [h c rfl]
    decide
/-- A row of digits without noughts at its ends stays as it is. -/
theorem trim_self {s : ByteArray} (h1 : ∀ c, s.data.toList.head? = some c → c ≠ 48) (h2 : ∀ c, s.data.toList.getLast? = some c → c ≠ 48) : trimA s.data.toList = s ∧ trimB s.data.toList = s := by
  have e1 : Lib.trimLeftB s.data.toList 48 = s.data.toList := dropWhile_none (fun c hc => by simpa using h1 c hc)
  have e2 : Lib.trimRightB s.data.toList 48 = s.data.toList := by
    unfold Lib.trimRightB
    rw [dropWhile_none (fun c hc => by rw [List.head?_reverse] at hc; simpa using h2 c hc), List.reverse_reverse]
  constructor
  · unfold trimA
    rw [e1]
  · unfold trimB
    rw [e1, e2]
theorem fm_parts {s : ByteArray} {e : Int} (h : fm s e = true) (hz : s.size ≠ 0) : Digits s.data.toList ∧ (∀ c, s.data.toList.head? = some c → c ≠ 48) ∧ (∀ c, s.data.toList.getLast? = some c → c ≠ 48) := by
  unfold fm ends at h
  rw [if_neg hz, Bool.and_eq_true, Bool.and_eq_true, Bool.and_eq_true] at h
  obtain ⟨h1, h2, h3, _⟩ := h
  have hl : s.data.toList.length = s.size := rfl
  have hne : s.data.toList ≠ [] := by
    intro h0
    rw [h0] at hl
    exact hz hl.symm
  refine ⟨?_, ?_, ?_⟩
  · intro c hc
    obtain ⟨j, hj, rfl⟩ := List.mem_iff_getElem.1 hc
    have hd := digsFrom_of s _ _ h1 j (Nat.zero_le _) (by omega)
    rw [← byte_bt s hj, List.getD_eq_getElem?_getD, List.getElem?_eq_getElem (by exact hj)] at hd
    unfold isDig at hd
    rw [Bool.and_eq_true, decide_eq_true_eq, decide_eq_true_eq] at hd
    exact hd
  · intro c hc h48
    rw [getD_head hne] at hc
    have hb := byte_bt s (j := 0) (by omega)
    rw [Option.some.inj hc, h48] at hb
    simp only [Bool.not_eq_true', decide_eq_false_iff_not] at h2
    exact h2 hb.symm
  · intro c hc h48
    rw [getD_last hne] at hc
    have hb := byte_bt s (j := s.size - 1) (by omega)
    rw [hl] at hc
    rw [Option.some.inj hc, h48] at hb
    simp only [Bool.not_eq_true', decide_eq_false_iff_not] at h3
    apply h3
    rw [show ((s.size : Int) - 1) = ((s.size - 1 : Nat) : Int) from by omega]
    exact hb.symm
theorem num_self {s : ByteArray} {e : Int} (h : fm s e = true) (hz : s.size ≠ 0) (n : Bool) : numOf n s.data.toList 0 e = (n, s, e, true) := by
  obtain ⟨_, h2, h3⟩ := fm_parts h hz
  obtain ⟨hA, hB⟩ := trim_self h2 h3
  have hr := fm_exp h
  have hE : expOf s.data.toList 0 e = e := by
    unfold expOf
    rw [hA, hB]
    omega
  unfold numOf
  rw [hB, hE, if_neg, if_neg (by omega)]
  intro h0
  apply hz
  show s.data.toList.length = 0
  rw [h0]
  rfl
theorem exp_form (e : Int) (h0 : -1000000000000000 ≤ e) (h1 : e ≤ 1000000000000000) : ∃ E tu, ExpForm (expText e).data.toList E tu ∧ (if tu = true then -sat E 0 else sat E 0) = e := by
  by_cases hz : e = 0
  · refine ⟨[], false, .inl ⟨?_, rfl, rfl⟩, ?_⟩
    · unfold expText
      rw [if_pos hz]
    · rw [hz]
      rfl
  · have hX : (expText e).data.toList = 101 :: Lib.itoa e := by
      unfold expText
      rw [if_neg hz]
      simp
    by_cases hn : e < 0
    · obtain ⟨h2, h3⟩ := dec_digits e.natAbs e.natAbs (Nat.le_refl _)
      refine ⟨Lib.decDigits e.natAbs, true, .inr ⟨101, [45], .inl rfl, ?_, .inr (.inr ⟨rfl, rfl⟩), h3, h2⟩, ?_⟩
      · rw [hX]
        unfold Lib.itoa
        rw [if_pos hn]
        rfl
      · rw [if_pos rfl, sat_dec _ _ (Nat.le_refl _) (by omega)]
        omega
    · obtain ⟨h2, h3⟩ := dec_digits e.toNat e.toNat (Nat.le_refl _)
      refine ⟨Lib.decDigits e.toNat, false, .inr ⟨101, [], .inl rfl, ?_, .inl ⟨rfl, rfl⟩, h3, h2⟩, ?_⟩
      · rw [hX]
        unfold Lib.itoa
        rw [if_neg hn]
        rfl
      · rw [if_neg (by decide), sat_dec _ _ (Nat.le_refl _) (by omega)]
        omega
theorem text_read (n : Bool) (s : ByteArray) (e : Int) (h : fm s e = true) : readOf (signed n s ++ expText e) 0 = (n, s, e, ((signed n s ++ expText e).size : Int), 0) := by
  have hr := fm_exp h
  obtain ⟨E, tu, hX, hE⟩ := exp_form e (by omega) (by omega)
  have hl : (signed n s ++ expText e).data.toList = (if n = true then [45] else []) ++ ((shown s).data.toList ++ ([] ++ (expText e).data.toList)) := by
    unfold signed
    cases n <;> simp
  by_cases hz : s.size = 0
  · have he : e = 0 := by
      unfold fm at h
      rw [if_pos hz] at h
      simpa using h
    have hs : s = ⟨#[]⟩ := data_of (List.eq_nil_of_length_eq_zero hz)
    have hW : (shown s).data.toList = [48] := by
      unfold shown
      rw [if_pos hz]
    have hp := parse_text (neg := n) (W := (shown s).data.toList) (F := []) (B := []) hl (by rw [hW]; intro c hc; rw [List.mem_singleton] at hc; rw [hc]; decide) (by rw [hW]; simp) (.inl hW) (.inl ⟨rfl, rfl⟩) hX
    rw [hE, hW, List.append_nil, he] at hp
    have hnum : numOf n [48] ([] : List UInt8).length 0 = (n, ⟨#[]⟩, 0, true) := by
      unfold numOf
      rw [if_pos (by rfl)]
    rw [hnum, if_pos rfl] at hp
    rw [he, hp, hs]
  · obtain ⟨h1, h2, h3⟩ := fm_parts h hz
    have hW : (shown s).data.toList = s.data.toList := by
      unfold shown
      rw [if_neg hz]
    have hne : s.data.toList ≠ [] := by
      intro h0
      apply hz
      show s.data.toList.length = 0
      rw [h0]
      rfl
    have hp := parse_text (neg := n) (W := (shown s).data.toList) (F := []) (B := []) hl (by rw [hW]; exact h1) (by rw [hW]; exact hne) (.inr (by rw [hW]; intro hh; exact h2 48 hh rfl)) (.inl ⟨rfl, rfl⟩) hX
    rw [hE, hW, List.append_nil, show ([] : List UInt8).length = 0 from rfl, num_self h hz n, if_pos rfl] at hp
    exact hp
end Go.Proofs.YtplokhniibdniaaDoor.Dec
