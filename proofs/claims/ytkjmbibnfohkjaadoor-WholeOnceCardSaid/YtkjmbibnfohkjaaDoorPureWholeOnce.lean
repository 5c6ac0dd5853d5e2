/- Joined texts of one law. -/
import Derived.Test.YtkjmbibnfohkjaaDoorDecMore
import Derived.Test.YtkjmbibnfohkjaaDoorWholeBase
import Derived.Laws.Strings
import Derived.Lib.ItoaLen
import Derived.Test.YtkjmbibnfohkjaaDoorStatWholeOnce
/- Is it a decimal in its one form? Plain Lean. -/
namespace Go.Proofs.YtkjmbibnfohkjaaDoor.Dec
open Go.RowKit Go.Proofs.YtkjmbibnfohkjaaDoorW.PrintWords Go.Proofs.YtkjmbibnfohkjaaDoorW.PrintLast Go.Proofs.YtkjmbibnfohkjaaDoorW.PrintMore

theorem i64_small {i : Int} (h0 : -4611686018427387904 ≤ i) (h1 : i < 4611686018427387904) : wrap64 i = i := by
  unfold wrap64
  omega

def digsFrom (s : ByteArray) (i : Nat) : Nat → Bool
  | 0 => true
  | d + 1 => isDig (bt s i) && digsFrom s (i + 1) d
def ends (s : ByteArray) (e : Int) : Bool := !decide (bt s 0 = 48) && (!decide (bt s ((s.size : Int) - 1) = 48) && (decide (-1073741824 ≤ e) && decide (e ≤ 1073741824)))
/-- Is it a decimal in its one form? -/
def fm (s : ByteArray) (e : Int) : Bool := if s.size = 0 then e == 0 else digsFrom s 0 s.size && ends s e

theorem dig_mod9 (c : Int) (h0 : 0 ≤ c) (h1 : c ≤ 255) : ((c - 48) % 256 > 9) ↔ isDig c = false := by
  unfold isDig
  rw [Bool.and_eq_false_iff]
  simp
  omega

theorem toList_nil (s : ByteArray) : s.toList = ([] : List UInt8) ↔ s.size = 0 := by
  rw [ByteArray.toList_eq, ← List.length_eq_zero_iff, Array.length_toList]
  exact Iff.rfl

theorem fm_exp {s : ByteArray} {e : Int} (h : fm s e = true) : -1073741824 ≤ e ∧ e ≤ 1073741824 := by
  unfold fm ends at h
  by_cases hz : s.size = 0
  · rw [if_pos hz] at h
    have : e = 0 := by simpa using h
    omega
  · rw [if_neg hz] at h
    simp at h
    exact ⟨h.2.2.2.1, h.2.2.2.2⟩
end Go.Proofs.YtkjmbibnfohkjaaDoor.Dec

/- The number that is read is well formed. Plain Lean. -/
namespace Go.Proofs.YtkjmbibnfohkjaaDoor.Dec
open Go.RowKit Go.Proofs.YtkjmbibnfohkjaaDoorW.PrintWords Go.Proofs.YtkjmbibnfohkjaaDoorW.PrintLast Go.Proofs.YtkjmbibnfohkjaaDoorW.PrintMore Go.Proofs.YtkjmbibnfohkjaaDoor.Reader

theorem digsFrom_all (s : ByteArray) : ∀ (d i : Nat), (∀ j, i ≤ j → j < i + d → isDig (bt s (j : Int)) = true) → digsFrom s i d = true
  | 0, _, _ => rfl
  | d + 1, i, h => by
    unfold digsFrom
    rw [h i (Nat.le_refl _) (by omega), Bool.true_and]
    exact digsFrom_all s d (i + 1) (fun j h1 h2 => h j (by omega) (by omega))
theorem digsFrom_of (s : ByteArray) : ∀ (d i : Nat), digsFrom s i d = true → ∀ j, i ≤ j → j < i + d → isDig (bt s (j : Int)) = true
  | 0, _, _, j, h1, h2 => by omega
  | d + 1, i, h, j, h1, h2 => by
    unfold digsFrom at h
    rw [Bool.and_eq_true] at h
    by_cases e : j = i
    · rw [e]; exact h.1
    · exact digsFrom_of s d (i + 1) h.2 j (by omega) (by omega)
theorem mem_dropWhile {p : UInt8 → Bool} {l : List UInt8} {c : UInt8} (h : c ∈ l.dropWhile p) : c ∈ l := (List.dropWhile_sublist p).subset h
theorem trimB_mem {l : List UInt8} {c : UInt8} (h : c ∈ (trimB l).data.toList) : c ∈ l := by
  have h' : c ∈ ((l.dropWhile (· == 48)).reverse.dropWhile (· == 48)).reverse := h
  exact mem_dropWhile (List.mem_reverse.1 (mem_dropWhile (List.mem_reverse.1 h')))
theorem head_dropWhile {p : UInt8 → Bool} : ∀ {l : List UInt8} {c : UInt8} {r : List UInt8}, l.dropWhile p = c :: r → p c = false
  | [], _, _, h => by simp at h
  | d :: l, c, r, h => by
    rw [List.dropWhile_cons] at h
    split at h
    · exact head_dropWhile h
    · rename_i hd
      cases h
      simpa using hd
/-- The last digit is no nought. -/
theorem trimB_last {l : List UInt8} {c : UInt8} (h : (trimB l).data.toList.getLast? = some c) : c ≠ 48 := by
  have h' : ((l.dropWhile (· == 48)).reverse.dropWhile (· == 48)).reverse.getLast? = some c := h
  rw [List.getLast?_reverse] at h'
  cases hd : (l.dropWhile (· == 48)).reverse.dropWhile (· == 48) with
  | nil =>
    rw [hd] at h'
    simp at h'
  | cons x r =>
    rw [hd] at h'
    simp at h'
    have := head_dropWhile hd
    rw [← h']
    simpa using this
/-- Nor is the first. -/
theorem trimB_first {l : List UInt8} {c : UInt8} (h : (trimB l).data.toList.head? = some c) : c ≠ 48 := by
  have h' : ((l.dropWhile (· == 48)).reverse.dropWhile (· == 48)).reverse.head? = some c := h
  have hpre : ((l.dropWhile (· == 48)).reverse.dropWhile (· == 48)).reverse <+: l.dropWhile (· == 48) := by
    have := List.reverse_prefix.2 (List.dropWhile_suffix (l := (l.dropWhile (· == 48)).reverse) (· == 48))
    rwa [List.reverse_reverse] at this
  obtain ⟨r, hr⟩ := hpre
  cases hx : ((l.dropWhile (· == 48)).reverse.dropWhile (· == 48)).reverse with
  | nil =>
    rw [hx] at h'
    simp at h'
  | cons x q =>
    rw [hx] at h' hr
    simp at h'
    have := head_dropWhile (show l.dropWhile (· == 48) = x :: (q ++ r) from by rw [← hr]; rfl)
    rw [← h']
    simpa using this
theorem getD_last {l : List UInt8} (h : l ≠ []) : l.getLast? = some (l.getD (l.length - 1) 0) := by
  rw [List.getLast?_eq_getElem?, List.getD_eq_getElem?_getD, List.getElem?_eq_getElem (by have := List.length_pos_iff.2 h; omega)]
  rfl
theorem getD_head {l : List UInt8} (h : l ≠ []) : l.head? = some (l.getD 0 0) := by
  cases l with
  | nil => exact absurd rfl h
  | cons x r => rfl
theorem byte_ne {s : ByteArray} {j : Nat} (hj : j < s.size) (h : s.data.toList.getD j 0 ≠ 48) : ¬ bt s (j : Int) = 48 := by
  rw [← byte_bt s hj]
  intro e
  apply h
  apply UInt8.toNat_inj.1
  show (s.data.toList.getD j 0).toNat = 48
  omega
theorem num_fm {n : Bool} {l : List UInt8} {d : Nat} {e : Int} (hl : Digits l) (h : (numOf n l d e).2.2.2 = true) : fm (numOf n l d e).2.1 (numOf n l d e).2.2.1 = true := by
  by_cases h1 : (trimB l).data.toList = []
  · have e1 : numOf n l d e = (n, ⟨#[]⟩, 0, true) := by
      unfold numOf
      rw [if_pos h1]
    rw [e1]
    rfl
  · by_cases h2 : expOf l d e > 1073741824 ∨ expOf l d e < -1073741824
    · have e1 : numOf n l d e = (false, ⟨#[]⟩, 0, false) := by
        unfold numOf
        rw [if_neg h1, if_pos h2]
      rw [e1] at h
      cases h
    · have e1 : numOf n l d e = (n, trimB l, expOf l d e, true) := by
        unfold numOf
        rw [if_neg h1, if_neg h2]
      rw [e1]
      have hp : 0 < (trimB l).data.toList.length := List.length_pos_iff.2 h1
      have hs : (trimB l).data.toList.length = (trimB l).size := rfl
      simp only
      unfold fm
      rw [if_neg (by omega)]
      have hall : digsFrom (trimB l) 0 (trimB l).size = true := by
        refine digsFrom_all _ _ _ (fun j _ hj => ?_)
        have hj' : j < (trimB l).size := by omega
        have hm : (trimB l).data.toList.getD j 0 ∈ (trimB l).data.toList := by
          rw [List.getD_eq_getElem?_getD, List.getElem?_eq_getElem (by exact hj')]
          exact List.getElem_mem _
        have hd := hl _ (trimB_mem hm)
        rw [byte_bt _ hj'] at hd
        unfold isDig
        rw [decide_eq_true hd.1, decide_eq_true hd.2]
        rfl
      have hf := byte_ne (s := trimB l) (j := 0) (by omega) (trimB_first (getD_head h1))
      have hla := byte_ne (s := trimB l) (j := (trimB l).size - 1) (by omega) (trimB_last (by rw [getD_last h1]; rfl))
      have ec : (((trimB l).size - 1 : Nat) : Int) = ((trimB l).size : Int) - 1 := by omega
      rw [ec] at hla
      rw [hall, Bool.true_and]
      unfold ends
      have hf' : ¬ bt (trimB l) 0 = 48 := hf
      rw [decide_eq_false hf', decide_eq_false hla, decide_eq_true (by omega), decide_eq_true (by omega)]
      rfl
theorem num_size (n : Bool) (l : List UInt8) (d : Nat) (e : Int) : (numOf n l d e).2.1.size ≤ l.length := by
  have h1 := trimA_size l
  have h2 := trimB_size l
  unfold numOf
  split
  · exact Nat.zero_le _
  · split
    · exact Nat.zero_le _
    · show (trimB l).size ≤ _
      omega
theorem num_of_size {n : Bool} {l : List UInt8} {d : Nat} {e x : Int} {m : Nat} {r : Bool × ByteArray × Int × Int × Int} (h : r = if (numOf n l d e).2.2.2 = true then ((numOf n l d e).1, (numOf n l d e).2.1, (numOf n l d e).2.2.1, x, 0) else (false, ⟨#[]⟩, 0, x, 111)) (hm : l.length ≤ m) : r.2.1.size ≤ m := by
  have hs := num_size n l d e
  generalize numOf n l d e = q at h hs
  rw [h]
  by_cases hq : q.2.2.2 = true
  · rw [if_pos hq]
    exact Nat.le_trans hs hm
  · rw [if_neg hq]
    exact Nat.zero_le _
theorem read_small (s : ByteArray) (i : Nat) (_hi : i ≤ s.size) {r : Bool × ByteArray × Int × Int × Int} (hR : readOf s i = r) : r.2.1.size ≤ s.size := by
  by_cases ho : (partsOf s (startOf s i)).ok = true
  · have h := readOf_yes (s := s) (i := i) rfl ho rfl rfl rfl rfl
    rw [hR] at h
    refine num_of_size h ?_
    have e1 := piece_len_le s (startOf s i) (partsOf s (startOf s i)).wb
    have e2 := piece_len_le s (partsOf s (startOf s i)).ba (partsOf s (startOf s i)).bb
    obtain ⟨b1, b2, b3, b4⟩ := parts_bounds s _ ho
    rw [List.length_append]
    omega
  · have h := readOf_no (s := s) (i := i) rfl (by simpa using ho)
    rw [hR] at h
    rw [h]
    exact Nat.zero_le _
end Go.Proofs.YtkjmbibnfohkjaaDoor.Dec

/- Rows of digits in their one form are ordered as their worths are. Plain Lean. -/
namespace Go.Proofs.YtkjmbibnfohkjaaDoor.Whole
theorem worthFrom_add (l : List UInt8) : ∀ n, worthFrom l n = n * 10 ^ l.length + worth l := by
  induction l with
  | nil => intro n; show n = n * 1 + 0; omega
  | cons c l ih =>
    intro n
    show worthFrom l (n * 10 + dv c) = _
    rw [ih]
    have e : worth (c :: l) = dv c * 10 ^ l.length + worth l := by
      show worthFrom l (0 * 10 + dv c) = _
      rw [ih, Int.zero_mul, Int.zero_add]
    rw [e, List.length_cons, Int.pow_succ, Int.add_mul, Int.mul_assoc, Int.mul_comm 10, Int.add_assoc]
theorem worth_cons (c : UInt8) (l : List UInt8) : worth (c :: l) = dv c * 10 ^ l.length + worth l := by
  show worthFrom l (0 * 10 + dv c) = _
  rw [worthFrom_add, Int.zero_mul, Int.zero_add]
theorem ten_pos (n : Nat) : (0 : Int) < 10 ^ n := Int.pow_pos (by decide)
theorem Dgs.tail {c : UInt8} {l : List UInt8} (h : Dgs (c :: l)) : Dgs l := fun x hx => h x (List.mem_cons_of_mem _ hx)
theorem Dgs.dv {c : UInt8} {l : List UInt8} (h : Dgs (c :: l)) : 0 ≤ dv c ∧ dv c ≤ 9 := by
  have := h c (List.mem_cons_self ..)
  unfold Whole.dv
  omega
theorem worth_lt : ∀ l : List UInt8, Dgs l → worth l < 10 ^ l.length
  | [], _ => by decide
  | c :: l, h => by
    have ih := worth_lt l h.tail
    have hd := h.dv
    have hp := ten_pos l.length
    have := Int.mul_le_mul_of_nonneg_right hd.2 (Int.le_of_lt hp)
    rw [worth_cons, List.length_cons, Int.pow_succ]
    omega
theorem less_same : ∀ a b : List UInt8, a.length = b.length → Dgs a → Dgs b → Op.bytesLess a b = decide (worth a < worth b)
  | [], [], _, _, _ => rfl
  | [], _ :: _, h, _, _ => by simp at h
  | _ :: _, [], h, _, _ => by simp at h
  | x :: a, y :: b, h, ha, hb => by
    have hl : a.length = b.length := by simpa using h
    have ih := less_same a b hl ha.tail hb.tail
    have h1 := worth_lt a ha.tail
    have h2 := worth_lt b hb.tail
    have n1 := worth_nonneg a ha.tail
    have n2 := worth_nonneg b hb.tail
    have hp := ten_pos a.length
    rw [Op.bytesLess, ih, worth_cons, worth_cons, ← hl]
    rw [← hl] at h2
    generalize (10 : Int) ^ a.length = P at *
    rcases Nat.lt_trichotomy x.toNat y.toNat with c | c | c
    · have hxy : x < y := c
      have hd : dv x + 1 ≤ dv y := by unfold dv; omega
      have := Int.mul_le_mul_of_nonneg_right hd (Int.le_of_lt hp)
      rw [Int.add_mul, Int.one_mul] at this
      rw [decide_eq_true hxy, Bool.true_or, decide_eq_true (by omega)]
    · have e : x = y := UInt8.toNat_inj.1 c
      subst e
      rw [decide_eq_false (show ¬ x < x from by rw [UInt8.lt_iff_toNat_lt]; omega), Bool.false_or, beq_self_eq_true, Bool.true_and]
      by_cases hw : worth a < worth b
      · rw [decide_eq_true hw, decide_eq_true (by omega)]
      · rw [decide_eq_false hw, decide_eq_false (by omega)]
    · have hxy : ¬ x < y := by rw [UInt8.lt_iff_toNat_lt]; omega
      have hne : (x == y) = false := by
        rw [beq_eq_false_iff_ne]
        rintro rfl
        omega
      have hd : dv y + 1 ≤ dv x := by unfold dv; omega
      have := Int.mul_le_mul_of_nonneg_right hd (Int.le_of_lt hp)
      rw [Int.add_mul, Int.one_mul] at this
      rw [decide_eq_false hxy, hne, Bool.false_and, Bool.false_or, decide_eq_false (by omega)]
theorem canon_ge {c : UInt8} {l : List UInt8} (h : Canon (c :: l)) (hl : l ≠ []) : (10 : Int) ^ l.length ≤ worth (c :: l) := by
  obtain ⟨hd, _, h0⟩ := h
  have hc := hd.dv
  have hne : c.toNat ≠ 48 := by
    intro e
    have := h0 (by rw [show c = 48 from UInt8.toNat_inj.1 e]; rfl)
    simp at this
    exact hl this
  have hd1 : 1 ≤ dv c := by
    have := hd c (List.mem_cons_self ..)
    unfold dv
    omega
  have hp := ten_pos l.length
  have := Int.mul_le_mul_of_nonneg_right hd1 (Int.le_of_lt hp)
  have hn := worth_nonneg l hd.tail
  rw [worth_cons]
  omega
theorem pow_le {m n : Nat} (h : m ≤ n) : (10 : Int) ^ m ≤ 10 ^ n := by
  have := Nat.pow_le_pow_right (show 0 < 10 by decide) h
  have e : ∀ k : Nat, (10 : Int) ^ k = ((10 ^ k : Nat) : Int) := fun k => by rw [Int.natCast_pow]; rfl
  rw [e, e]
  omega
theorem longer {a b : List UInt8} (ha : Canon a) (hb : Dgs b) (h : b.length < a.length) : worth b < worth a ∨ b = [] := by
  cases b with
  | nil => exact .inr rfl
  | cons y b =>
    cases a with
    | nil => simp at h
    | cons x a =>
      simp only [List.length_cons] at h
      have hne : a ≠ [] := by
        intro e
        rw [e] at h
        simp at h
      have h1 := canon_ge ha hne
      have h2 := worth_lt _ hb
      have h3 := pow_le (show (y :: b).length ≤ a.length by simp only [List.length_cons]; omega)
      exact .inl (by omega)
/-- What the document's above tells, of rows in their one form. -/
theorem above_list (a b : List UInt8) (ha : Canon a) (hb : Canon b) : (if a.length = b.length then Op.bytesLess b a else decide (a.length > b.length)) = decide (worth b < worth a) := by
  by_cases h : a.length = b.length
  · rw [if_pos h, less_same b a h.symm hb.1 ha.1]
  · rw [if_neg h]
    by_cases hg : a.length > b.length
    · rcases longer ha hb.1 hg with h1 | h1
      · rw [decide_eq_true hg, decide_eq_true h1]
      · exact absurd h1 hb.2.1
    · rcases longer hb ha.1 (by omega) with h1 | h1
      · rw [decide_eq_false hg, decide_eq_false (by omega)]
      · exact absurd h1 ha.2.1
theorem dec_head : ∀ (n u : Nat), u ≤ n → 1 ≤ u → (Lib.decDigits u).head? ≠ some 48 := by
  intro n
  induction n with
  | zero => intro u h1 h2; omega
  | succ n ih =>
    intro u h1 h2
    rw [Lib.decDigits]
    by_cases h : u < 10
    · rw [dif_pos h]
      intro e
      have e2 : UInt8.ofNat (48 + u) = 48 := by simpa using e
      have := of_toNat u h
      rw [e2] at this
      have : (48 : UInt8).toNat = 48 := rfl
      omega
    · rw [dif_neg h, List.head?_append]
      have hne := (dec_dgs n (u / 10) (by omega)).2
      have := ih (u / 10) (by omega) (by omega)
      cases hd : (Lib.decDigits (u / 10)).head? with
      | none => exact absurd (List.head?_eq_none_iff.1 hd) hne
      | some c =>
        rw [hd] at this
        simpa using this
theorem dec_canon (u : Nat) : Canon (Lib.decDigits u) := by
  refine ⟨(dec_dgs u u (Nat.le_refl _)).1, (dec_dgs u u (Nat.le_refl _)).2, ?_⟩
  intro h
  by_cases hu : u = 0
  · rw [hu, Lib.decDigits, dif_pos (by decide)]
    rfl
  · exact absurd h (dec_head u u (Nat.le_refl _) (by omega))
end Go.Proofs.YtkjmbibnfohkjaaDoor.Whole

/- A row of digits in its one form, behind a minus or not, is taken: for the number that it is. Plain Lean. -/
namespace Go.Proofs.YtkjmbibnfohkjaaDoor.Whole
open Go.RowKit Go.Proofs.YtkjmbibnfohkjaaDoorW.PrintWords Go.Proofs.YtkjmbibnfohkjaaDoorW.PrintLast Go.Proofs.YtkjmbibnfohkjaaDoorW.PrintMore Go.Proofs.YtkjmbibnfohkjaaDoor.Dec Go.Proofs.YtkjmbibnfohkjaaDoor.Reader
theorem digs_at {s : ByteArray} (hc : Dgs (digitsOf s)) (j : Nat) (h1 : startOf s 0 ≤ j) (h2 : j < s.size) : dg s j = true := by
  have hl : j - startOf s 0 < (digitsOf s).length := by
    unfold digitsOf
    rw [List.length_drop]
    have : s.data.toList.length = s.size := rfl
    omega
  have hm := hc _ (List.getElem_mem hl)
  have hg : s.data.toList[j]? = some ((digitsOf s)[j - startOf s 0]) := by
    rw [← List.getElem?_eq_getElem hl]
    unfold digitsOf
    rw [List.getElem?_drop, show startOf s 0 + (j - startOf s 0) = j from by omega]
  obtain ⟨_, hb⟩ := Whole.byte_at hg
  unfold dg isDig
  rw [decide_eq_true h2, Bool.true_and, ← hb]
  simp
  omega
theorem canon_parts (s : ByteArray) (hc : Canon (digitsOf s)) : partsOf s (startOf s 0) = ⟨true, s.size, s.size, s.size, s.size, s.size, false⟩ := by
  have hlen : (digitsOf s).length = s.size - startOf s 0 := by
    unfold digitsOf
    rw [List.length_drop]
    rfl
  have hlt : startOf s 0 < s.size := by
    have := List.length_pos_iff.2 hc.2.1
    omega
  have hdg := digs_at hc.1
  have h0 := hc.2.2
  have hhead : (digitsOf s).head? = s.data.toList[startOf s 0]? := by
    unfold digitsOf
    rw [List.head?_drop]
  have hg : s.data.toList[startOf s 0]? = some (s.data.toList[startOf s 0]'hlt) := List.getElem?_eq_getElem hlt
  obtain ⟨_, hb⟩ := Whole.byte_at hg
  rw [hhead, hg, hlen] at h0
  generalize s.data.toList[startOf s 0]'hlt = c at *
  generalize startOf s 0 = a at *
  have nA : ∀ x y, isAt s s.size x y = false := by
    intro x y
    unfold isAt
    rw [decide_eq_false (by omega)]
    rfl
  have hp : point s s.size = ⟨true, s.size, s.size, s.size, s.size, s.size, false⟩ := by
    unfold point expo
    rw [nA, nA, if_neg (by decide), if_neg (by decide)]
  unfold partsOf
  rw [if_pos (hdg a (Nat.le_refl _) hlt)]
  by_cases h48 : bt s (a : Int) = 48
  · rw [if_pos h48]
    have : c = 48 := UInt8.toNat_inj.1 (by show c.toNat = 48; omega)
    have := h0 (by rw [this])
    rw [show a + 1 = s.size from by omega, hp]
  · rw [if_neg h48]
    have e : dEnd s (a + 1) = s.size := by
      have h1 := dEnd_le s (i := a + 1) (by omega)
      have h2 := dEnd_ge s (a + 1)
      have h3 := dEnd_end s (a + 1)
      by_cases h : dEnd s (a + 1) = s.size
      · exact h
      · rw [hdg _ (by omega) (by omega)] at h3
        cases h3
    rw [e, hp]
theorem sub_len {p : UInt8 → Bool} (l : List UInt8) : (l.dropWhile p).length ≤ l.length := (List.dropWhile_sublist p).length_le
/-- What decimal.Of tells of it. -/
theorem canon_of (s : ByteArray) (hc : Canon (digitsOf s)) (hs : s.size ≤ 1000) : ofR (readOf s 0) s.size = ((numOf (minus s) (digitsOf s) 0 0).1, (numOf (minus s) (digitsOf s) 0 0).2.1, (numOf (minus s) (digitsOf s) 0 0).2.2.1, 0) ∧ (numOf (minus s) (digitsOf s) 0 0).2.2.2 = true ∧ Digits (digitsOf s) := by
  have hp := canon_parts s hc
  have hpe : piece s (startOf s 0) s.size ++ piece s s.size s.size = digitsOf s := by
    rw [piece_self, List.append_nil]
    unfold piece digitsOf
    exact List.take_of_length_le (by rw [List.length_drop]; exact Nat.le_refl _)
  have hy := readOf_yes (s := s) (i := 0) (p := partsOf s (startOf s 0)) (n := minus s) (l := digitsOf s) (d := 0) (e := 0) rfl (by rw [hp]) rfl (by rw [hp]; exact hpe.symm) (by rw [hp]; exact (Nat.sub_self _).symm) (by rw [hp]; simp only [Bool.false_eq_true, if_false]; rw [piece_self]; rfl)
  have hbig : (numOf (minus s) (digitsOf s) 0 0).2.2.2 = true := by
    have hl : (digitsOf s).length ≤ 1000 := by
      unfold digitsOf
      rw [List.length_drop]
      have : s.data.toList.length = s.size := rfl
      omega
    unfold numOf
    split
    · rfl
    · rename_i h1
      have a1 : (trimA (digitsOf s)).size ≤ (digitsOf s).length := by
        show ((Lib.trimLeftB (digitsOf s) 48).toArray).size ≤ _
        rw [List.size_toArray]
        exact sub_len _
      have a2 : 0 ≤ (trimB (digitsOf s)).size := Nat.zero_le _
      have a3 : (trimB (digitsOf s)).size ≤ 1000 := by
        have := num_size (minus s) (digitsOf s) 0 0
        show ((Lib.trimRightB (Lib.trimLeftB (digitsOf s) 48) 48).toArray).size ≤ _
        rw [List.size_toArray]
        refine Nat.le_trans ?_ hl
        refine Nat.le_trans ?_ (sub_len (p := fun b => b == 48) _)
        unfold Lib.trimRightB
        rw [List.length_reverse]
        refine Nat.le_trans (sub_len _) ?_
        rw [List.length_reverse]
        exact Nat.le_refl _
      rw [if_neg (by unfold expOf; omega)]
  refine ⟨?_, hbig, ?_⟩
  · rw [hy, if_pos hbig, hp]
    unfold ofR
    simp only
    rw [if_neg (by decide), if_neg (by omega)]
  · intro c hcm
    have := hc.1 c hcm
    omega
/-- No mark stands in it. -/
theorem canon_mark (s : ByteArray) (hc : Canon (digitsOf s)) : Lib.containsAny s.data.toList [46, 101, 69] = false := by
  cases h : Lib.containsAny s.data.toList [46, 101, 69] with
  | false => rfl
  | true =>
    exfalso
    have hno : Lib.NoAny s.data.toList [46, 101, 69] s.data.toList.length := by
      intro j b hj hb
      cases hcc : ([46, 101, 69] : List UInt8).contains b with
      | false => rfl
      | true =>
        exfalso
        obtain ⟨hl, hbt⟩ := Whole.byte_at hb
        have hbm : b.toNat = 46 ∨ b.toNat = 101 ∨ b.toNat = 69 := by
          simp at hcc
          rcases hcc with rfl | rfl | rfl
          · exact .inl rfl
          · exact .inr (.inl rfl)
          · exact .inr (.inr rfl)
        by_cases hj0 : startOf s 0 ≤ j
        · have := dg_dig (digs_at hc.1 j hj0 hl)
          omega
        · unfold startOf at hj0
          split at hj0
          · rename_i hm
            have := (isAt_yes hm).2
            obtain rfl : j = 0 := by omega
            omega
          · omega
    unfold Lib.containsAny at h
    rw [Lib.indexAny_none hno] at h
    exact absurd h (by decide)
theorem canon_whole (s : ByteArray) (hc : Canon (digitsOf s)) (hs : s.size ≤ 1000) (lo hi : Int) (h0 : lo ≤ 0) (h1 : 0 ≤ hi) (h2 : lo ≤ valueOf s) (h3 : valueOf s ≤ hi) : wholeR lo hi s = (valueOf s, 0) := by
  have ho := (canon_of s hc hs).1
  rcases way s with ⟨h, _⟩ | ⟨h, hm, _⟩ | ⟨h, hm, _, hw⟩
  · rw [ho] at h
    exact absurd (show (0 : Int) = 110 from h) (by decide)
  · rw [canon_mark s hc] at hm
    cases hm
  · rw [hw lo hi h0 h1, if_pos ⟨h2, h3⟩]
/-- The text of a number. -/
theorem text_is (n : Int) : digitsOf ⟨(Lib.itoa n).toArray⟩ = Lib.decDigits n.natAbs ∧ minus ⟨(Lib.itoa n).toArray⟩ = decide (n < 0) := by
  obtain ⟨s, hs⟩ : ∃ s : ByteArray, s = ⟨(Lib.itoa n).toArray⟩ := ⟨_, rfl⟩
  have hl : s.data.toList = Lib.itoa n := by rw [hs]
  rw [← hs]
  obtain ⟨c1, c2⟩ := cut_is s
  rw [← c1, ← c2, hl]
  by_cases h : n < 0
  · have e : Lib.itoa n = 45 :: Lib.decDigits n.natAbs := by unfold Lib.itoa; rw [if_pos h]
    rw [e, decide_eq_true h]
    constructor
    · rfl
    · rfl
  · have e : Lib.itoa n = Lib.decDigits n.natAbs := by
      unfold Lib.itoa
      rw [if_neg h, show n.toNat = n.natAbs from by omega]
    have hd := dec_dgs n.natAbs n.natAbs (Nat.le_refl _)
    rw [e, decide_eq_false h]
    have hp : Lib.hasPrefix (Lib.decDigits n.natAbs) [45] = false := by
      cases hq : Lib.decDigits n.natAbs with
      | nil => rfl
      | cons c l =>
        have := hd.1 c (by rw [hq]; exact List.mem_cons_self ..)
        show (((45 : UInt8) == c) && List.isPrefixOf [] l) = false
        rw [beq_eq_false_iff_ne.2 (by rintro rfl; exact absurd this.1 (by decide)), Bool.false_and]
    unfold Lib.trimPrefix
    rw [hp, if_neg (by decide)]
    exact ⟨rfl, rfl⟩
theorem text_value (n : Int) : valueOf ⟨(Lib.itoa n).toArray⟩ = n ∧ Canon (digitsOf ⟨(Lib.itoa n).toArray⟩) := by
  obtain ⟨h1, h2⟩ := text_is n
  unfold valueOf sgn
  rw [h1, h2, worth_dec _ _ (Nat.le_refl _)]
  refine ⟨?_, dec_canon _⟩
  by_cases h : n < 0
  · rw [decide_eq_true h, if_pos rfl]; omega
  · rw [decide_eq_false h, if_neg (by decide)]; omega
theorem text_size (n : Int) (h0 : -9223372036854775808 ≤ n) (h1 : n ≤ 18446744073709551615) : (⟨(Lib.itoa n).toArray⟩ : ByteArray).size ≤ 21 := by
  show (Lib.itoa n).toArray.size ≤ 21
  rw [List.size_toArray]
  have h := Lib.nDigits_le20 n.natAbs (by omega)
  unfold Lib.itoa
  split
  · rw [List.length_cons, Lib.decDigits_length]
    omega
  · rw [Lib.decDigits_length, show n.toNat = n.natAbs from by omega]
    omega
/-- A number's text is read as the number. -/
theorem back (n lo hi : Int) (h0 : lo ≤ 0) (h1 : 0 ≤ hi) (h2 : lo ≤ n) (h3 : n ≤ hi) (h4 : -9223372036854775808 ≤ n) (h5 : n ≤ 18446744073709551615) : wholeR lo hi ⟨(Lib.itoa n).toArray⟩ = (n, 0) := by
  obtain ⟨e, hc⟩ := text_value n
  have hs := text_size n h4 h5
  have := canon_whole _ hc (by omega) lo hi h0 h1 (by rw [e]; exact h2) (by rw [e]; exact h3)
  rw [e] at this
  exact this
end Go.Proofs.YtkjmbibnfohkjaaDoor.Whole

/- decimal.Formed, as it is printed. -/
namespace Go.Proofs.YtkjmbibnfohkjaaDoor.PWholeOnce
open Go.RowKit Go.Proofs.YtkjmbibnfohkjaaDoorW.PrintWords Go.Proofs.YtkjmbibnfohkjaaDoorW.PrintLast Go.Proofs.YtkjmbibnfohkjaaDoorW.PrintMore Go.Proofs.YtkjmbibnfohkjaaDoor.Dec

theorem formed_loop (n : Bool) (s : ByteArray) (e : Int) (hs : s.size ≤ 140737488351232) (hp : 0 < s.size) (d : Nat) : ∀ (k i : Nat), i + d = s.size → d < k →
    decimal_Formed.l0 k (s.size : Int) (i : Int) n s e = some (digsFrom s i d && ends s e) := by
  induction d with
  | zero =>
    intro k i hi hk
    obtain ⟨k, rfl⟩ : ∃ m, k = m + 1 := ⟨k - 1, by omega⟩
    have hw : wrap64 ((s.size : Int) - 1) = (s.size : Int) - 1 := i64_small (by omega) (by omega)
    simp only [decimal_Formed.l0]
    rw [if_neg (by omega), if_pos (by omega), hw]
    unfold digsFrom ends
    by_cases h1 : bt s 0 = 48
    · simp [h1]
    · rw [if_neg h1, if_pos (by omega), if_pos (by omega)]
      by_cases h2 : bt s ((s.size : Int) - 1) = 48
      · simp [h2]
      · by_cases h3 : -1073741824 ≤ e
        · simp [h1, h2, h3]
        · simp [h2, h3]
  | succ d ih =>
    intro k i hi hk
    obtain ⟨k, rfl⟩ : ∃ m, k = m + 1 := ⟨k - 1, by omega⟩
    have hw : wrap64 ((i : Int) + 1) = ((i + 1 : Nat) : Int) := by
      rw [i64_small (by omega) (by omega)]
      omega
    have hb := bt_range s (i : Int)
    simp only [decimal_Formed.l0]
    rw [if_pos (by omega), if_pos (by omega), if_pos (by omega), hw]
    by_cases hd : isDig (bt s (i : Int)) = false
    · rw [if_pos ((dig_mod9 _ hb.1 hb.2).2 hd)]
      simp [digsFrom, hd]
    · rw [if_neg (fun h => hd ((dig_mod9 _ hb.1 hb.2).1 h)), ih k (i + 1) (by omega) (by omega)]
      simp at hd
      simp [digsFrom, hd]

theorem formed_is (n : Bool) (s : ByteArray) (e : Int) (hs : s.size ≤ 140737488351232) (k : Nat) (hk : s.size < k) : decimal_Formed.f k n s e = some (fm s e) := by
  unfold decimal_Formed.f fm
  by_cases h : s.size = 0
  · rw [if_pos ((toList_nil s).2 h), if_pos h]
  · rw [if_neg (fun g => h ((toList_nil s).1 g)), if_neg h]
    exact formed_loop n s e hs (by omega) s.size k 0 (by omega) hk

end Go.Proofs.YtkjmbibnfohkjaaDoor.PWholeOnce

/- WholeOnce: a text that is taken is the number's own, or a nought with a sign; and it is a whole decimal. No condition. -/
namespace Go.Proofs.YtkjmbibnfohkjaaDoor.Pure
open Go.RowKit Go.Proofs.YtkjmbibnfohkjaaDoor.PWholeOnce Go.Proofs.YtkjmbibnfohkjaaDoorW.PrintWords Go.Proofs.YtkjmbibnfohkjaaDoorW.PrintLast Go.Proofs.YtkjmbibnfohkjaaDoorW.PrintMore Go.Proofs.YtkjmbibnfohkjaaDoor.Dec Go.Proofs.YtkjmbibnfohkjaaDoor.Reader Go.Proofs.YtkjmbibnfohkjaaDoor.Whole
theorem awake_is : quarrylaw12_awake.f = some true := by
  unfold quarrylaw12_awake.f whole_Int_int8.f
  rw [if_pos (by decide), show wholeR (-128) 127 (⟨#[45, 49, 50, 56]⟩ : ByteArray) = (-128, 0) from by decide +kernel]
  rfl
theorem num_pos (n : Bool) (l : List UInt8) : 0 ≤ (numOf n l 0 0).2.2.1 := by
  have h := trimB_size l
  unfold numOf
  split
  · exact Int.le_refl _
  · split
    · exact Int.le_refl _
    · show 0 ≤ expOf l 0 0
      unfold expOf
      omega
/-- A taken text within 64 bits is short, and is the number's own or a nought with a sign. -/
theorem own_text (s : ByteArray) (hc : Canon (digitsOf s)) (h0 : -9223372036854775808 ≤ valueOf s) (h1 : valueOf s ≤ 18446744073709551615) :
    s.size ≤ 21 ∧ (s = ⟨(Lib.itoa (valueOf s)).toArray⟩ ∨ (s.data.toList = [45, 48] ∧ valueOf s = 0)) := by
  have hn := worth_nonneg _ hc.1
  have hd := canon_dec _ _ rfl hc
  have hv : valueOf s = sgn (minus s) (worth (digitsOf s)) := rfl
  have hsl : s.size = s.data.toList.length := rfl
  have hlen : (digitsOf s).length ≤ 20 := by
    rw [← hd, Lib.decDigits_length]
    refine Lib.nDigits_le20 _ ?_
    unfold sgn at hv
    cases hm : minus s
    · rw [hm, if_neg (by decide)] at hv; omega
    · rw [hm, if_pos rfl] at hv; omega
  cases hm : minus s with
  | false =>
    have hs0 : startOf s 0 = 0 := by
      unfold startOf
      rw [if_neg (by unfold minus at hm; rw [hm]; decide)]
    have hds : digitsOf s = s.data.toList := by
      unfold digitsOf
      rw [hs0, List.drop_zero]
    rw [hm] at hv
    have hv' : valueOf s = worth (digitsOf s) := hv
    refine ⟨by rw [hsl, ← hds]; omega, .inl ?_⟩
    apply ByteArray.ext
    apply Array.toList_inj.1
    rw [← hds, ← hd, hv']
    have e : worth (digitsOf s) = (((worth (digitsOf s)).toNat : Nat) : Int) := by omega
    rw [e, Lib.itoa_nonneg, Int.toNat_natCast]
  | true =>
    have hm' : isAt s 0 45 45 = true := hm
    have hs0 : startOf s 0 = 1 := by
      unfold startOf
      rw [if_pos hm']
    obtain ⟨hl, hb⟩ := isAt_yes hm'
    have hb' : bt s ((0 : Nat) : Int) = 45 := by rcases hb with h | h <;> exact h
    have hds : s.data.toList = 45 :: digitsOf s := by
      unfold digitsOf
      rw [hs0]
      cases hq : s.data.toList with
      | nil =>
        exact absurd hl (by rw [hsl, hq]; exact Nat.lt_irrefl _)
      | cons c l =>
        have := (Whole.byte_at (s := s) (j := 0) (b := c) (by rw [hq]; rfl)).2
        have hcc : c = 45 := UInt8.toNat_inj.1 (by show c.toNat = 45; omega)
        rw [hcc]
        rfl
    rw [hm] at hv
    have hv' : valueOf s = -(worth (digitsOf s)) := hv
    refine ⟨by rw [hsl, hds, List.length_cons]; omega, ?_⟩
    by_cases hz : worth (digitsOf s) = 0
    · right
      rw [hz, show (0 : Int).toNat = 0 from rfl, Lib.decDigits, dif_pos (by decide)] at hd
      refine ⟨by rw [hds, ← hd]; rfl, by omega⟩
    · left
      apply ByteArray.ext
      apply Array.toList_inj.1
      rw [hds, hv']
      have e : -(worth (digitsOf s)) = -(((worth (digitsOf s)).toNat : Nat) : Int) := by omega
      rw [e, Lib.itoa_neg _ (by omega), hd]
theorem whole_d (s : ByteArray) (hc : Canon (digitsOf s)) (hs : s.size ≤ 21) (k : Nat) (hk : 21 < k) : decimal_Whole.f k (ofR (readOf s 0) s.size).1 (ofR (readOf s 0) s.size).2.1 (ofR (readOf s 0) s.size).2.2.1 = some true := by
  obtain ⟨h1, h2, h3⟩ := canon_of s hc (by omega)
  rw [h1]
  simp only
  have hsz := num_size (minus s) (digitsOf s) 0 0
  have hl : (digitsOf s).length ≤ 21 := by
    unfold digitsOf
    rw [List.length_drop]
    have : s.data.toList.length = s.size := rfl
    omega
  unfold decimal_Whole.f
  rw [formed_is _ _ _ (by omega) k (by omega), num_fm h3 h2, Option.bind_some, if_pos rfl, decide_eq_true (num_pos _ _)]
theorem j1_ok (k : Nat) (e f g : Int) (he : e = 0 ∨ e = 121) (hf : f = 0 ∨ f = 121) (hg : g ≠ 110) : quarrylaw12_WholeOnce.j1 (k + 1) e f g false = some true := by
  have hg' : (g == 110) = false := beq_eq_false_iff_ne.2 hg
  rw [quarrylaw12_WholeOnce.j1, if_neg (by decide), hg']
  rcases he with rfl | rfl <;> rcases hf with rfl | rfl <;> simp [awake_is]
theorem of_text (v : Int) (h0 : -9223372036854775808 ≤ v) (h1 : v ≤ 18446744073709551615) : decimal_Of.f ⟨(Lib.itoa v).toArray⟩ = some (ofR (readOf ⟨(Lib.itoa v).toArray⟩ 0) (⟨(Lib.itoa v).toArray⟩ : ByteArray).size) ∧ (ofR (readOf ⟨(Lib.itoa v).toArray⟩ 0) (⟨(Lib.itoa v).toArray⟩ : ByteArray).size).2.2.2 = 0 := by
  have hs := text_size v h0 h1
  constructor
  · unfold decimal_Of.f
    rw [if_pos (by omega)]
  · rw [(canon_of _ (text_value v).2 (by omega)).1]
theorem j0_ok (s : ByteArray) (hc : Canon (digitsOf s)) (k : Nat) (hk : 22 < k) (e u f : Int) (he : e = 0 ∨ e = 121) (hg : (ofR (readOf s 0) s.size).2.2.2 ≠ 110)
    (hf : (f = 0 ∧ u = valueOf s ∧ 0 ≤ valueOf s ∧ valueOf s ≤ 18446744073709551615) ∨ f = 121) :
    quarrylaw12_WholeOnce.j0 (k + 1) s e u f (ofR (readOf s 0) s.size).2.2.2 (ofR (readOf s 0) s.size).1 (ofR (readOf s 0) s.size).2.1 (ofR (readOf s 0) s.size).2.2.1 = some true := by
  obtain ⟨k, rfl⟩ : ∃ j, k = j + 1 := ⟨k - 1, by omega⟩
  rw [quarrylaw12_WholeOnce.j0]
  rcases hf with ⟨rfl, rfl, h0, h1⟩ | rfl
  · obtain ⟨hs, ho⟩ := own_text s hc (by omega) h1
    obtain ⟨t1, t2⟩ := of_text (valueOf s) (by omega) h1
    have hg0 : (ofR (readOf s 0) s.size).2.2.2 = 0 := by rw [(canon_of s hc (by omega)).1]
    have hw := whole_d s hc hs (k + 1) (by omega)
    have hj := j1_ok k e 0 0 he (.inl rfl) (by decide)
    rw [if_pos rfl, show whole_Text_uint64.f (valueOf s) = some ⟨(Lib.itoa (valueOf s)).toArray⟩ from if_pos ⟨h0, h1⟩, Option.bind_some, t1, Option.bind_some, hg0, if_pos rfl, t2, if_pos rfl, Option.bind_some]
    rcases ho with ho | ⟨ho, hz⟩
    · rw [← ho, if_pos rfl, hw, Option.bind_some, if_pos rfl]
      split
      · exact hj
      · simpa using hj
    · have hne : ¬ s.toList = (⟨(Lib.itoa (valueOf s)).toArray⟩ : ByteArray).toList := by
        rw [Lib.toList_data, Lib.toList_data, ho, hz]
        show ¬ [45, 48] = Lib.itoa 0
        rw [show Lib.itoa 0 = [48] from by unfold Lib.itoa; rw [if_neg (by decide), Lib.decDigits, dif_pos (by decide)]; rfl]
        decide
      rw [if_neg hne, if_pos (by rw [Lib.toList_data, ho]), hw, Option.bind_some, if_pos rfl]
      exact hj
  · have hg' : ((ofR (readOf s 0) s.size).2.2.2 == 110) = false := beq_eq_false_iff_ne.2 hg
    rw [if_neg (by decide), hg']
    rcases he with rfl | rfl <;> simp [awake_is]
/- ∀ (a0 : ByteArray), .. → ∃ k, quarrylaw12_WholeOnce.f k a0 = some true -/
theorem WholeOnce : quarrylaw12_WholeOnce.Pure := by
  intro s hs
  have hsz : s.size ≤ 140737488355328 := by omega
  refine ⟨40, ?_⟩
  have f1 : whole_Int_int64.f s = some (wholeR (-9223372036854775808) 9223372036854775807 s) := if_pos hsz
  have f2 : whole_Uint_uint64.f s = some (wholeR 0 18446744073709551615 s) := if_pos hsz
  have f3 : decimal_Of.f s = some (ofR (readOf s 0) s.size) := if_pos hsz
  unfold quarrylaw12_WholeOnce.f
  rw [f1, f2, f3, Option.bind_some, Option.bind_some, Option.bind_some]
  rcases way s with ⟨h, hw⟩ | ⟨h, hm, hw⟩ | ⟨h, hm, hc, hw⟩
  · rw [hw, hw]
    simp only
    rw [if_neg (by decide), quarrylaw12_WholeOnce.j0, if_neg (by decide), h]
    simp [awake_is]
  · rw [hw, hw]
    simp only
    have hg' : ((ofR (readOf s 0) s.size).2.2.2 == 110) = false := beq_eq_false_iff_ne.2 h
    rw [if_neg (by decide), quarrylaw12_WholeOnce.j0, if_neg (by decide), hg']
    simp [awake_is]
  · rw [hw _ _ (by decide) (by decide), hw _ _ (by decide) (by decide)]
    have hfu : ((if 0 ≤ valueOf s ∧ valueOf s ≤ 18446744073709551615 then (valueOf s, (0 : Int)) else (0, 121)).2 = 0 ∧ (if 0 ≤ valueOf s ∧ valueOf s ≤ 18446744073709551615 then (valueOf s, (0 : Int)) else (0, 121)).1 = valueOf s ∧ 0 ≤ valueOf s ∧ valueOf s ≤ 18446744073709551615) ∨ (if 0 ≤ valueOf s ∧ valueOf s ≤ 18446744073709551615 then (valueOf s, (0 : Int)) else (0, 121)).2 = 121 := by
      split
      · rename_i hh; exact .inl ⟨rfl, rfl, hh.1, hh.2⟩
      · exact .inr rfl
    generalize (if 0 ≤ valueOf s ∧ valueOf s ≤ 18446744073709551615 then (valueOf s, (0 : Int)) else (0, 121)) = uu at *
    by_cases hi : -9223372036854775808 ≤ valueOf s ∧ valueOf s ≤ 9223372036854775807
    · rw [if_pos hi]
      simp only
      obtain ⟨hs21, ho⟩ := own_text s hc hi.1 (by omega)
      obtain ⟨t1, t2⟩ := of_text (valueOf s) hi.1 (by omega)
      have hg0 : (ofR (readOf s 0) s.size).2.2.2 = 0 := by rw [(canon_of s hc (by omega)).1]
      have hwd := whole_d s hc hs21 40 (by decide)
      have hj := j0_ok s hc 39 (by decide) 0 uu.1 uu.2 (.inl rfl) h hfu
      rw [if_pos trivial, show whole_Text_int64.f (valueOf s) = some ⟨(Lib.itoa (valueOf s)).toArray⟩ from if_pos hi, Option.bind_some, t1, Option.bind_some, if_pos hg0, if_pos t2, Option.bind_some]
      rcases ho with ho | ⟨ho, hz⟩
      · rw [← ho, if_pos rfl, hwd, Option.bind_some, if_pos rfl]
        split
        · exact hj
        · rw [if_neg (by simp)]
          exact hj
      · have hne : ¬ s.toList = (⟨(Lib.itoa (valueOf s)).toArray⟩ : ByteArray).toList := by
          rw [Lib.toList_data, Lib.toList_data, ho, hz]
          show ¬ [45, 48] = Lib.itoa 0
          rw [show Lib.itoa 0 = [48] from by unfold Lib.itoa; rw [if_neg (by decide), Lib.decDigits, dif_pos (by decide)]; rfl]
          decide
        rw [if_neg hne, if_pos (by rw [Lib.toList_data, ho]), hwd, Option.bind_some, if_pos rfl]
        exact hj
    · rw [if_neg hi]
      simp only
      rw [if_neg (by decide)]
      exact j0_ok s hc 39 (by decide) 121 uu.1 uu.2 (.inr rfl) h hfu
end Go.Proofs.YtkjmbibnfohkjaaDoor.Pure
