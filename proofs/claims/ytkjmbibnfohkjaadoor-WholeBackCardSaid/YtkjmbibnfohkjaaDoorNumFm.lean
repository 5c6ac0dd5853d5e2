/- The number that is read is well formed. Plain Lean. -/
import Derived.Test.YtkjmbibnfohkjaaDoorFmDef
namespace Go.Proofs.YtkjmbibnfohkjaaDoor.Dec
open Go.RowKit Go.Proofs.YtkjmbibnfohkjaaDoorW.PrintWords Go.Proofs.YtkjmbibnfohkjaaDoorW.PrintLast Go.Proofs.YtkjmbibnfohkjaaDoorW.PrintMore Go.Proofs.YtkjmbibnfohkjaaDoor.Reader

theorem digsFrom_all (s : ByteArray) : ∀ (d i : Nat), (∀ j, i ≤ j → j < i + d → isDig (bt s (j : Int)) = true) → digsFrom s i d = true
  | 0, _, _ => rfl
  | d + 1, i, h => by
    unfold digsFrom
    rw [h i (Nat.le_refl _) (by omega), Bool.true_and]
    exact digsFrom_all s d (i + 1) (fun j h1 h2 => h j (by omega) (by omega))
theorem digsFrom_of (s : ByteArray) : ∀ (d i : Nat), digsFrom s i d = true → ∀ j, i ≤ j → j < i + d → isDig (bt s (j : Int)) = true
  | 0, _, _, j, h1, h2 => by omega
  | d + 1, i, h, j, h1, h2 => by
    unfold digsFrom at h
    rw [Bool.and_eq_true] at h
    by_cases e : j = i
    · rw [e]; exact h.1
    · exact digsFrom_of s d (i + 1) h.2 j (by omega) (by omega)
theorem mem_dropWhile {p : UInt8 → Bool} {l : List UInt8} {c : UInt8} (h : c ∈ l.dropWhile p) : c ∈ l := (List.dropWhile_sublist p).subset h
theorem trimB_mem {l : List UInt8} {c : UInt8} (h : c ∈ (trimB l).data.toList) : c ∈ l := by
  have h' : c ∈ ((l.dropWhile (· == 48)).reverse.dropWhile (· == 48)).reverse := h
  exact mem_dropWhile (List.mem_reverse.1 (mem_dropWhile (List.mem_reverse.1 h')))
theorem head_dropWhile {p : UInt8 → Bool} : ∀ {l : List UInt8} {c : UInt8} {r : List UInt8}, l.dropWhile p = c :: r → p c = false
  | [], _, _, h => by simp at h
  | d :: l, c, r, h => by
    rw [List.dropWhile_cons] at h
    split at h
    · exact head_dropWhile h
    · rename_i hd
      cases h
      simpa using hd
/-- The last digit is no nought. -/
theorem trimB_last {l : List UInt8} {c : UInt8} (h : (trimB l).data.toList.getLast? = some c) : c ≠ 48 := by
  have h' : ((l.dropWhile (· == 48)).reverse.dropWhile (· == 48)).reverse.getLast? = some c := h
  rw [List.getLast?_reverse] at h'
  cases hd : (l.dropWhile (· == 48)).reverse.dropWhile (· == 48) with
  | nil =>
    rw [hd] at h'
    simp at h'
  | cons x r =>
    rw [hd] at h'
    simp at h'
    have := head_dropWhile hd
    rw [← h']
    simpa using this
/-- Nor is the first. -/
theorem trimB_first {l : List UInt8} {c : UInt8} (h : (trimB l).data.toList.head? = some c) : c ≠ 48 := by
  have h' : ((l.dropWhile (· == 48)).reverse.dropWhile (· == 48)).reverse.head? = some c := h
  have hpre : ((l.dropWhile (· == 48)).reverse.dropWhile (· == 48)).reverse <+: l.dropWhile (· == 48) := by
    have := List.reverse_prefix.2 (List.dropWhile_suffix (l := (l.dropWhile (· == 48)).reverse) (· == 48))
    rwa [List.reverse_reverse] at this
  obtain ⟨r, hr⟩ := hpre
  cases hx : ((l.dropWhile (· == 48)).reverse.dropWhile (· == 48)).reverse with
  | nil =>
    rw [hx] at h'
    simp at h'
  | cons x q =>
    rw [hx] at h' hr
    simp at h'
    have := head_dropWhile (show l.dropWhile (· == 48) = x :: (q ++ r) from by rw [← hr]; rfl)
    rw [← h']
    simpa using this
theorem getD_last {l : List UInt8} (h : l ≠ []) : l.getLast? = some (l.getD (l.length - 1) 0) := by
  rw [List.getLast?_eq_getElem?, List.getD_eq_getElem?_getD, List.getElem?_eq_getElem (by have := List.length_pos_iff.2 h; omega)]
  rfl
theorem getD_head {l : List UInt8} (h : l ≠ []) : l.head? = some (l.getD 0 0) := by
  cases l with
  | nil => exact absurd rfl h
  | cons x r => rfl
theorem byte_ne {s : ByteArray} {j : Nat} (hj : j < s.size) (h : s.data.toList.getD j 0 ≠ 48) : ¬ bt s (j : Int) = 48 := by
  rw [← byte_bt s hj]
  intro e
  apply h
  apply UInt8.toNat_inj.1
  show (s.data.toList.getD j 0).toNat = 48
  omega
theorem num_fm {n : Bool} {l : List UInt8} {d : Nat} {e : Int} (hl : Digits l) (h : (numOf n l d e).2.2.2 = true) : fm (numOf n l d e).2.1 (numOf n l d e).2.2.1 = true := by
  by_cases h1 : (trimB l).data.toList = []
  · have e1 : numOf n l d e = (n, ⟨#[]⟩, 0, true) := by
      unfold numOf
      rw [if_pos h1]
    rw [e1]
    rfl
  · by_cases h2 : expOf l d e > 1073741824 ∨ expOf l d e < -1073741824
    · have e1 : numOf n l d e = (false, ⟨#[]⟩, 0, false) := by
        unfold numOf
        rw [if_neg h1, if_pos h2]
      rw [e1] at h
      cases h
    · have e1 : numOf n l d e = (n, trimB l, expOf l d e, true) := by
        unfold numOf
        rw [if_neg h1, if_neg h2]
      rw [e1]
      have hp : 0 < (trimB l).data.toList.length := List.length_pos_iff.2 h1
      have hs : (trimB l).data.toList.length = (trimB l).size := rfl
      simp only
      unfold fm
      rw [if_neg (by omega)]
      have hall : digsFrom (trimB l) 0 (trimB l).size = true := by
        refine digsFrom_all _ _ _ (fun j _ hj => ?_)
        have hj' : j < (trimB l).size := by omega
        have hm : (trimB l).data.toList.getD j 0 ∈ (trimB l).data.toList := by
          rw [List.getD_eq_getElem?_getD, List.getElem?_eq_getElem (by exact hj')]
          exact List.getElem_mem _
        have hd := hl _ (trimB_mem hm)
        rw [byte_bt _ hj'] at hd
        unfold isDig
        rw [decide_eq_true hd.1, decide_eq_true hd.2]
        rfl
      have hf := byte_ne (s := trimB l) (j := 0) (by omega) (trimB_first (getD_head h1))
      have hla := byte_ne (s := trimB l) (j := (trimB l).size - 1) (by omega) (trimB_last (by rw [getD_last h1]; rfl))
      have ec : (((trimB l).size - 1 : Nat) : Int) = ((trimB l).size : Int) - 1 := by omega
      rw [ec] at hla
      rw [hall, Bool.true_and]
      unfold ends
      have hf' : ¬ bt (trimB l) 0 = 48 := hf
      rw [decide_eq_false hf', decide_eq_false hla, decide_eq_true (by omega), decide_eq_true (by omega)]
      rfl
theorem num_size (n : Bool) (l : List UInt8) (d : Nat) (e : Int) : (numOf n l d e).2.1.size ≤ l.length := by
  have h1 := trimA_size l
  have h2 := trimB_size l
  unfold numOf
  split
  · exact Nat.zero_le _
  · split
    · exact Nat.zero_le _
    · show (trimB l).size ≤ _
      omega
theorem num_of_size {n : Bool} {l : List UInt8} {d : Nat} {e x : Int} {m : Nat} {r : Bool × ByteArray × Int × Int × Int} (h : r = if (numOf n l d e).2.2.2 = true then ((numOf n l d e).1, (numOf n l d e).2.1, (numOf n l d e).2.2.1, x, 0) else (false, ⟨#[]⟩, 0, x, 111)) (hm : l.length ≤ m) : r.2.1.size ≤ m := by
  have hs := num_size n l d e
  generalize numOf n l d e = q at h hs
  rw [h]
  by_cases hq : q.2.2.2 = true
  · rw [if_pos hq]
    exact Nat.le_trans hs hm
  · rw [if_neg hq]
    exact Nat.zero_le _
theorem read_small (s : ByteArray) (i : Nat) (_hi : i ≤ s.size) {r : Bool × ByteArray × Int × Int × Int} (hR : readOf s i = r) : r.2.1.size ≤ s.size := by
  by_cases ho : (partsOf s (startOf s i)).ok = true
  · have h := readOf_yes (s := s) (i := i) rfl ho rfl rfl rfl rfl
    rw [hR] at h
    refine num_of_size h ?_
    have e1 := piece_len_le s (startOf s i) (partsOf s (startOf s i)).wb
    have e2 := piece_len_le s (partsOf s (startOf s i)).ba (partsOf s (startOf s i)).bb
    obtain ⟨b1, b2, b3, b4⟩ := parts_bounds s _ ho
    rw [List.length_append]
    omega
  · have h := readOf_no (s := s) (i := i) rfl (by simpa using ho)
    rw [hR] at h
    rw [h]
    exact Nat.zero_le _
end Go.Proofs.YtkjmbibnfohkjaaDoor.Dec
