/- Rows of digits in their one form are ordered as their worths are. Plain Lean. -/
import Derived.Test.YtkjmbibnfohkjaaDoorWholeBase
import Derived.Laws.Strings
namespace Go.Proofs.YtkjmbibnfohkjaaDoor.Whole
theorem worthFrom_add (l : List UInt8) : ∀ n, worthFrom l n = n * 10 ^ l.length + worth l := by
  induction l with
  | nil => intro n; show n = n * 1 + 0; omega
  | cons c l ih =>
    intro n
    show worthFrom l (n * 10 + dv c) = _
    rw [ih]
    have e : worth (c :: l) = dv c * 10 ^ l.length + worth l := by
      show worthFrom l (0 * 10 + dv c) = _
      rw [ih, Int.zero_mul, Int.zero_add]
    rw [e, List.length_cons, Int.pow_succ, Int.add_mul, Int.mul_assoc, Int.mul_comm 10, Int.add_assoc]
theorem worth_cons (c : UInt8) (l : List UInt8) : worth (c :: l) = dv c * 10 ^ l.length + worth l := by
  show worthFrom l (0 * 10 + dv c) = _
  rw [worthFrom_add, Int.zero_mul, Int.zero_add]
theorem ten_pos (n : Nat) : (0 : Int) < 10 ^ n := Int.pow_pos (by decide)
theorem Dgs.tail {c : UInt8} {l : List UInt8} (h : Dgs (c :: l)) : Dgs l := fun x hx => h x (List.mem_cons_of_mem _ hx)
theorem Dgs.dv {c : UInt8} {l : List UInt8} (h : Dgs (c :: l)) : 0 ≤ dv c ∧ dv c ≤ 9 := by
  have := h c (List.mem_cons_self ..)
  unfold Whole.dv
  omega
theorem worth_lt : ∀ l : List UInt8, Dgs l → worth l < 10 ^ l.length
  | [], _ => by decide
  | c :: l, h => by
    have ih := worth_lt l h.tail
    have hd := h.dv
    have hp := ten_pos l.length
    have := Int.mul_le_mul_of_nonneg_right hd.2 (Int.le_of_lt hp)
    rw [worth_cons, List.length_cons, Int.pow_succ]
    omega
theorem less_same : ∀ a b : List UInt8, a.length = b.length → Dgs a → Dgs b → Op.bytesLess a b = decide (worth a < worth b)
  | [], [], _, _, _ => rfl
  | [], _ :: _, h, _, _ => by simp at h
  | _ :: _, [], h, _, _ => by simp at h
  | x :: a, y :: b, h, ha, hb => by
    have hl : a.length = b.length := by simpa using h
    have ih := less_same a b hl ha.tail hb.tail
    have h1 := worth_lt a ha.tail
    have h2 := worth_lt b hb.tail
    have n1 := worth_nonneg a ha.tail
    have n2 := worth_nonneg b hb.tail
    have hp := ten_pos a.length
    rw [Op.bytesLess, ih, worth_cons, worth_cons, ← hl]
    rw [← hl] at h2
    generalize (10 : Int) ^ a.length = P at *
    rcases Nat.lt_trichotomy x.toNat y.toNat with c | c | c
    · have hxy : x < y := c
      have hd : dv x + 1 ≤ dv y := by unfold dv; omega
      have := Int.mul_le_mul_of_nonneg_right hd (Int.le_of_lt hp)
      rw [Int.add_mul, Int.one_mul] at this
      rw [decide_eq_true hxy, Bool.true_or, decide_eq_true (by omega)]
    · have e : x = y := UInt8.toNat_inj.1 c
      subst e
      rw [decide_eq_false (show ¬ x < x from by rw [UInt8.lt_iff_toNat_lt]; omega), Bool.false_or, beq_self_eq_true, Bool.true_and]
      by_cases hw : worth a < worth b
      · rw [decide_eq_true hw, decide_eq_true (by omega)]
      · rw [decide_eq_false hw, decide_eq_false (by omega)]
    · have hxy : ¬ x < y := by rw [UInt8.lt_iff_toNat_lt]; omega
      have hne : (x == y) = false := by
        rw [beq_eq_false_iff_ne]
        rintro rfl
        omega
      have hd : dv y + 1 ≤ dv x := by unfold dv; omega
      have := Int.mul_le_mul_of_nonneg_right hd (Int.le_of_lt hp)
      rw [Int.add_mul, Int.one_mul] at this
      rw [decide_eq_false hxy, hne, Bool.false_and, Bool.false_or, decide_eq_false (by omega)]
theorem canon_ge {c : UInt8} {l : List UInt8} (h : Canon (c :: l)) (hl : l ≠ []) : (10 : Int) ^ l.length ≤ worth (c :: l) := by
  obtain ⟨hd, _, h0⟩ := h
  have hc := hd.dv
  have hne : c.toNat ≠ 48 := by
    intro e
    have := h0 (by rw [show c = 48 from UInt8.toNat_inj.1 e]; rfl)
    simp at this
    exact hl this
  have hd1 : 1 ≤ dv c := by
    have := hd c (List.mem_cons_self ..)
    unfold dv
    omega
  have hp := ten_pos l.length
  have := Int.mul_le_mul_of_nonneg_right hd1 (Int.le_of_lt hp)
  have hn := worth_nonneg l hd.tail
  rw [worth_cons]
  omega
theorem pow_le {m n : Nat} (h : m ≤ n) : (10 : Int) ^ m ≤ 10 ^ n := by
  have := Nat.pow_le_pow_right (show 0 < 10 by decide) h
  have e : ∀ k : Nat, (10 : Int) ^ k = ((10 ^ k : Nat) : Int) := fun k => by rw [Int.natCast_pow]; rfl
  rw [e, e]
  omega
theorem longer {a b : List UInt8} (ha : Canon a) (hb : Dgs b) (h : b.length < a.length) : worth b < worth a ∨ b = [] := by
  cases b with
  | nil => exact .inr rfl
  | cons y b =>
    cases a with
    | nil => simp at h
    | cons x a =>
      simp only [List.length_cons] at h
      have hne : a ≠ [] := by
        intro e
        rw [e] at h
        simp at h
      have h1 := canon_ge ha hne
      have h2 := worth_lt _ hb
      have h3 := pow_le (show (y :: b).length ≤ a.length by simp only [List.length_cons]; omega)
      exact .inl (by omega)
/-- What the document's above tells, of rows in their one form. -/
theorem above_list (a b : List UInt8) (ha : Canon a) (hb : Canon b) : (if a.length = b.length then Op.bytesLess b a else decide (a.length > b.length)) = decide (worth b < worth a) := by
  by_cases h : a.length = b.length
  · rw [if_pos h, less_same b a h.symm hb.1 ha.1]
  · rw [if_neg h]
    by_cases hg : a.length > b.length
    · rcases longer ha hb.1 hg with h1 | h1
      · rw [decide_eq_true hg, decide_eq_true h1]
      · exact absurd h1 hb.2.1
    · rcases longer hb ha.1 (by omega) with h1 | h1
      · rw [decide_eq_false hg, decide_eq_false (by omega)]
      · exact absurd h1 ha.2.1
theorem dec_head : ∀ (n u : Nat), u ≤ n → 1 ≤ u → (Lib.decDigits u).head? ≠ some 48 := by
  intro n
  induction n with
  | zero => intro u h1 h2; omega
  | succ n ih =>
    intro u h1 h2
    rw [Lib.decDigits]
    by_cases h : u < 10
    · rw [dif_pos h]
      intro e
      have e2 : UInt8.ofNat (48 + u) = 48 := by simpa using e
      have := of_toNat u h
      rw [e2] at this
      have : (48 : UInt8).toNat = 48 := rfl
      omega
    · rw [dif_neg h, List.head?_append]
      have hne := (dec_dgs n (u / 10) (by omega)).2
      have := ih (u / 10) (by omega) (by omega)
      cases hd : (Lib.decDigits (u / 10)).head? with
      | none => exact absurd (List.head?_eq_none_iff.1 hd) hne
      | some c =>
        rw [hd] at this
        simpa using this
theorem dec_canon (u : Nat) : Canon (Lib.decDigits u) := by
  refine ⟨(dec_dgs u u (Nat.le_refl _)).1, (dec_dgs u u (Nat.le_refl _)).2, ?_⟩
  intro h
  by_cases hu : u = 0
  · rw [hu, Lib.decDigits, dif_pos (by decide)]
    rfl
  · exact absurd h (dec_head u u (Nat.le_refl _) (by omega))
end Go.Proofs.YtkjmbibnfohkjaaDoor.Whole
