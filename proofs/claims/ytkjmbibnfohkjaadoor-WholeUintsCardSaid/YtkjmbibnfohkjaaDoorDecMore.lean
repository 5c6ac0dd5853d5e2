/- Where a number's text ends; what makes a number well formed. Plain Lean. -/
import Derived.Test.YtkjmbibnfohkjaaDoorReadIs
import Derived.Lib.Strings
namespace Go.Proofs.YtkjmbibnfohkjaaDoor.Dec
open Go.RowKit Go.Proofs.YtkjmbibnfohkjaaDoorW.PrintWords Go.Proofs.YtkjmbibnfohkjaaDoorW.PrintLast Go.Proofs.YtkjmbibnfohkjaaDoorW.PrintMore Go.Proofs.YtkjmbibnfohkjaaDoor.Reader

theorem isAt_lt {s : ByteArray} {i : Nat} {x y : Int} (h : isAt s i x y = true) : i < s.size := by
  unfold isAt at h
  simp at h
  exact h.1
theorem ea_le {s : ByteArray} {bb ea : Nat} {tu : Bool} (h : Ea s bb ea tu) (hbb : bb < s.size) : bb < ea ∧ ea ≤ s.size := by
  obtain ⟨rfl, _⟩ := h
  split
  · rename_i h1
    have := isAt_lt h1
    omega
  · omega
theorem ea_ex (s : ByteArray) (bb : Nat) : ∃ ea tu, Ea s bb ea tu := ⟨_, _, rfl, rfl⟩
theorem expo_fin (s : ByteArray) (wb ba bb : Nat) (hbb : bb ≤ s.size) : (expo s wb ba bb).fin ≤ s.size ∧ bb ≤ (expo s wb ba bb).fin := by
  by_cases he : isAt s bb 101 69 = true
  · obtain ⟨ea, tu, hE⟩ := ea_ex s bb
    have h2 := ea_le hE (isAt_lt he)
    by_cases hd : dg s ea = true
    · rw [expo_to he hE hd]
      have h3 := dg_lt hd
      have h4 := dEnd_le s (i := ea + 1) (by omega)
      have h5 := dEnd_ge s (ea + 1)
      exact ⟨h4, by show bb ≤ dEnd s (ea + 1); omega⟩
    · rw [expo_no he hE (by simpa using hd)]
      exact ⟨h2.2, by show bb ≤ ea; omega⟩
  · rw [expo_none (by simpa using he)]
    exact ⟨hbb, Nat.le_refl _⟩
theorem point_fin (s : ByteArray) (wb : Nat) (hwb : wb ≤ s.size) : (point s wb).fin ≤ s.size ∧ wb ≤ (point s wb).fin := by
  unfold point
  split
  · rename_i he
    have := isAt_lt he
    split
    · rename_i hd
      have := dg_lt hd
      have h5 := dEnd_ge s (wb + 2)
      have h := expo_fin s wb (wb + 1) (dEnd s (wb + 2)) (dEnd_le s (by omega))
      exact ⟨h.1, by omega⟩
    · exact ⟨by show wb + 1 ≤ s.size; omega, by show wb ≤ wb + 1; omega⟩
  · exact expo_fin s wb wb wb hwb
theorem parts_fin (s : ByteArray) (a : Nat) (ha : a ≤ s.size) : (partsOf s a).fin ≤ s.size ∧ a ≤ (partsOf s a).fin ∧ ((partsOf s a).ok = true → a < (partsOf s a).fin) := by
  unfold partsOf
  split
  · rename_i hd
    have hlt := dg_lt hd
    split
    · have h := point_fin s (a + 1) (by omega)
      exact ⟨h.1, by omega, fun _ => by omega⟩
    · have h5 := dEnd_ge s (a + 1)
      have h := point_fin s (dEnd s (a + 1)) (dEnd_le s (by omega))
      exact ⟨h.1, by omega, fun _ => by omega⟩
  · exact ⟨ha, Nat.le_refl _, fun h => by cases h⟩
/-- The digits lie ahead of the end. -/
theorem parts_inner (s : ByteArray) (a : Nat) (hok : (partsOf s a).ok = true) : (partsOf s a).bb ≤ (partsOf s a).fin ∧ (partsOf s a).wb ≤ (partsOf s a).fin := by
  have key : ∀ wb, wb ≤ s.size → (point s wb).ok = true → (point s wb).bb ≤ (point s wb).fin ∧ (point s wb).wb ≤ (point s wb).fin := by
    intro wb hwb hok
    have hf := (point_fin s wb hwb).2
    rw [(point_bounds s wb hwb hok).1]
    refine ⟨?_, hf⟩
    unfold point at hok ⊢
    split at hok
    · split at hok
      · rename_i h1 h2
        rw [if_pos h1, if_pos h2]
        have := dg_lt h2
        rw [(expo_parts s _ _ _).2.2]
        exact (expo_fin s wb (wb + 1) (dEnd s (wb + 2)) (dEnd_le s (by omega))).2
      · cases hok
    · rename_i h1
      rw [if_neg h1, (expo_parts s _ _ _).2.2]
      exact (expo_fin s wb wb wb hwb).2
  unfold partsOf at hok ⊢
  split at hok
  · rename_i h1
    have hlt := dg_lt h1
    rw [if_pos h1]
    split at hok
    · rename_i h2
      rw [if_pos h2]
      exact key _ (by omega) hok
    · rename_i h2
      rw [if_neg h2]
      exact key _ (dEnd_le s (by omega)) hok
  · cases hok
theorem start_le (s : ByteArray) (i : Nat) (hi : i ≤ s.size) : startOf s i ≤ s.size := by
  unfold startOf
  split
  · rename_i h
    have := isAt_lt h
    omega
  · exact hi
/-- The whole digits and those behind the point are digits. -/
theorem point_digits (s : ByteArray) (wb : Nat) (hok : (point s wb).ok = true) : AllDg s (point s wb).ba (point s wb).bb := by
  unfold point at hok ⊢
  split at hok
  · split at hok
    · rename_i h1 h2
      rw [if_pos h1, if_pos h2]
      obtain ⟨e1, e2, e3⟩ := expo_parts s wb (wb + 1) (dEnd s (wb + 2))
      rw [e2, e3, ← dEnd_step h2]
      exact fun _ h3 h4 => dEnd_dg h3 h4
    · cases hok
  · rename_i h1
    rw [if_neg h1]
    obtain ⟨e1, e2, e3⟩ := expo_parts s wb wb wb
    rw [e2, e3]
    exact AllDg.nil s _
theorem parts_digits (s : ByteArray) (a : Nat) (hok : (partsOf s a).ok = true) : AllDg s a (partsOf s a).wb ∧ AllDg s (partsOf s a).ba (partsOf s a).bb := by
  unfold partsOf at hok ⊢
  split at hok
  · rename_i h1
    have hlt := dg_lt h1
    rw [if_pos h1]
    split at hok
    · rename_i h2
      rw [if_pos h2, (point_bounds s _ (by omega) hok).1]
      refine ⟨?_, point_digits s _ hok⟩
      intro j h3 h4
      rw [show j = a from by omega]
      exact h1
    · rename_i h2
      rw [if_neg h2, (point_bounds s _ (dEnd_le s (by omega)) hok).1]
      refine ⟨?_, point_digits s _ hok⟩
      intro j h3 h4
      rw [← dEnd_step h1] at h4
      exact dEnd_dg h3 h4
  · cases hok
/-- Read in three lines. -/
theorem readOf_cases (s : ByteArray) (i : Nat) (_hi : i ≤ s.size) :
    (readOf s i = (false, ⟨#[]⟩, 0, ((partsOf s (startOf s i)).fin : Int), 110) ∧ (partsOf s (startOf s i)).ok = false) ∨
    (readOf s i = (false, ⟨#[]⟩, 0, ((partsOf s (startOf s i)).fin : Int), 111) ∧ (partsOf s (startOf s i)).ok = true) ∨
    (∃ n l d e, readOf s i = ((numOf n l d e).1, (numOf n l d e).2.1, (numOf n l d e).2.2.1, ((partsOf s (startOf s i)).fin : Int), 0) ∧ (numOf n l d e).2.2.2 = true ∧ Digits l ∧ (partsOf s (startOf s i)).ok = true) := by
  by_cases ho : (partsOf s (startOf s i)).ok = true
  · have h := readOf_yes (s := s) (i := i) rfl ho rfl rfl rfl rfl
    by_cases hq : (numOf (isAt s i 45 45) (piece s (startOf s i) (partsOf s (startOf s i)).wb ++ piece s (partsOf s (startOf s i)).ba (partsOf s (startOf s i)).bb) ((partsOf s (startOf s i)).bb - (partsOf s (startOf s i)).ba)
        (if (partsOf s (startOf s i)).turned = true then -sat (piece s (partsOf s (startOf s i)).ea (partsOf s (startOf s i)).fin) 0 else sat (piece s (partsOf s (startOf s i)).ea (partsOf s (startOf s i)).fin) 0)).2.2.2 = true
    · rw [if_pos hq] at h
      refine .inr (.inr ⟨_, _, _, _, h, hq, ?_, ho⟩)
      have hall := parts_digits s (startOf s i) ho
      intro c hc
      rcases List.mem_append.1 hc with h1 | h1
      · exact hall.1.digits c h1
      · exact hall.2.digits c h1
    · rw [if_neg hq] at h
      exact .inr (.inl ⟨h, ho⟩)
  · exact .inl ⟨readOf_no rfl (by simpa using ho), by simpa using ho⟩
end Go.Proofs.YtkjmbibnfohkjaaDoor.Dec
