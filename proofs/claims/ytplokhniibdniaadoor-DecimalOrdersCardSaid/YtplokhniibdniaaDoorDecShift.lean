/- A number reads the same wherever it stands, and when the text ends where it ends. Plain Lean. -/
import Derived.Test.YtplokhniibdniaaDoorDecMore
namespace Go.Proofs.YtplokhniibdniaaDoor.Dec
open Go.RowKit Go.Proofs.YtplokhniibdniaaDoorW.PrintWords Go.Proofs.YtplokhniibdniaaDoorW.PrintLast Go.Proofs.YtplokhniibdniaaDoorW.PrintMore Go.Proofs.YtplokhniibdniaaDoor.Reader

theorem cat_list (A s : ByteArray) : (A ++ s).data.toList = A.data.toList ++ s.data.toList := by simp
theorem cat_size (A s : ByteArray) : (A ++ s).size = A.size + s.size := ByteArray.size_append
theorem cat_bt (A s : ByteArray) {j : Nat} (hj : j < s.size) : bt (A ++ s) ((A.size + j : Nat) : Int) = bt s (j : Int) := by
  rw [← byte_bt s hj, ← byte_bt (A ++ s) (by rw [cat_size]; omega), cat_list, List.getD_eq_getElem?_getD, List.getD_eq_getElem?_getD, List.getElem?_append_right (by show A.data.toList.length ≤ A.data.toList.length + j; omega)]
  rw [show A.size + j - A.data.toList.length = j from by show A.data.toList.length + j - A.data.toList.length = j; omega]
theorem cat_dg (A s : ByteArray) (j : Nat) : dg (A ++ s) (A.size + j) = dg s j := by
  unfold dg
  by_cases h : j < s.size
  · rw [cat_bt A s h, decide_eq_true h, decide_eq_true (by rw [cat_size]; omega)]
  · rw [decide_eq_false h, decide_eq_false (by rw [cat_size]; omega)]
    rfl
theorem cat_isAt (A s : ByteArray) (j : Nat) (x y : Int) : isAt (A ++ s) (A.size + j) x y = isAt s j x y := by
  unfold isAt
  by_cases h : j < s.size
  · rw [cat_bt A s h, decide_eq_true h, decide_eq_true (by rw [cat_size]; omega)]
  · rw [decide_eq_false h, decide_eq_false (by rw [cat_size]; omega)]
    rfl
theorem cat_run (A s : ByteArray) : ∀ m i, run (A ++ s) m (A.size + i) = A.size + run s m i
  | 0, i => rfl
  | m + 1, i => by
    unfold run
    rw [cat_dg, show A.size + i + 1 = A.size + (i + 1) from rfl, cat_run A s m (i + 1)]
    split <;> rfl
theorem cat_dEnd (A s : ByteArray) (i : Nat) : dEnd (A ++ s) (A.size + i) = A.size + dEnd s i := by
  unfold dEnd
  rw [← cat_run]
  congr 1
  rw [cat_size]
  omega
theorem cat_piece (A s : ByteArray) (a b : Nat) : piece (A ++ s) (A.size + a) (A.size + b) = piece s a b := by
  unfold piece
  rw [cat_list, show A.size + b - (A.size + a) = b - a from by omega, show A.size + a = A.data.toList.length + a from rfl, ← List.drop_drop, List.drop_left]
def shiftP (n : Nat) (p : Parts) : Parts := ⟨p.ok, n + p.fin, n + p.wb, n + p.ba, n + p.bb, n + p.ea, p.turned⟩
theorem cat_ea {A s : ByteArray} {bb ea : Nat} {tu : Bool} (h : Ea s bb ea tu) : Ea (A ++ s) (A.size + bb) (A.size + ea) tu := by
  obtain ⟨h1, h2⟩ := h
  have e := cat_isAt A s (bb + 1) 43 45
  refine ⟨?_, ?_⟩
  · rw [show A.size + bb + 1 = A.size + (bb + 1) from rfl, e, h1]
    split <;> omega
  · rw [show A.size + bb + 1 = A.size + (bb + 1) from rfl, e, h2]
    by_cases hi : isAt s (bb + 1) 43 45 = true
    · rw [cat_bt A s (isAt_lt hi)]
    · rw [show isAt s (bb + 1) 43 45 = false from by simpa using hi]
      rfl
theorem cat_expo (A s : ByteArray) (wb ba bb : Nat) : expo (A ++ s) (A.size + wb) (A.size + ba) (A.size + bb) = shiftP A.size (expo s wb ba bb) := by
  by_cases he : isAt s bb 101 69 = true
  · obtain ⟨ea, tu, hE⟩ := ea_ex s bb
    have he' := (cat_isAt A s bb 101 69).trans he
    by_cases hd : dg s ea = true
    · rw [expo_to he hE hd, expo_to he' (cat_ea hE) ((cat_dg A s ea).trans hd), show A.size + ea + 1 = A.size + (ea + 1) from rfl, cat_dEnd]
      rfl
    · have hd' : dg s ea = false := by simpa using hd
      rw [expo_no he hE hd', expo_no he' (cat_ea hE) ((cat_dg A s ea).trans hd')]
      rfl
  · have he' : isAt s bb 101 69 = false := by simpa using he
    rw [expo_none he', expo_none ((cat_isAt A s bb 101 69).trans he')]
    rfl
theorem cat_point (A s : ByteArray) (wb : Nat) : point (A ++ s) (A.size + wb) = shiftP A.size (point s wb) := by
  unfold point
  rw [cat_isAt, show A.size + wb + 1 = A.size + (wb + 1) from rfl, show A.size + wb + 2 = A.size + (wb + 2) from rfl, cat_dg, cat_dEnd, cat_expo, cat_expo]
  split
  · split <;> rfl
  · rfl
theorem cat_parts (A s : ByteArray) (a : Nat) : partsOf (A ++ s) (A.size + a) = shiftP A.size (partsOf s a) := by
  unfold partsOf
  rw [cat_dg, show A.size + a + 1 = A.size + (a + 1) from rfl, cat_dEnd, cat_point, cat_point]
  by_cases hd : dg s a = true
  · rw [if_pos hd, if_pos hd, cat_bt A s (dg_lt hd)]
    split <;> rfl
  · rw [if_neg hd, if_neg hd]
    rfl
theorem cat_start (A s : ByteArray) (i : Nat) : startOf (A ++ s) (A.size + i) = A.size + startOf s i := by
  unfold startOf
  rw [cat_isAt]
  split <;> rfl
theorem cat_read (A s : ByteArray) (i : Nat) : readOf (A ++ s) (A.size + i) = ((readOf s i).1, (readOf s i).2.1, (readOf s i).2.2.1, (A.size : Int) + (readOf s i).2.2.2.1, (readOf s i).2.2.2.2) := by
  have hp : partsOf (A ++ s) (startOf (A ++ s) (A.size + i)) = shiftP A.size (partsOf s (startOf s i)) := by rw [cat_start, cat_parts]
  by_cases ho : (partsOf s (startOf s i)).ok = true
  · obtain ⟨n, hn⟩ : ∃ n, n = isAt s i 45 45 := ⟨_, rfl⟩
    obtain ⟨l, hl⟩ : ∃ l, l = piece s (startOf s i) (partsOf s (startOf s i)).wb ++ piece s (partsOf s (startOf s i)).ba (partsOf s (startOf s i)).bb := ⟨_, rfl⟩
    obtain ⟨d, hd⟩ : ∃ d, d = (partsOf s (startOf s i)).bb - (partsOf s (startOf s i)).ba := ⟨_, rfl⟩
    obtain ⟨e, he⟩ : ∃ e, e = if (partsOf s (startOf s i)).turned = true then -sat (piece s (partsOf s (startOf s i)).ea (partsOf s (startOf s i)).fin) 0 else sat (piece s (partsOf s (startOf s i)).ea (partsOf s (startOf s i)).fin) 0 := ⟨_, rfl⟩
    have h1 := readOf_yes (s := s) (i := i) rfl ho hn hl hd he
    have h2 := readOf_yes (s := A ++ s) (i := A.size + i) (n := n) (l := l) (d := d) (e := e) hp.symm ho (by rw [cat_isAt]; exact hn)
      (by rw [hl, cat_start]; show _ = piece (A ++ s) (A.size + _) (A.size + _) ++ piece (A ++ s) (A.size + _) (A.size + _); rw [cat_piece, cat_piece])
      (by rw [hd]; show _ = A.size + _ - (A.size + _); omega)
      (by rw [he]; show _ = if (partsOf s (startOf s i)).turned = true then -sat (piece (A ++ s) (A.size + _) (A.size + _)) 0 else sat (piece (A ++ s) (A.size + _) (A.size + _)) 0; rw [cat_piece])
    rw [h1, h2]
    by_cases hq : (numOf n l d e).2.2.2 = true
    · rw [if_pos hq, if_pos hq]
      simp only [shiftP, Int.natCast_add]
    · rw [if_neg hq, if_neg hq]
      simp only [shiftP, Int.natCast_add]
  · have ho' : (partsOf s (startOf s i)).ok = false := by simpa using ho
    rw [readOf_no (s := s) (i := i) rfl ho', readOf_no (s := A ++ s) (i := A.size + i) hp.symm ho']
    simp only [shiftP, Int.natCast_add]

/-! ### The text cut off behind the number -/
theorem dEnd_unique {s : ByteArray} : ∀ (d i e : Nat), i + d = e → (∀ j, i ≤ j → j < e → dg s j = true) → dg s e = false → dEnd s i = e
  | 0, i, e, h, _, h2 => by
    have : i = e := by omega
    subst this
    exact dEnd_stop h2
  | d + 1, i, e, h, h1, h2 => by
    rw [dEnd_step (h1 i (Nat.le_refl _) (by omega))]
    exact dEnd_unique d (i + 1) e (by omega) (fun j g1 g2 => h1 j (by omega) g2) h2
/-- t is s up to a place. -/
def Cut (s t : ByteArray) : Prop := t.size ≤ s.size ∧ ∀ j, j < t.size → bt t (j : Int) = bt s (j : Int)
theorem cut_mk (s : ByteArray) (f : Nat) (hf : f ≤ s.size) : Cut s (s.extract 0 f) ∧ (s.extract 0 f).size = f := by
  have hl : (s.extract 0 f).data.toList = s.data.toList.take f := by
    rw [Lib.extract_data, List.drop_zero, Nat.sub_zero]
  have hs : (s.extract 0 f).size = f := by
    show (s.extract 0 f).data.toList.length = f
    rw [hl, List.length_take]
    show min f s.size = f
    omega
  refine ⟨⟨by omega, fun j hj => ?_⟩, hs⟩
  rw [← byte_bt s (by omega), ← byte_bt (s.extract 0 f) hj, hl, List.getD_eq_getElem?_getD, List.getD_eq_getElem?_getD, List.getElem?_take, if_pos (by omega)]
section
variable {s t : ByteArray} (h : Cut s t)
include h
theorem cut_dg {j : Nat} (hj : j < t.size) : dg t j = dg s j := by
  unfold dg
  rw [h.2 j hj, decide_eq_true hj, decide_eq_true (show j < s.size by have := h.1; omega)]
theorem cut_isAt {j : Nat} (hj : j < t.size) (x y : Int) : isAt t j x y = isAt s j x y := by
  unfold isAt
  rw [h.2 j hj, decide_eq_true hj, decide_eq_true (show j < s.size by have := h.1; omega)]
omit h in
theorem out_dg {j : Nat} (hj : t.size ≤ j) : dg t j = false := by
  unfold dg
  rw [decide_eq_false (by omega)]
  rfl
omit h in
theorem out_isAt {j : Nat} (hj : t.size ≤ j) (x y : Int) : isAt t j x y = false := by
  unfold isAt
  rw [decide_eq_false (by omega)]
  rfl
theorem cut_dEnd {i : Nat} (hi : dEnd s i ≤ t.size) : dEnd t i = dEnd s i := by
  have hge := dEnd_ge s i
  refine dEnd_unique (dEnd s i - i) i (dEnd s i) (by omega) (fun j h1 h2 => ?_) ?_
  · rw [cut_dg h (by omega)]
    exact dEnd_dg h1 h2
  · by_cases e : dEnd s i < t.size
    · rw [cut_dg h e]
      exact dEnd_end s i
    · exact out_dg (by omega)
theorem cut_expo {wb ba bb : Nat} (hok : (expo s wb ba bb).ok = true) (hf : (expo s wb ba bb).fin = t.size) : expo t wb ba bb = expo s wb ba bb := by
  by_cases he : isAt s bb 101 69 = true
  · obtain ⟨ea, tu, hE⟩ := ea_ex s bb
    by_cases hd : dg s ea = true
    · have h1 := ea_le hE (isAt_lt he)
      have h2 := dEnd_ge s (ea + 1)
      rw [expo_to he hE hd] at hf
      have hf' : dEnd s (ea + 1) = t.size := hf
      have hE' : Ea t bb ea tu := by
        obtain ⟨g1, g2⟩ := hE
        have hb1 : bb + 1 < t.size := by omega
        refine ⟨by rw [cut_isAt h hb1]; exact g1, ?_⟩
        rw [cut_isAt h hb1, h.2 _ hb1]
        exact g2
      rw [expo_to he hE hd, expo_to ((cut_isAt h (by omega) 101 69).trans he) hE' ((cut_dg h (by omega)).trans hd), cut_dEnd h (by omega)]
    · rw [expo_no he hE (by simpa using hd)] at hok
      cases hok
  · have he' : isAt s bb 101 69 = false := by simpa using he
    rw [expo_none he'] at hf
    have hf' : bb = t.size := hf
    rw [expo_none he', expo_none (out_isAt (by omega) 101 69)]
theorem cut_point {wb : Nat} (hwb : wb ≤ s.size) (hok : (point s wb).ok = true) (hf : (point s wb).fin = t.size) : point t wb = point s wb := by
  by_cases hp : isAt s wb 46 46 = true
  · by_cases hd : dg s (wb + 1) = true
    · have e : point s wb = expo s wb (wb + 1) (dEnd s (wb + 2)) := by
        unfold point
        rw [if_pos hp, if_pos hd]
      have hlt := dg_lt hd
      have h2 := dEnd_ge s (wb + 2)
      rw [e] at hok hf ⊢
      have h3 := (expo_fin s wb (wb + 1) (dEnd s (wb + 2)) (dEnd_le s (by omega))).2
      have e' : point t wb = expo t wb (wb + 1) (dEnd t (wb + 2)) := by
        unfold point
        rw [if_pos ((cut_isAt h (by omega) 46 46).trans hp), if_pos ((cut_dg h (by omega)).trans hd)]
      rw [e', cut_dEnd h (by omega)]
      exact cut_expo h hok hf
    · have e : point s wb = ⟨false, wb + 1, wb, wb + 1, wb + 1, wb + 1, false⟩ := by
        unfold point
        rw [if_pos hp, if_neg hd]
      rw [e] at hok
      cases hok
  · have e : point s wb = expo s wb wb wb := by
      unfold point
      rw [if_neg hp]
    rw [e] at hok hf ⊢
    have h3 := (expo_fin s wb wb wb hwb).2
    have hp' : isAt t wb 46 46 = false := by
      by_cases g : wb < t.size
      · rw [cut_isAt h g]
        simpa using hp
      · exact out_isAt (by omega) 46 46
    have e' : point t wb = expo t wb wb wb := by
      unfold point
      rw [if_neg (by rw [hp']; decide)]
    rw [e']
    exact cut_expo h hok hf
theorem cut_parts {a : Nat} (hok : (partsOf s a).ok = true) (hf : (partsOf s a).fin = t.size) : partsOf t a = partsOf s a := by
  by_cases hd : dg s a = true
  · have hlt := dg_lt hd
    have hlf := (parts_fin s a (by omega)).2.2 hok
    have hdt := (cut_dg h (j := a) (by omega)).trans hd
    by_cases h48 : bt s (a : Int) = 48
    · have e : partsOf s a = point s (a + 1) := by
        unfold partsOf
        rw [if_pos hd, if_pos h48]
      have e' : partsOf t a = point t (a + 1) := by
        unfold partsOf
        rw [if_pos hdt, if_pos ((h.2 a (by omega)).trans h48)]
      rw [e] at hok hf
      rw [e, e']
      exact cut_point h (by omega) hok hf
    · have e : partsOf s a = point s (dEnd s (a + 1)) := by
        unfold partsOf
        rw [if_pos hd, if_neg h48]
      have e' : partsOf t a = point t (dEnd t (a + 1)) := by
        unfold partsOf
        rw [if_pos hdt, if_neg (by rw [h.2 a (by omega)]; exact h48)]
      rw [e] at hok hf
      have h3 := (point_fin s (dEnd s (a + 1)) (dEnd_le s (by omega))).2
      rw [e, e', cut_dEnd h (by omega)]
      exact cut_point h (dEnd_le s (by omega)) hok hf
  · have e : partsOf s a = ⟨false, a, a, a, a, a, false⟩ := by
      unfold partsOf
      rw [if_neg hd]
    rw [e] at hok
    cases hok
theorem cut_piece {a b : Nat} (hb : b ≤ t.size) : piece t a b = piece s a b := by
  apply List.ext_getElem?
  intro j
  unfold piece
  rw [List.getElem?_take, List.getElem?_take, List.getElem?_drop, List.getElem?_drop]
  split
  · have h1 : a + j < t.size := by omega
    have h2 : a + j < s.size := by have := h.1; omega
    rw [List.getElem?_eq_getElem (by exact h1), List.getElem?_eq_getElem (by exact h2)]
    have e1 := byte_bt t h1
    have e2 := byte_bt s h2
    rw [h.2 _ h1, ← e2, List.getD_eq_getElem?_getD, List.getD_eq_getElem?_getD, List.getElem?_eq_getElem (by exact h1), List.getElem?_eq_getElem (by exact h2)] at e1
    congr 1
    apply UInt8.toNat_inj.1
    simp only [Option.getD_some] at e1
    omega
  · rfl
theorem cut_read (hok : (partsOf s (startOf s 0)).ok = true) (hf : (partsOf s (startOf s 0)).fin = t.size) : readOf t 0 = readOf s 0 := by
  have hle := start_le s 0 (Nat.zero_le _)
  have hlf := (parts_fin s (startOf s 0) hle).2.2 hok
  have h0 : isAt t 0 45 45 = isAt s 0 45 45 := cut_isAt h (by omega) 45 45
  have hs : startOf t 0 = startOf s 0 := by
    unfold startOf
    rw [h0]
  have hp : partsOf t (startOf t 0) = partsOf s (startOf s 0) := by
    rw [hs]
    exact cut_parts h hok hf
  obtain ⟨b1, b2, b3, b4⟩ := parts_bounds s (startOf s 0) hok
  have hbb : (partsOf s (startOf s 0)).bb ≤ (partsOf s (startOf s 0)).fin ∧ (partsOf s (startOf s 0)).wb ≤ (partsOf s (startOf s 0)).fin := parts_inner s (startOf s 0) hok
  obtain ⟨n, hn⟩ : ∃ n, n = isAt s 0 45 45 := ⟨_, rfl⟩
  obtain ⟨l, hl⟩ : ∃ l, l = piece s (startOf s 0) (partsOf s (startOf s 0)).wb ++ piece s (partsOf s (startOf s 0)).ba (partsOf s (startOf s 0)).bb := ⟨_, rfl⟩
  obtain ⟨d, hd⟩ : ∃ d, d = (partsOf s (startOf s 0)).bb - (partsOf s (startOf s 0)).ba := ⟨_, rfl⟩
  obtain ⟨e, he⟩ : ∃ e, e = if (partsOf s (startOf s 0)).turned = true then -sat (piece s (partsOf s (startOf s 0)).ea (partsOf s (startOf s 0)).fin) 0 else sat (piece s (partsOf s (startOf s 0)).ea (partsOf s (startOf s 0)).fin) 0 := ⟨_, rfl⟩
  have h1 := readOf_yes (s := s) (i := 0) rfl hok hn hl hd he
  have h2 := readOf_yes (s := t) (i := 0) (n := n) (l := l) (d := d) (e := e) hp.symm hok (by rw [h0]; exact hn)
    (by rw [hl, hs, cut_piece h (by omega), cut_piece h (by omega)]) hd (by rw [he, cut_piece h (by omega)])
  rw [h1, h2]
end
end Go.Proofs.YtplokhniibdniaaDoor.Dec
