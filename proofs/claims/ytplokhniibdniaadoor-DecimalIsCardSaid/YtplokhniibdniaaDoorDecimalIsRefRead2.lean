/- The document's Read: the exponent's worth, the digits in their one form, and all of it together. -/
import Derived.Test.YtplokhniibdniaaDoorDecimalIsRefRead
namespace Go.Proofs.YtplokhniibdniaaDoor.PDecimalIs
open Go.RowKit Go.Proofs.YtplokhniibdniaaDoorW.PrintWords Go.Proofs.YtplokhniibdniaaDoorW.PrintLast Go.Proofs.YtplokhniibdniaaDoorW.PrintMore Go.Proofs.YtplokhniibdniaaDoor.Dec Go.Proofs.YtplokhniibdniaaDoor.Reader

def finB (neg : Bool) (m : Int) : Int := if neg = true then -capB m else capB m
theorem number_end (x : ByteArray) (neg : Bool) (n : Int) (h0 : 0 ≤ n) (h1 : n ≤ 10000000000000009) (i : Int) (hi : ¬ i < (x.size : Int)) (k : Nat) : quarryref11_number.l0 (k + 1) x 1000000000000000 neg n i = some (finB neg n) := by
  rw [quarryref11_number.l0, if_neg hi]
  unfold finB capB
  have w1 : wrap64 ((1000000000000000 : Int) + 1) = 1000000000000001 := by unfold wrap64; omega
  have w2 : wrap64 (-(1000000000000001 : Int)) = -1000000000000001 := by unfold wrap64; omega
  have w3 : wrap64 (-n) = -n := by unfold wrap64; omega
  rw [w1, w2, w3]
  by_cases h : n > 1000000000000000
  · rw [if_pos h, if_pos h]
    cases neg <;> rfl
  · rw [if_neg h, if_neg h]
    cases neg <;> rfl
theorem number_digits (x : ByteArray) (hx : x.size ≤ 1152921504606846976) (neg : Bool) (d : Nat) : ∀ (i k : Nat) (n : Int), i + d = x.size → d < k → (∀ j, i ≤ j → j < x.size → 48 ≤ bt x (j : Int) ∧ bt x (j : Int) ≤ 57) → 0 ≤ n → n ≤ 10000000000000009 →
    quarryref11_number.l0 k x 1000000000000000 neg n (i : Int) = some (finB neg (satB (piece x i x.size) n)) := by
  induction d with
  | zero =>
    intro i k n hi hk _ h0 h1
    obtain ⟨k, rfl⟩ : ∃ m, k = m + 1 := ⟨k - 1, by omega⟩
    rw [number_end x neg n h0 h1 _ (by omega), show i = x.size from by omega, piece_self]
    rfl
  | succ d ih =>
    intro i k n hi hk hd h0 h1
    obtain ⟨k, rfl⟩ : ∃ m, k = m + 1 := ⟨k - 1, by omega⟩
    obtain ⟨b1, b2⟩ := hd i (Nat.le_refl _) (by omega)
    have hc := byte_bt x (j := i) (by omega)
    rw [quarryref11_number.l0, if_pos (by omega), if_pos (by omega), if_neg (by omega), if_pos (by omega), if_pos (by omega), w_succ (by omega), piece_cons x (by omega) (Nat.le_refl _), satB, hc]
    by_cases hn : n ≤ 1000000000000000
    · have w1 : wrap64 (wrap64 (wrap64 (n * 10) + wrap64 (bt x (i : Int))) - 48) = n * 10 + (bt x (i : Int) - 48) := by
        unfold wrap64
        omega
      rw [if_pos hn, if_pos hn, w1]
      exact ih (i + 1) k _ (by omega) (by omega) (fun j h2 h3 => hd j (by omega) h3) (by omega) (by omega)
    · rw [if_neg hn, if_neg hn]
      exact ih (i + 1) k _ (by omega) (by omega) (fun j h2 h3 => hd j (by omega) h3) h0 h1
theorem text_digits {X : ByteArray} {sg D : List UInt8} (h : X.data.toList = sg ++ D) (hD : Digits D) : ∀ j, sg.length ≤ j → j < X.size → 48 ≤ bt X (j : Int) ∧ bt X (j : Int) ≤ 57 := by
  intro j h1 h2
  rw [← byte_bt X h2, h]
  have hl : (sg ++ D).length = X.size := by rw [← h]; rfl
  rw [List.length_append] at hl
  have : (sg ++ D).getD j 0 ∈ D := by
    rw [List.getD_eq_getElem?_getD, List.getElem?_append_right h1, List.getElem?_eq_getElem (by omega)]
    exact List.getElem_mem _
  exact hD _ this
theorem text_piece {X : ByteArray} {sg D : List UInt8} (h : X.data.toList = sg ++ D) : piece X sg.length X.size = D := by
  unfold piece
  have hl : (sg ++ D).length = X.size := by rw [← h]; rfl
  rw [List.length_append] at hl
  rw [h, List.drop_left, List.take_of_length_le (by omega)]
theorem text_first {X : ByteArray} {c : UInt8} {D : List UInt8} (h : X.data.toList = [c] ++ D) : 0 < X.size ∧ bt X 0 = (c.toNat : Int) := by
  have hl : ([c] ++ D).length = X.size := by rw [← h]; rfl
  rw [List.length_append, List.length_singleton] at hl
  have h0 : 0 < X.size := by omega
  refine ⟨h0, ?_⟩
  have := byte_bt X h0
  rw [h] at this
  exact this.symm
theorem number_is {s : ByteArray} {p : Parts} {X : ByteArray} (hE : ExpText s p X) (hX : X.size ≤ 1152921504606846976) (k : Nat) (hk : X.size + 1 < k) :
    quarryref11_number.f k X 1000000000000000 = some (if p.turned = true then -capB (satB (piece s p.ea p.fin) 0) else capB (satB (piece s p.ea p.fin) 0)) := by
  obtain ⟨sg, hX1, hs, hall⟩ := hE
  have hD := hall.digits
  have hd := text_digits hX1 hD
  have hp := text_piece hX1
  have hl : (sg ++ piece s p.ea p.fin).length = X.size := by rw [← hX1]; rfl
  rw [List.length_append] at hl
  unfold quarryref11_number.f
  rcases hs with ⟨ht, rfl⟩ | ⟨ht, rfl | rfl⟩
  · obtain ⟨h0, hb⟩ := text_first hX1
    obtain ⟨k, rfl⟩ : ∃ m, k = m + 1 := ⟨k - 1, by omega⟩
    have hb' : bt X 0 = 45 := hb
    rw [quarryref11_number.l0, if_pos (by omega), if_pos (by decide), if_pos hb', if_neg (by omega), show wrap64 ((0 : Int) + 1) = ((1 : Nat) : Int) from by unfold wrap64; omega,
      number_digits X hX true (X.size - 1) 1 k 0 (by omega) (by omega) hd (by decide) (by decide)]
    rw [show ([45] : List UInt8).length = 1 from rfl] at hp
    rw [hp, ht]
    rfl
  · have := number_digits X hX false X.size 0 k 0 (by omega) (by omega) hd (by decide) (by decide)
    rw [show ([] : List UInt8).length = 0 from rfl] at hp
    rw [hp] at this
    rw [ht]
    exact this
  · obtain ⟨h0, hb⟩ := text_first hX1
    obtain ⟨k, rfl⟩ : ∃ m, k = m + 1 := ⟨k - 1, by omega⟩
    have hb' : bt X 0 = 43 := hb
    rw [quarryref11_number.l0, if_pos (by omega), if_pos (by decide), if_neg (by omega), if_neg (by omega), show wrap64 ((0 : Int) + 1) = ((1 : Nat) : Int) from by unfold wrap64; omega,
      number_digits X hX false (X.size - 1) 1 k 0 (by omega) (by omega) hd (by decide) (by decide)]
    rw [show ([43] : List UInt8).length = 1 from rfl] at hp
    rw [hp, ht]
    rfl

/-! ### Make -/
/-- Where the noughts ahead end; where those behind begin. -/
def front (x : ByteArray) : Nat → Nat → Nat
  | 0, i => i
  | d + 1, i => if bt x (i : Int) = 48 then front x d (i + 1) else i
def back (x : ByteArray) (a : Nat) : Nat → Nat
  | 0 => a
  | d + 1 => if bt x ((a + d : Nat) : Int) = 48 then back x a d else a + d + 1
theorem front_spec (x : ByteArray) : ∀ d i, i + d = x.size → i ≤ front x d i ∧ front x d i ≤ x.size ∧ (∀ j, i ≤ j → j < front x d i → bt x (j : Int) = 48) ∧ (front x d i < x.size → bt x ((front x d i : Nat) : Int) ≠ 48)
  | 0, i, h => by
    unfold front
    exact ⟨Nat.le_refl _, by omega, fun j h1 h2 => by omega, fun h1 => by omega⟩
  | d + 1, i, h => by
    unfold front
    by_cases hb : bt x (i : Int) = 48
    · rw [if_pos hb]
      obtain ⟨h1, h2, h3, h4⟩ := front_spec x d (i + 1) (by omega)
      refine ⟨by omega, h2, fun j g1 g2 => ?_, h4⟩
      by_cases e : j = i
      · rw [e]; exact hb
      · exact h3 j (by omega) g2
    · rw [if_neg hb]
      exact ⟨Nat.le_refl _, by omega, fun j h1 h2 => by omega, fun _ => hb⟩
theorem back_spec (x : ByteArray) (a : Nat) : ∀ d, a ≤ back x a d ∧ back x a d ≤ a + d ∧ (∀ j, back x a d ≤ j → j < a + d → bt x (j : Int) = 48) ∧ (a < back x a d → bt x ((back x a d - 1 : Nat) : Int) ≠ 48)
  | 0 => by
    unfold back
    exact ⟨Nat.le_refl _, Nat.le_refl _, fun j h1 h2 => by omega, fun h1 => by omega⟩
  | d + 1 => by
    unfold back
    by_cases hb : bt x ((a + d : Nat) : Int) = 48
    · rw [if_pos hb]
      obtain ⟨h1, h2, h3, h4⟩ := back_spec x a d
      refine ⟨h1, by omega, fun j g1 g2 => ?_, h4⟩
      by_cases e : j = a + d
      · rw [e]; exact hb
      · exact h3 j g1 (by omega)
    · rw [if_neg hb]
      exact ⟨by omega, by omega, fun j h1 h2 => by omega, fun _ => by rw [Nat.add_sub_cancel]; exact hb⟩
theorem get_byte {x : ByteArray} {j : Nat} {b : UInt8} (h : x.data.toList[j]? = some b) : j < x.size ∧ bt x (j : Int) = (b.toNat : Int) := by
  obtain ⟨hj, hb⟩ := List.getElem?_eq_some_iff.1 h
  have hj' : j < x.size := hj
  refine ⟨hj', ?_⟩
  rw [← byte_bt x hj', List.getD_eq_getElem?_getD, h]
  rfl
theorem is48 (b : UInt8) : (b.toNat : Int) = 48 ↔ b = 48 := by
  rw [← UInt8.toNat_inj]
  show (b.toNat : Int) = 48 ↔ b.toNat = 48
  omega
theorem trimA_is (x : ByteArray) : (trimA x.data.toList).data.toList = x.data.toList.drop (front x x.size 0) := by
  obtain ⟨_, h2, h3, h4⟩ := front_spec x x.size 0 (by omega)
  show Lib.trimLeftB x.data.toList 48 = _
  refine Lib.trimLeftB_drop _ _ _ h2 ?_ ?_
  · intro j b hj hb
    obtain ⟨_, e⟩ := get_byte hb
    exact (is48 b).1 (by rw [← e]; exact h3 j (Nat.zero_le _) hj)
  · intro b hb hb48
    obtain ⟨g1, e⟩ := get_byte hb
    exact h4 g1 (by rw [e, hb48]; rfl)
theorem trimB_is (x : ByteArray) : (trimB x.data.toList).data.toList = (x.data.toList.drop (front x x.size 0)).take (back x (front x x.size 0) (x.size - front x x.size 0) - front x x.size 0) := by
  have hA := trimA_is x
  obtain ⟨_, h2, _, _⟩ := front_spec x x.size 0 (by omega)
  generalize front x x.size 0 = a at *
  obtain ⟨g1, g2, g3, g4⟩ := back_spec x a (x.size - a)
  generalize back x a (x.size - a) = b at *
  have hA' : Lib.trimLeftB x.data.toList 48 = x.data.toList.drop a := hA
  show Lib.trimRightB (Lib.trimLeftB x.data.toList 48) 48 = _
  rw [hA']
  refine Lib.trimRightB_take _ _ _ (by rw [List.length_drop]; show b - a ≤ x.size - a; omega) ?_ ?_
  · intro j c hj hc
    rw [List.getElem?_drop] at hc
    obtain ⟨k1, e⟩ := get_byte hc
    exact (is48 c).1 (by rw [← e]; exact g3 (a + j) (by omega) (by omega))
  · intro c h0 hc hc48
    rw [List.getElem?_drop] at hc
    obtain ⟨k1, e⟩ := get_byte hc
    refine g4 (by omega) ?_
    rw [show b - 1 = a + (b - a - 1) from by omega, e, hc48]
    rfl
theorem make_j3 (k : Nat) (neg : Bool) (x : ByteArray) (e : Int) (a b : Nat) (hab : a ≤ b) (hb : b ≤ x.size) :
    quarryref11_Make.j3 (k + 1) neg x e (a : Int) (b : Int) = some (if a = b then (neg, ⟨#[]⟩, 0, true) else if e > 1073741824 ∨ e < -1073741824 then (false, ⟨#[]⟩, 0, false) else (neg, x.extract a b, e, true)) := by
  rw [quarryref11_Make.j3]
  by_cases h : a = b
  · rw [if_pos (by omega), if_pos h]
  · rw [if_neg (by omega), if_neg h]
    by_cases h1 : e > 1073741824
    · rw [if_pos h1, if_pos (.inl h1)]
    · rw [if_neg h1]
      by_cases h2 : e < -1073741824
      · rw [if_pos h2, if_pos (.inr h2)]
      · rw [if_neg h2, if_pos (by omega), if_pos (by omega), if_pos (by omega), if_neg (by omega), Int.toNat_natCast, Int.toNat_natCast]
theorem make_l1 (neg : Bool) (x : ByteArray) (hx : x.size ≤ 1152921504606846976) (a : Nat) (d : Nat) : ∀ (k : Nat) (e : Int), a + d ≤ x.size → d + 1 < k → -2305843009213693952 + (d : Int) ≤ e → e + (d : Int) ≤ 2305843009213693952 →
    quarryref11_Make.l1 k neg x e (a : Int) ((a + d : Nat) : Int) = some (if a = back x a d then (neg, ⟨#[]⟩, 0, true) else if e + ((a + d - back x a d : Nat) : Int) > 1073741824 ∨ e + ((a + d - back x a d : Nat) : Int) < -1073741824 then (false, ⟨#[]⟩, 0, false) else (neg, x.extract a (back x a d), e + ((a + d - back x a d : Nat) : Int), true)) := by
  induction d with
  | zero =>
    intro k e hd hk _ _
    obtain ⟨k, rfl⟩ : ∃ m, k = m + 1 + 1 := ⟨k - 2, by omega⟩
    rw [quarryref11_Make.l1, if_neg (by omega), make_j3 k neg x e a (a + 0) (by omega) hd]
    rw [if_pos (by omega), if_pos (by unfold back; rfl)]
  | succ d ih =>
    intro k e hd hk h0 h1
    obtain ⟨k, rfl⟩ : ∃ m, k = m + 1 + 1 := ⟨k - 2, by omega⟩
    have w1 : wrap64 (((a + (d + 1) : Nat) : Int) - 1) = ((a + d : Nat) : Int) := by
      unfold wrap64
      omega
    rw [quarryref11_Make.l1, if_pos (by omega), w1, if_pos (by omega), if_pos (by omega)]
    by_cases hb : bt x ((a + d : Nat) : Int) = 48
    · have w2 : wrap64 (e + 1) = e + 1 := by
        unfold wrap64
        omega
      have hbk : back x a (d + 1) = back x a d := by
        rw [back, if_pos hb]
      have hle := (back_spec x a d).2.1
      have e1 : e + 1 + ((a + d - back x a d : Nat) : Int) = e + ((a + (d + 1) - back x a d : Nat) : Int) := by omega
      rw [if_pos hb, w2, ih (k + 1) (e + 1) (by omega) (by omega) (by omega) (by omega), hbk, e1]
    · have hbk : back x a (d + 1) = a + (d + 1) := by
        rw [back, if_neg hb]
        rfl
      rw [if_neg hb, make_j3 k neg x e a (a + (d + 1)) (by omega) hd, hbk, Nat.sub_self]
      simp
theorem make_l0 (neg : Bool) (x : ByteArray) (hx : x.size ≤ 1152921504606846976) (e : Int) (d : Nat) : ∀ (k a : Nat), a + d = x.size → x.size + d + 3 < k → -1152921504606846976 ≤ e → e ≤ 1152921504606846976 →
    quarryref11_Make.l0 k neg x e (a : Int) = some (if front x d a = back x (front x d a) (x.size - front x d a) then (neg, ⟨#[]⟩, 0, true) else if e + ((x.size - back x (front x d a) (x.size - front x d a) : Nat) : Int) > 1073741824 ∨ e + ((x.size - back x (front x d a) (x.size - front x d a) : Nat) : Int) < -1073741824 then (false, ⟨#[]⟩, 0, false)
      else (neg, x.extract (front x d a) (back x (front x d a) (x.size - front x d a)), e + ((x.size - back x (front x d a) (x.size - front x d a) : Nat) : Int), true)) := by
  induction d with
  | zero =>
    intro k a ha hk h0 h1
    obtain ⟨k, rfl⟩ : ∃ m, k = m + 1 + 1 := ⟨k - 2, by omega⟩
    rw [quarryref11_Make.l0, if_neg (by omega), quarryref11_Make.j1]
    have := make_l1 neg x hx a 0 k e (by omega) (by omega) (by omega) (by omega)
    have ea : a = x.size := by omega
    subst ea
    unfold front
    rw [Nat.sub_self]
    rw [Nat.add_zero] at this
    exact this
  | succ d ih =>
    intro k a ha hk h0 h1
    obtain ⟨k, rfl⟩ : ∃ m, k = m + 1 + 1 := ⟨k - 2, by omega⟩
    rw [quarryref11_Make.l0, if_pos (by omega), if_pos (by omega)]
    by_cases hb : bt x (a : Int) = 48
    · have hf : front x (d + 1) a = front x d (a + 1) := by
        rw [front, if_pos hb]
      rw [if_pos hb, w_succ (by omega), hf]
      exact ih (k + 1) (a + 1) (by omega) (by omega) h0 h1
    · have hf : front x (d + 1) a = a := by
        rw [front, if_neg hb]
      rw [if_neg hb, quarryref11_Make.j1, hf]
      have := make_l1 neg x hx a (x.size - a) k e (by omega) (by omega) (by omega) (by omega)
      rw [show a + (x.size - a) = x.size from by omega] at this
      exact this
theorem make_is (neg : Bool) (x : ByteArray) (hx : x.size ≤ 1152921504606846976) (e : Int) (h0 : -1152921504606846976 ≤ e) (h1 : e ≤ 1152921504606846976) (k : Nat) (hk : 2 * x.size + 3 < k) :
    quarryref11_Make.f k neg x e = some (numOf neg x.data.toList 0 e) := by
  unfold quarryref11_Make.f
  have h := make_l0 neg x hx e x.size k 0 (by omega) (by omega) h0 h1
  rw [show ((0 : Nat) : Int) = 0 from rfl] at h
  rw [h]
  have hA := trimA_is x
  have hB := trimB_is x
  obtain ⟨_, f2, _, _⟩ := front_spec x x.size 0 (by omega)
  generalize front x x.size 0 = a at *
  obtain ⟨g1, g2, _, _⟩ := back_spec x a (x.size - a)
  generalize back x a (x.size - a) = b at *
  have hxl : x.data.toList.length = x.size := rfl
  have hAs : (trimA x.data.toList).size = x.size - a := by
    show (trimA x.data.toList).data.toList.length = _
    rw [hA, List.length_drop, hxl]
  have hBs : (trimB x.data.toList).size = b - a := by
    show (trimB x.data.toList).data.toList.length = _
    rw [hB, List.length_take, List.length_drop, hxl]
    omega
  have hXe : x.extract a b = trimB x.data.toList := by
    apply ByteArray.ext
    apply Array.toList_inj.1
    rw [Lib.extract_data, hB]
  have hE : expOf x.data.toList 0 e = e + ((x.size - b : Nat) : Int) := by
    unfold expOf
    rw [hAs, hBs]
    omega
  congr 1
  unfold numOf
  rw [hE, hXe]
  by_cases hz : a = b
  · have h' : (trimB x.data.toList).data.toList = [] := by
      apply List.eq_nil_of_length_eq_zero
      show (trimB x.data.toList).size = 0
      omega
    rw [if_pos hz, if_pos h']
  · have h' : ¬ (trimB x.data.toList).data.toList = [] := by
      intro h'
      have : (trimB x.data.toList).size = 0 := by
        show (trimB x.data.toList).data.toList.length = 0
        rw [h']
        rfl
      omega
    rw [if_neg hz, if_neg h']

/-! ### Read -/
theorem ref_read_out (s : ByteArray) (i : Int) (k : Nat) (h : i < 0 ∨ i > (s.size : Int)) : quarryref11_Read.f (k + 1) s i = some (false, ⟨#[]⟩, 0, 0, 2) := by
  unfold quarryref11_Read.f
  by_cases h0 : i < 0
  · rw [if_pos h0, quarryref11_Read.j0, if_pos rfl]
  · rw [if_neg h0, decide_eq_true (by omega), quarryref11_Read.j0, if_pos rfl]
theorem ref_read_in (s : ByteArray) (i : Nat) (hi : i ≤ s.size) (hs : s.size ≤ 140737488355328) (k : Nat) (hk : 3 * s.size + 20 < k) : quarryref11_Read.f k s (i : Int) = some (readOf s i) := by
  obtain ⟨k, rfl⟩ : ∃ m, k = m + 1 := ⟨k - 1, by omega⟩
  unfold quarryref11_Read.f
  rw [if_neg (by omega), decide_eq_false (by omega), quarryref11_Read.j0, if_neg (by decide)]
  obtain ⟨W, B, X, hsc, hok⟩ := scan_is s (by omega) k i hi (by omega)
  rw [hsc, Option.bind_some]
  by_cases ho : (partsOf s (startOf s i)).ok = true
  · obtain ⟨hW, hB, hX⟩ := hok ho
    have hlen := pieces_len s i (by omega) ho
    have hall : AllDg s (partsOf s (startOf s i)).ea (partsOf s (startOf s i)).fin := by
      obtain ⟨_, _, _, h⟩ := hX
      exact h
    have hXs : X.size ≤ 140737488355330 := by
      obtain ⟨sg, h1, h2, _⟩ := hX
      show X.data.toList.length ≤ _
      have e1 := piece_len_le s (partsOf s (startOf s i)).ea (partsOf s (startOf s i)).fin
      have e2 : (piece s (partsOf s (startOf s i)).ea (partsOf s (startOf s i)).fin).length ≤ s.size := by
        unfold piece
        rw [List.length_take, List.length_drop]
        have : s.data.toList.length = s.size := rfl
        omega
      rw [h1, List.length_append]
      have e3 : sg.length ≤ 1 := by
        rcases h2 with ⟨_, rfl⟩ | ⟨_, rfl | rfl⟩ <;> simp
      omega
    have hXk : X.size + 1 < k := by
      obtain ⟨sg, h1, h2, _⟩ := hX
      have e2 : (piece s (partsOf s (startOf s i)).ea (partsOf s (startOf s i)).fin).length ≤ s.size := by
        unfold piece
        rw [List.length_take, List.length_drop]
        have : s.data.toList.length = s.size := rfl
        omega
      have e3 : sg.length ≤ 1 := by
        rcases h2 with ⟨_, rfl⟩ | ⟨_, rfl | rfl⟩ <;> simp
      have e4 : X.size = sg.length + (piece s (partsOf s (startOf s i)).ea (partsOf s (startOf s i)).fin).length := by
        show X.data.toList.length = _
        rw [h1, List.length_append]
      omega
    have hnum := number_is hX (by omega) k hXk
    have hwl : W.size + B.size = (piece s (startOf s i) (partsOf s (startOf s i)).wb ++ piece s (partsOf s (startOf s i)).ba (partsOf s (startOf s i)).bb).length := by
      rw [List.length_append, ← hW, ← hB]
      rfl
    have hbs : B.size = (partsOf s (startOf s i)).bb - (partsOf s (startOf s i)).ba := by
      show B.data.toList.length = _
      rw [hB, piece_length s (parts_bounds s _ ho).2.2.1]
    have hws : W.size + B.size ≤ s.size := by
      have e1 := piece_len_le s (startOf s i) (partsOf s (startOf s i)).wb
      have e2 := piece_len_le s (partsOf s (startOf s i)).ba (partsOf s (startOf s i)).bb
      obtain ⟨b1, b2, b3, b4⟩ := parts_bounds s _ ho
      rw [hwl, List.length_append]
      omega
    have hcat : (W ++ B).data.toList = piece s (startOf s i) (partsOf s (startOf s i)).wb ++ piece s (partsOf s (startOf s i)).ba (partsOf s (startOf s i)).bb := by
      rw [← hW, ← hB]
      simp
    have hcs : (W ++ B).size = W.size + B.size := by
      show (W ++ B).data.toList.length = W.data.toList.length + B.data.toList.length
      rw [hcat, hW, hB, List.length_append]
    have hr := satB_range (piece s (partsOf s (startOf s i)).ea (partsOf s (startOf s i)).fin) 0 hall.digits (by decide) (by decide)
    have hcap : 0 ≤ capB (satB (piece s (partsOf s (startOf s i)).ea (partsOf s (startOf s i)).fin) 0) ∧ capB (satB (piece s (partsOf s (startOf s i)).ea (partsOf s (startOf s i)).fin) 0) ≤ 1000000000000001 := by
      unfold capB
      split <;> omega
    have hyes := readOf_yes (s := s) (i := i) rfl ho rfl rfl rfl rfl
    simp only
    rw [ho, if_pos rfl, hnum, Option.bind_some, if_pos (by omega)]
    have hwr : ∀ E : Int, -1000000000000001 ≤ E → E ≤ 1000000000000001 → wrap64 (E - (B.size : Int)) = E - (B.size : Int) := by
      intro E h1 h2
      unfold wrap64
      omega
    have hE : -1000000000000001 ≤ (if (partsOf s (startOf s i)).turned = true then -capB (satB (piece s (partsOf s (startOf s i)).ea (partsOf s (startOf s i)).fin) 0) else capB (satB (piece s (partsOf s (startOf s i)).ea (partsOf s (startOf s i)).fin) 0)) ∧ (if (partsOf s (startOf s i)).turned = true then -capB (satB (piece s (partsOf s (startOf s i)).ea (partsOf s (startOf s i)).fin) 0) else capB (satB (piece s (partsOf s (startOf s i)).ea (partsOf s (startOf s i)).fin) 0)) ≤ 1000000000000001 := by
      split <;> omega
    rw [hwr _ hE.1 hE.2, make_is _ (W ++ B) (by omega) _ (by omega) (by omega) k (by omega), Option.bind_some, hcat, num_shift, hbs, num_sign _ _ _ _ _ hlen.1 hlen.2 hall.digits, hyes]
    exact (apply_ite some _ _ _).symm
  · have ho' : (partsOf s (startOf s i)).ok = false := by simpa using ho
    have hno := readOf_no (s := s) (i := i) rfl ho'
    simp only
    rw [ho', if_neg (by decide), hno]
theorem ref_read_is (s : ByteArray) (i : Int) (hs : s.size ≤ 140737488355328) (k : Nat) (hk : 3 * s.size + 20 < k) : quarryref11_Read.f k s i = decimal_Read.f s i := by
  unfold decimal_Read.f
  by_cases h : i < 0 ∨ i > (s.size : Int)
  · obtain ⟨k, rfl⟩ : ∃ m, k = m + 1 := ⟨k - 1, by omega⟩
    rw [if_pos h, ref_read_out s i k h]
  · obtain ⟨n, rfl⟩ := Int.eq_ofNat_of_zero_le (show 0 ≤ i by omega)
    rw [if_neg h, if_pos ⟨by omega, by omega⟩]
    rw [ref_read_in s n (by omega) hs k hk]
    rfl
theorem read_some (s : ByteArray) (i : Int) (hs : s.size ≤ 140737488355328) : ∃ r, decimal_Read.f s i = some r := by
  unfold decimal_Read.f
  by_cases h : i < 0 ∨ i > (s.size : Int)
  · rw [if_pos h]
    exact ⟨_, rfl⟩
  · rw [if_neg h, if_pos ⟨by omega, by omega⟩]
    exact ⟨_, rfl⟩
end Go.Proofs.YtplokhniibdniaaDoor.PDecimalIs
