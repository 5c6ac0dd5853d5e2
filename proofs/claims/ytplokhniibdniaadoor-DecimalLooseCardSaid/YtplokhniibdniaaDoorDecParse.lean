/- A text that is put together as a number reads as that number. Plain Lean. -/
import Derived.Test.YtplokhniibdniaaDoorNumFm
import Derived.Test.YtplokhniibdniaaDoorDecShift
namespace Go.Proofs.YtplokhniibdniaaDoor.Dec
open Go.RowKit Go.Proofs.YtplokhniibdniaaDoorW.PrintWords Go.Proofs.YtplokhniibdniaaDoorW.PrintLast Go.Proofs.YtplokhniibdniaaDoorW.PrintMore Go.Proofs.YtplokhniibdniaaDoor.Reader

/-- What stands from a place on. -/
def At (s : ByteArray) (i : Nat) (l : List UInt8) : Prop := i ≤ s.size ∧ s.data.toList.drop i = l
theorem At.cons {s : ByteArray} {i : Nat} {c : UInt8} {r : List UInt8} (h : At s i (c :: r)) : i < s.size ∧ bt s (i : Int) = (c.toNat : Int) ∧ At s (i + 1) r := by
  obtain ⟨h1, h2⟩ := h
  have hl : (s.data.toList.drop i).length = s.size - i := List.length_drop
  rw [h2, List.length_cons] at hl
  have hi : i < s.size := by omega
  have hc : s.data.toList.getD i 0 = c := by
    have := congrArg (fun l : List UInt8 => l[0]?) h2
    simp only [List.getElem?_drop, Nat.add_zero, List.getElem?_cons_zero] at this
    rw [List.getD_eq_getElem?_getD, this]
    rfl
  refine ⟨hi, by rw [← byte_bt s hi, hc], by omega, ?_⟩
  rw [← List.drop_drop, h2]
  rfl
theorem At.nil {s : ByteArray} {i : Nat} (h : At s i []) : i = s.size := by
  obtain ⟨h1, h2⟩ := h
  have hl : (s.data.toList.drop i).length = s.size - i := List.length_drop
  rw [h2, List.length_nil] at hl
  omega
theorem At.app {s : ByteArray} {i : Nat} {D r : List UInt8} (h : At s i (D ++ r)) : At s (i + D.length) r ∧ piece s i (i + D.length) = D := by
  obtain ⟨h1, h2⟩ := h
  have hl : (s.data.toList.drop i).length = s.size - i := List.length_drop
  rw [h2, List.length_append] at hl
  refine ⟨⟨by omega, ?_⟩, ?_⟩
  · rw [← List.drop_drop, h2, List.drop_left]
  · unfold piece
    rw [h2, Nat.add_sub_cancel_left, List.take_left]
/-- Does no digit stand at the head? -/
def Stops (r : List UInt8) : Prop := r = [] ∨ ∃ c q, r = c :: q ∧ isDig (c.toNat : Int) = false
theorem dg_at {s : ByteArray} {i : Nat} {c : UInt8} {r : List UInt8} (h : At s i (c :: r)) : dg s i = isDig (c.toNat : Int) := by
  obtain ⟨h1, h2, _⟩ := h.cons
  unfold dg
  rw [h2, decide_eq_true h1]
  rfl
theorem isAt_at {s : ByteArray} {i : Nat} {c : UInt8} {r : List UInt8} (h : At s i (c :: r)) (x y : Int) : isAt s i x y = (decide ((c.toNat : Int) = x) || decide ((c.toNat : Int) = y)) := by
  obtain ⟨h1, h2, _⟩ := h.cons
  unfold isAt
  rw [h2, decide_eq_true h1]
  rfl
theorem isAt_end {s : ByteArray} {i : Nat} (h : At s i []) (x y : Int) : isAt s i x y = false := out_isAt (t := s) (by have := h.nil; omega) x y
theorem digit_is {D : List UInt8} (h : Digits D) {c : UInt8} (hc : c ∈ D) : isDig (c.toNat : Int) = true := by
  have := h c hc
  unfold isDig
  rw [decide_eq_true this.1, decide_eq_true this.2]
  rfl
theorem dEnd_at {s : ByteArray} : ∀ {D : List UInt8} {i : Nat} {r : List UInt8}, At s i (D ++ r) → Digits D → Stops r → dEnd s i = i + D.length
  | [], i, r, h, _, hr => by
    rcases hr with rfl | ⟨c, q, rfl, hc⟩
    · exact dEnd_stop (out_dg (t := s) (by have := h.nil; omega))
    · exact dEnd_stop ((dg_at h).trans hc)
  | c :: D, i, r, h, hD, hr => by
    have h1 : dg s i = true := (dg_at h).trans (digit_is hD (List.mem_cons_self))
    rw [dEnd_step h1, dEnd_at (i := i + 1) (D := D) h.cons.2.2 (fun x hx => hD x (List.mem_cons_of_mem _ hx)) hr, List.length_cons]
    omega
/-- The exponent's part of a text, its digits, and is it turned? -/
def ExpForm (X E : List UInt8) (tu : Bool) : Prop :=
  (X = [] ∧ E = [] ∧ tu = false) ∨ (∃ c sx, (c = 101 ∨ c = 69) ∧ X = c :: (sx ++ E) ∧ ((sx = [] ∧ tu = false) ∨ (sx = [43] ∧ tu = false) ∨ (sx = [45] ∧ tu = true)) ∧ E ≠ [] ∧ Digits E)
theorem ExpForm.stops {X E : List UInt8} {tu : Bool} (h : ExpForm X E tu) : Stops X := by
  rcases h with ⟨rfl, _⟩ | ⟨c, sx, hc, rfl, _⟩
  · exact .inl rfl
  · refine .inr ⟨c, _, rfl, ?_⟩
    rcases hc with rfl | rfl <;> decide
theorem expo_at {s : ByteArray} {bb : Nat} {X E : List UInt8} {tu : Bool} (hat : At s bb X) (h : ExpForm X E tu) (wb ba : Nat) : ∃ ea, expo s wb ba bb = ⟨true, s.size, wb, ba, bb, ea, tu⟩ ∧ piece s ea s.size = E := by
  rcases h with ⟨rfl, rfl, rfl⟩ | ⟨c, sx, hc, rfl, hsx, hE0, hE⟩
  · have hb := hat.nil
    refine ⟨bb, ?_, by rw [hb, piece_self]⟩
    rw [expo_none (isAt_end hat 101 69), ← hb]
  · have he : isAt s bb 101 69 = true := by
      rw [isAt_at hat]
      rcases hc with rfl | rfl <;> rfl
    have h1 := hat.cons.2.2
    have fin : ∀ ea, At s ea (E ++ []) → Ea s bb ea tu → ∃ ea', expo s wb ba bb = ⟨true, s.size, wb, ba, bb, ea', tu⟩ ∧ piece s ea' s.size = E := by
      intro ea hea hEa
      have h2 := dEnd_at hea hE (.inl rfl)
      obtain ⟨h3, h4⟩ := hea.app
      have h5 := h3.nil
      have hd : dg s ea = true := by
        cases E with
        | nil => exact absurd rfl hE0
        | cons d E => exact (dg_at hea).trans (digit_is hE (List.mem_cons_self))
      refine ⟨ea, ?_, by rw [← h5]; exact h4⟩
      rw [expo_to he hEa hd, ← dEnd_step hd, h2, h5]
    rcases hsx with ⟨rfl, rfl⟩ | ⟨rfl, rfl⟩ | ⟨rfl, rfl⟩
    · refine fin (bb + 1) (by rw [List.append_nil]; exact h1) (ea_none ?_)
      cases E with
      | nil => exact absurd rfl hE0
      | cons d E =>
        have hd := hE d (List.mem_cons_self)
        have h1' : At s (bb + 1) (d :: E) := h1
        rw [isAt_at h1', decide_eq_false (by omega), decide_eq_false (by omega)]
        rfl
    · have h1' : At s (bb + 1) (43 :: E) := h1
      refine fin (bb + 2) (by rw [List.append_nil]; exact h1'.cons.2.2) (ea_plus (by rw [isAt_at h1']; rfl) ?_)
      rw [h1'.cons.2.1]
      decide
    · have h1' : At s (bb + 1) (45 :: E) := h1
      exact fin (bb + 2) (by rw [List.append_nil]; exact h1'.cons.2.2) (ea_minus (by rw [isAt_at h1']; rfl) (by rw [h1'.cons.2.1]; rfl))
/-- What stands behind the point. -/
def FracForm (F B : List UInt8) : Prop := (F = [] ∧ B = []) ∨ (F = 46 :: B ∧ B ≠ [] ∧ Digits B)
theorem frac_stops {F B X E : List UInt8} {tu : Bool} (hF : FracForm F B) (hX : ExpForm X E tu) : Stops (F ++ X) := by
  rcases hF with ⟨rfl, _⟩ | ⟨rfl, _⟩
  · exact hX.stops
  · exact .inr ⟨46, B ++ X, rfl, by decide⟩
theorem point_at {s : ByteArray} {wb : Nat} {F B X E : List UInt8} {tu : Bool} (hat : At s wb (F ++ X)) (hF : FracForm F B) (hX : ExpForm X E tu) :
    ∃ ba ea, point s wb = ⟨true, s.size, wb, ba, ba + B.length, ea, tu⟩ ∧ piece s ba (ba + B.length) = B ∧ piece s ea s.size = E := by
  rcases hF with ⟨rfl, rfl⟩ | ⟨rfl, hB0, hB⟩
  · have hat' : At s wb X := hat
    have hp : isAt s wb 46 46 = false := by
      rcases hX.stops with rfl | ⟨c, q, rfl, hc⟩
      · exact isAt_end hat' 46 46
      · rw [isAt_at hat']
        rcases hX with ⟨h, _⟩ | ⟨c', sx, hc', h, _⟩
        · cases h
        · cases h
          rcases hc' with rfl | rfl <;> rfl
    obtain ⟨ea, h1, h2⟩ := expo_at hat' hX wb wb
    refine ⟨wb, ea, ?_, piece_self s wb, h2⟩
    unfold point
    rw [if_neg (by rw [hp]; decide)]
    exact h1
  · have hat' : At s wb (46 :: (B ++ X)) := hat
    have h1 := hat'.cons.2.2
    have hp : isAt s wb 46 46 = true := by rw [isAt_at hat']; rfl
    have hd : dg s (wb + 1) = true := by
      cases B with
      | nil => exact absurd rfl hB0
      | cons d B => exact (dg_at h1).trans (digit_is hB (List.mem_cons_self))
    have he := dEnd_at h1 hB hX.stops
    obtain ⟨h3, h4⟩ := h1.app
    obtain ⟨ea, h5, h6⟩ := expo_at h3 hX wb (wb + 1)
    refine ⟨wb + 1, ea, ?_, h4, h6⟩
    unfold point
    rw [if_pos hp, if_pos hd, show wb + 2 = wb + 1 + 1 from rfl, ← dEnd_step hd, he]
    exact h5
theorem parts_at {s : ByteArray} {a : Nat} {W F B X E : List UInt8} {tu : Bool} (hat : At s a (W ++ (F ++ X))) (hW : Digits W) (hW0 : W ≠ []) (hWn : W = [48] ∨ W.head? ≠ some 48) (hF : FracForm F B) (hX : ExpForm X E tu) :
    ∃ ba ea, partsOf s a = ⟨true, s.size, a + W.length, ba, ba + B.length, ea, tu⟩ ∧ piece s a (a + W.length) = W ∧ piece s ba (ba + B.length) = B ∧ piece s ea s.size = E := by
  obtain ⟨h1, h2⟩ := hat.app
  obtain ⟨ba, ea, h3, h4, h5⟩ := point_at h1 hF hX
  have hst := frac_stops hF hX
  have he := dEnd_at hat hW hst
  refine ⟨ba, ea, ?_, h2, h4, h5⟩
  cases W with
  | nil => exact absurd rfl hW0
  | cons w W =>
    have hat' : At s a (w :: (W ++ (F ++ X))) := hat
    have hd : dg s a = true := (dg_at hat').trans (digit_is hW (List.mem_cons_self))
    unfold partsOf
    rw [if_pos hd, hat'.cons.2.1]
    by_cases h48 : w = 48
    · have hW1 : W = [] := by
        rcases hWn with h | h
        · exact (List.cons.inj h).2
        · exact absurd (by rw [h48]; rfl) h
      subst hW1
      rw [if_pos (by rw [h48]; rfl)]
      exact h3
    · rw [if_neg (fun h => h48 (UInt8.toNat_inj.1 (by show w.toNat = 48; omega))), ← dEnd_step hd, he]
      exact h3
/-- THE TEXT OF A NUMBER READS AS IT. -/
theorem parse_text {s : ByteArray} {neg : Bool} {W F B X E : List UInt8} {tu : Bool} (hs : s.data.toList = (if neg = true then [45] else []) ++ (W ++ (F ++ X))) (hW : Digits W) (hW0 : W ≠ []) (hWn : W = [48] ∨ W.head? ≠ some 48) (hF : FracForm F B) (hX : ExpForm X E tu) :
    readOf s 0 = if (numOf neg (W ++ B) B.length (if tu = true then -sat E 0 else sat E 0)).2.2.2 = true
      then ((numOf neg (W ++ B) B.length (if tu = true then -sat E 0 else sat E 0)).1, (numOf neg (W ++ B) B.length (if tu = true then -sat E 0 else sat E 0)).2.1, (numOf neg (W ++ B) B.length (if tu = true then -sat E 0 else sat E 0)).2.2.1, (s.size : Int), 0)
      else (false, ⟨#[]⟩, 0, (s.size : Int), 111) := by
  have hat0 : At s 0 ((if neg = true then [45] else []) ++ (W ++ (F ++ X))) := ⟨Nat.zero_le _, hs⟩
  obtain ⟨hn, ha⟩ : isAt s 0 45 45 = neg ∧ At s (startOf s 0) (W ++ (F ++ X)) := by
    cases neg
    · have hat1 : At s 0 (W ++ (F ++ X)) := hat0
      have h0 : isAt s 0 45 45 = false := by
        cases W with
        | nil => exact absurd rfl hW0
        | cons w W =>
          have hw := hW w (List.mem_cons_self)
          have hat2 : At s 0 (w :: (W ++ (F ++ X))) := hat1
          rw [isAt_at hat2, decide_eq_false (by omega)]
          rfl
      refine ⟨h0, ?_⟩
      unfold startOf
      rw [if_neg (by rw [h0]; decide)]
      exact hat1
    · have hat1 : At s 0 (45 :: (W ++ (F ++ X))) := hat0
      have h0 : isAt s 0 45 45 = true := by rw [isAt_at hat1]; rfl
      refine ⟨h0, ?_⟩
      unfold startOf
      rw [if_pos h0]
      exact hat1.cons.2.2
  obtain ⟨ba, ea, hp, hw, hb, he⟩ := parts_at ha hW hW0 hWn hF hX
  have h := readOf_yes (s := s) (i := 0) (p := ⟨true, s.size, startOf s 0 + W.length, ba, ba + B.length, ea, tu⟩) (n := neg) (l := W ++ B) (d := B.length) (e := if tu = true then -sat E 0 else sat E 0) hp.symm rfl hn.symm
    (by show _ = piece s _ (startOf s 0 + W.length) ++ piece s ba (ba + B.length); rw [hw, hb]) (by show _ = ba + B.length - ba; omega) (by show _ = if tu = true then -sat (piece s ea s.size) 0 else sat (piece s ea s.size) 0; rw [he])
  exact h
end Go.Proofs.YtplokhniibdniaaDoor.Dec
