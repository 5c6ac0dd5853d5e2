/- decimal's reader goes through a number: what it has read, and where it stands. -/
import Derived.Test.YtkjmbibnfohkjaaDoorReaderTake
import Derived.Test.YtkjmbibnfohkjaaDoorJumpsN
namespace Go.Proofs.YtkjmbibnfohkjaaDoor.Reader
open Go.RowKit Go.Proofs.YtkjmbibnfohkjaaDoorW.PrintWords Go.Proofs.YtkjmbibnfohkjaaDoorW.PrintLast Go.Proofs.YtkjmbibnfohkjaaDoorW.PrintMore Go.Proofs.YtkjmbibnfohkjaaDoor.Dec
set_option linter.unusedVariables false

/-- Bytes as numbers. -/
def ib (l : List UInt8) : List Int := l.map (fun c => (c.toNat : Int))
theorem ib_snoc (l : List UInt8) (c : UInt8) : ib (l ++ [c]) = ib l ++ [(c.toNat : Int)] := by simp [ib]
theorem ib_length (l : List UInt8) : (ib l).length = l.length := by simp [ib]
theorem byte_bt (s : ByteArray) {j : Nat} (hj : j < s.size) : ((s.data.toList.getD j 0).toNat : Int) = bt s (j : Int) := by
  rw [← bt_nat s j hj, List.getD_eq_getElem?_getD, List.getElem?_eq_getElem (by exact hj)]
  rfl
theorem ib_piece (s : ByteArray) {a j : Nat} (h : a ≤ j) (hj : j < s.size) : ib (piece s a (j + 1)) = ib (piece s a j) ++ [bt s (j : Int)] := by
  rw [piece_snoc s h hj, ib_snoc, byte_bt s hj]
theorem piece_len_le (s : ByteArray) (a b : Nat) : (piece s a b).length ≤ b - a := by
  unfold piece
  rw [List.length_take]
  omega
theorem sat_piece (s : ByteArray) {a j : Nat} (h : a ≤ j) (hj : j < s.size) (x : Int) : sat (piece s a (j + 1)) x = if sat (piece s a j) x < 1125899906842624 then 10 * sat (piece s a j) x + (bt s (j : Int) - 48) else sat (piece s a j) x := by
  rw [piece_snoc s h hj, sat_snoc, byte_bt s hj]
def Digits (l : List UInt8) : Prop := ∀ c ∈ l, 48 ≤ (c.toNat : Int) ∧ (c.toNat : Int) ≤ 57
theorem sat_range : ∀ (l : List UInt8) (x : Int), Digits l → 0 ≤ x → x ≤ 11258999068426249 → 0 ≤ sat l x ∧ sat l x ≤ 11258999068426249
  | [], x, _, h0, h1 => ⟨h0, h1⟩
  | c :: l, x, hl, h0, h1 => by
    have hc := hl c (List.mem_cons_self)
    unfold sat
    split
    · exact sat_range l _ (fun y hy => hl y (List.mem_cons_of_mem _ hy)) (by omega) (by omega)
    · exact sat_range l _ (fun y hy => hl y (List.mem_cons_of_mem _ hy)) h0 h1
/-- All that stands between two places is digits. -/
def AllDg (s : ByteArray) (a b : Nat) : Prop := ∀ j, a ≤ j → j < b → dg s j = true
theorem AllDg.digits {s : ByteArray} {a b : Nat} (h : AllDg s a b) : Digits (piece s a b) := by
  intro c hc
  obtain ⟨k, hk, rfl⟩ := List.mem_iff_getElem.1 hc
  have hk' := piece_len_le s a b
  have hd := h (a + k) (by omega) (by omega)
  have hlt := dg_lt hd
  have e : (piece s a b)[k] = s.data.toList.getD (a + k) 0 := by
    apply Option.some.inj
    rw [← List.getElem?_eq_getElem hk]
    unfold piece
    rw [List.getElem?_take, if_pos (by omega), List.getElem?_drop, List.getD_eq_getElem?_getD, List.getElem?_eq_getElem (by exact hlt)]
    rfl
  rw [e, byte_bt s hlt]
  exact dg_dig hd
theorem AllDg.snoc {s : ByteArray} {a b : Nat} (h : AllDg s a b) (hb : dg s b = true) : AllDg s a (b + 1) := by
  intro j h1 h2
  by_cases e : j = b
  · rw [e]; exact hb
  · exact h j h1 (by omega)
theorem AllDg.nil (s : ByteArray) (a : Nat) : AllDg s a a := fun j h1 h2 => by omega

theorem info5 : (Tryd.prog.info? 5).map (fun i => (i.zero, i.size, i.bytes)) = some (some (.int .u8 0), 1, 1) := by kernel_rfl

theorem own_any {w : World} {base n : Nat} {e : TypeId} {size : Nat} {v : Value} {xs : List Value} (h : w.ownsRow base e size v n xs) : ∃ A m c, v = .slice A m c := by
  obtain ⟨A, c, h⟩ := own_slice h
  exact ⟨A, n, c, h⟩
/-- The reader, what it has collected, and what was there before. -/
structure St (W0 : World) (b : Nat) (s : ByteArray) (i : Nat) (neg : Bool) (l : List UInt8) (d : Nat) (e : Int) (v : Value) (w : World) : Prop where
  rb : RB w b s (i : Int) neg v (d : Int) e
  own : w.ownsRow W0.heap.size 5 1 v (ib l).length (nums .u8 (ib l))
  below : Below W0.heap.size W0 w
  ge : W0.heap.size ≤ b
theorem St.ne {W0 w : World} {b : Nat} {s : ByteArray} {i : Nat} {neg : Bool} {l : List UInt8} {d : Nat} {e : Int} {v : Value} (h : St W0 b s i neg l d e v w) : some b ≠ v.ownBlock := own_ne h.own h.rb (by decide)
/-- A method that may write the reader alone. -/
theorem St.only {W0 w w' : World} {b : Nat} {s : ByteArray} {i i' : Nat} {neg neg' : Bool} {l : List UInt8} {d d' : Nat} {e e' : Int} {v : Value} (h : St W0 b s i neg l d e v w) (hO : Only b w w') (hR : RB w' b s (i' : Int) neg' v (d' : Int) e') : St W0 b s i' neg' l d' e' v w' :=
  ⟨hR, hO.keep.own h.own (fun e => h.ne e.symm) (by cases v.ownBlock <;> simp), h.below.trans (hO.below.mono h.ge), h.ge⟩
theorem St.set1 {W0 w : World} {b : Nat} {s : ByteArray} {i : Nat} {neg : Bool} {l : List UInt8} {d : Nat} {e : Int} {v : Value} (h : St W0 b s i neg l d e v w) (x : Bool) : St W0 b s i x l d e v (w.setCell ⟨b, 2, none⟩ (.bool x)) :=
  h.only ((Only.refl b w).set 2 _) (h.rb.set2 x)
theorem St.set4 {W0 w : World} {b : Nat} {s : ByteArray} {i : Nat} {neg : Bool} {l : List UInt8} {d : Nat} {e : Int} {v : Value} (h : St W0 b s i neg l d e v w) (x : Nat) : St W0 b s i neg l x e v (w.setCell ⟨b, 4, none⟩ (.int .i64 (x : Int))) :=
  h.only ((Only.refl b w).set 4 _) (h.rb.set4 x)
theorem St.set5 {W0 w : World} {b : Nat} {s : ByteArray} {i : Nat} {neg : Bool} {l : List UInt8} {d : Nat} {e : Int} {v : Value} (h : St W0 b s i neg l d e v w) (x : Int) : St W0 b s i neg l d x v (w.setCell ⟨b, 5, none⟩ (.int .i64 x)) :=
  h.only ((Only.refl b w).set 5 _) (h.rb.set5 x)
/-- One byte more has been collected, and is to be stored. -/
theorem St.more {W0 w w1 : World} {b : Nat} {s : ByteArray} {i : Nat} {neg : Bool} {l l' : List UInt8} {d : Nat} {e : Int} {v v1 : Value} (h : St W0 b s i neg l d e v w) {y : Int} (hy : ib l' = ib l ++ [y])
    (ho : w1.ownsRow W0.heap.size 5 1 v1 (ib l ++ [y]).length (nums .u8 (ib l ++ [y]))) (hb : Below W0.heap.size W0 w1) (hg : w.grownBy w1 v.ownBlock) : RB w1 b s (i : Int) neg v (d : Int) e ∧ St W0 b s i neg l' d e v1 (w1.setCell ⟨b, 3, none⟩ v1) := by
  have hR : RB w1 b s (i : Int) neg v (d : Int) e := blk_grown h.rb hg h.ne
  refine ⟨hR, hR.set3 v1, ?_, hb.setCell h.ge _, h.ge⟩
  rw [hy]
  exact own_setCell (p := ⟨b, 3, none⟩) ho (own_ne ho hR (by decide)) _

/-- The frame, as far as the labels ask. -/
def Frm (b : Nat) (x t : Value) (a : Act) : Prop := a.defers = [] ∧ a.tmps.size = 139 ∧ a.tmps[0]? = some (.pointer (some ⟨b, 0, none⟩)) ∧ a.tmps[3]? = some x ∧ a.tmps[5]? = some t
theorem list_as (l : List Value) : l = (List.range l.length).map (fun i => l.getD i undef) := by
  apply List.ext_getElem
  · simp
  · intro i h1 h2
    simp [List.getD_eq_getElem?_getD, List.getElem?_eq_getElem h1]
theorem Frm.out {b : Nat} {x t : Value} {a : Act} (h : Frm b x t a) : ∃ U : Nat → Value, a = { tmps := (Value.pointer (some ⟨b, 0, none⟩) :: U 1 :: U 2 :: x :: U 4 :: t :: U 6 :: U 7 :: U 8 :: U 9 :: U 10 :: U 11 :: U 12 :: U 13 :: U 14 :: U 15 :: U 16 :: U 17 :: U 18 :: U 19 :: U 20 :: U 21 :: U 22 :: U 23 :: U 24 :: U 25 :: U 26 :: U 27 :: U 28 :: U 29 :: U 30 :: U 31 :: U 32 :: U 33 :: U 34 :: U 35 :: U 36 :: U 37 :: U 38 :: U 39 :: U 40 :: U 41 :: U 42 :: U 43 :: U 44 :: U 45 :: U 46 :: U 47 :: U 48 :: U 49 :: U 50 :: U 51 :: U 52 :: U 53 :: U 54 :: U 55 :: U 56 :: U 57 :: U 58 :: U 59 :: U 60 :: U 61 :: U 62 :: U 63 :: U 64 :: U 65 :: U 66 :: U 67 :: U 68 :: U 69 :: U 70 :: U 71 :: U 72 :: U 73 :: U 74 :: U 75 :: U 76 :: U 77 :: U 78 :: U 79 :: U 80 :: U 81 :: U 82 :: U 83 :: U 84 :: U 85 :: U 86 :: U 87 :: U 88 :: U 89 :: U 90 :: U 91 :: U 92 :: U 93 :: U 94 :: U 95 :: U 96 :: U 97 :: U 98 :: U 99 :: U 100 :: U 101 :: U 102 :: U 103 :: U 104 :: U 105 :: U 106 :: U 107 :: U 108 :: U 109 :: U 110 :: U 111 :: U 112 :: U 113 :: U 114 :: U 115 :: U 116 :: U 117 :: U 118 :: U 119 :: U 120 :: U 121 :: U 122 :: U 123 :: U 124 :: U 125 :: U 126 :: U 127 :: U 128 :: U 129 :: U 130 :: U 131 :: U 132 :: U 133 :: U 134 :: U 135 :: U 136 :: U 137 :: U 138 :: []).toArray, defers := [] } := by
  obtain ⟨h1, h2, h3, h4, h5⟩ := h
  have e := list_as a.tmps.toList
  rw [show a.tmps.toList.length = 139 from h2] at e
  have g : ∀ (i : Nat) (v : Value), a.tmps[i]? = some v → a.tmps.toList.getD i undef = v := by
    intro i v hv
    rw [List.getD_eq_getElem?_getD, Array.getElem?_toList, hv]
    rfl
  have g0 := g 0 _ h3
  have g3 := g 3 _ h4
  have g5 := g 5 _ h5
  obtain ⟨U, hU⟩ : ∃ U : Nat → Value, (fun i => a.tmps.toList.getD i undef) = U := ⟨_, rfl⟩
  rw [hU] at e
  rw [show a.tmps.toList.getD 0 undef = U 0 from congrFun hU 0] at g0
  rw [show a.tmps.toList.getD 3 undef = U 3 from congrFun hU 3] at g3
  rw [show a.tmps.toList.getD 5 undef = U 5 from congrFun hU 5] at g5
  refine ⟨U, ?_⟩
  rw [← g0, ← g3, ← g5]
  clear hU g g0 g3 g5 h2 h3 h4 h5
  cases a with
  | mk tm df =>
    cases tm with
    | mk l =>
      simp only at h1 e
      rw [h1, e]
      rfl

/-- What reading comes to. -/
def RP (W0 : World) (b : Nat) (s : ByteArray) (a : Nat) (neg : Bool) (p : Parts) (r : Ending) (w' : World) : Prop :=
  r = .returned (.bool p.ok) ∧ ∃ (l : List UInt8) (d : Nat) (e : Int) (v : Value), St W0 b s p.fin neg l d e v w' ∧
    (p.ok = true → l = piece s a p.wb ++ piece s p.ba p.bb ∧ d = p.bb - p.ba ∧ AllDg s p.ea p.fin ∧ e = (if p.turned = true then -sat (piece s p.ea p.fin) 0 else sat (piece s p.ea p.fin) 0))

/-- How the exponent begins: where its digits stand, and is it turned? -/
def Ea (s : ByteArray) (bb ea : Nat) (tu : Bool) : Prop := ea = (if isAt s (bb + 1) 43 45 = true then bb + 2 else bb + 1) ∧ tu = (isAt s (bb + 1) 43 45 && decide (bt s ((bb + 1 : Nat) : Int) = 45))
theorem ea_minus {s : ByteArray} {bb : Nat} (h : isAt s (bb + 1) 43 45 = true) (h2 : bt s ((bb + 1 : Nat) : Int) = 45) : Ea s bb (bb + 2) true := ⟨by rw [if_pos h], by rw [h, decide_eq_true h2]; rfl⟩
theorem ea_plus {s : ByteArray} {bb : Nat} (h : isAt s (bb + 1) 43 45 = true) (h2 : ¬ bt s ((bb + 1 : Nat) : Int) = 45) : Ea s bb (bb + 2) false := ⟨by rw [if_pos h], by rw [h, decide_eq_false h2]; rfl⟩
theorem ea_none {s : ByteArray} {bb : Nat} (h : isAt s (bb + 1) 43 45 = false) : Ea s bb (bb + 1) false := ⟨by rw [h]; rfl, by rw [h]; rfl⟩
theorem expo_to {s : ByteArray} {wb ba bb ea : Nat} {tu : Bool} (he : isAt s bb 101 69 = true) (h : Ea s bb ea tu) (hd : dg s ea = true) : expo s wb ba bb = ⟨true, dEnd s (ea + 1), wb, ba, bb, ea, tu⟩ := by
  obtain ⟨rfl, rfl⟩ := h
  unfold expo
  rw [if_pos he]
  simp only
  rw [if_pos hd]
theorem expo_no {s : ByteArray} {wb ba bb ea : Nat} {tu : Bool} (he : isAt s bb 101 69 = true) (h : Ea s bb ea tu) (hd : dg s ea = false) : expo s wb ba bb = ⟨false, ea, wb, ba, bb, ea, tu⟩ := by
  obtain ⟨rfl, rfl⟩ := h
  unfold expo
  rw [if_pos he]
  simp only
  rw [if_neg (by rw [hd]; decide)]
theorem expo_none {s : ByteArray} {wb ba bb : Nat} (he : isAt s bb 101 69 = false) : expo s wb ba bb = ⟨true, bb, wb, ba, bb, bb, false⟩ := by
  unfold expo
  rw [if_neg (by rw [he]; decide)]
def rank : Nat → Nat
  | 1 => 4
  | 0 => 3
  | 3 => 2
  | 2 => 1
  | _ => 0
def atOf (b : Nat) (w : World) : Nat := match w.cell? ⟨b, 1, none⟩ with
  | some (.int _ i) => i.toNat
  | _ => 0
/-- The measure: how many piece are left, and how far down the label stands. -/
def mu (b : Nat) (s : ByteArray) (l : Nat) (_ : Act) (w : World) : Nat := 8 * (s.size - atOf b w) + rank l
theorem St.at_ {W0 w : World} {b : Nat} {s : ByteArray} {i : Nat} {neg : Bool} {l : List UInt8} {d : Nat} {e : Int} {v : Value} (h : St W0 b s i neg l d e v w) : atOf b w = i := by
  unfold atOf
  rw [h.rb.c1]
  exact Int.toNat_natCast i
theorem mu_is {W0 w : World} {b : Nat} {s : ByteArray} {i : Nat} {neg : Bool} {l : List UInt8} {d : Nat} {e : Int} {v : Value} (h : St W0 b s i neg l d e v w) (k : Nat) (a : Act) : mu b s k a w = 8 * (s.size - i) + rank k := by
  unfold mu
  rw [h.at_]
/-- What holds at the labels. -/
def Lab (W0 : World) (b : Nat) (s : ByteArray) (a : Nat) (neg : Bool) (p : Parts) : Nat → Act → World → Prop
  | 1, A, w => ∃ (x t : Value) (i : Nat) (v : Value), Frm b x t A ∧ St W0 b s i neg (piece s a i) 0 0 v w ∧ a ≤ i ∧ i ≤ s.size ∧ p = point s (dEnd s i)
  | 0, A, w => ∃ (x t : Value) (i : Nat) (v : Value), Frm b x t A ∧ St W0 b s i neg (piece s a i) 0 0 v w ∧ a ≤ i ∧ i ≤ s.size ∧ p = point s i
  | 3, A, w => ∃ (t : Value) (wb j : Nat) (v : Value), Frm b (.int .u8 (bt s (j : Int))) t A ∧ St W0 b s (j + 1) neg (piece s a wb ++ piece s (wb + 1) j) (j - (wb + 1)) 0 v w ∧ a ≤ wb ∧ wb + 1 ≤ j ∧ dg s j = true ∧ p = expo s wb (wb + 1) (dEnd s (j + 1))
  | 2, A, w => ∃ (x t : Value) (wb ba bb : Nat) (v : Value), Frm b x t A ∧ St W0 b s bb neg (piece s a wb ++ piece s ba bb) (bb - ba) 0 v w ∧ p = expo s wb ba bb
  | 4, A, w => ∃ (t : Bool) (wb ba bb ea j : Nat) (v : Value), Frm b (.int .u8 (bt s (j : Int))) (.bool t) A ∧ St W0 b s (j + 1) neg (piece s a wb ++ piece s ba bb) (bb - ba) (sat (piece s ea j) 0) v w ∧ ea ≤ j ∧ AllDg s ea j ∧ dg s j = true ∧ p = ⟨true, dEnd s (j + 1), wb, ba, bb, ea, t⟩
  | _, _, _ => False
end Go.Proofs.YtkjmbibnfohkjaaDoor.Reader
