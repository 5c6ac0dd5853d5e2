/- decimal.Read: for every text and place the number that stands there, and where it ends. -/
import Derived.Test.YtkjmbibnfohkjaaDoorReadWalk
import Derived.Test.YtkjmbibnfohkjaaDoorNumWalk
import Derived.RegionTactic
import Derived.BigRegion
namespace Go.Proofs.YtkjmbibnfohkjaaDoor
open Go.RowKit Go.Proofs.YtkjmbibnfohkjaaDoorW.PrintWords Go.Proofs.YtkjmbibnfohkjaaDoorW.PrintLast Go.Proofs.YtkjmbibnfohkjaaDoorW.PrintMore Go.Proofs.YtkjmbibnfohkjaaDoor.Dec Go.Proofs.YtkjmbibnfohkjaaDoor.Reader
set_option linter.unusedVariables false

/-- Where the number's first digit is to stand. -/
def Dec.startOf (s : ByteArray) (i : Nat) : Nat := if isAt s i 45 45 = true then i + 1 else i
/-- What Read tells of a place in the text. -/
def Dec.readOf (s : ByteArray) (i : Nat) : Bool × ByteArray × Int × Int × Int :=
  if (partsOf s (startOf s i)).ok = false then (false, ⟨#[]⟩, 0, ((partsOf s (startOf s i)).fin : Int), 110)
  else if (numOf (isAt s i 45 45) (piece s (startOf s i) (partsOf s (startOf s i)).wb ++ piece s (partsOf s (startOf s i)).ba (partsOf s (startOf s i)).bb) ((partsOf s (startOf s i)).bb - (partsOf s (startOf s i)).ba)
      (if (partsOf s (startOf s i)).turned = true then -sat (piece s (partsOf s (startOf s i)).ea (partsOf s (startOf s i)).fin) 0 else sat (piece s (partsOf s (startOf s i)).ea (partsOf s (startOf s i)).fin) 0)).2.2.2 = true
    then ((numOf (isAt s i 45 45) (piece s (startOf s i) (partsOf s (startOf s i)).wb ++ piece s (partsOf s (startOf s i)).ba (partsOf s (startOf s i)).bb) ((partsOf s (startOf s i)).bb - (partsOf s (startOf s i)).ba)
      (if (partsOf s (startOf s i)).turned = true then -sat (piece s (partsOf s (startOf s i)).ea (partsOf s (startOf s i)).fin) 0 else sat (piece s (partsOf s (startOf s i)).ea (partsOf s (startOf s i)).fin) 0)).1,
      (numOf (isAt s i 45 45) (piece s (startOf s i) (partsOf s (startOf s i)).wb ++ piece s (partsOf s (startOf s i)).ba (partsOf s (startOf s i)).bb) ((partsOf s (startOf s i)).bb - (partsOf s (startOf s i)).ba)
      (if (partsOf s (startOf s i)).turned = true then -sat (piece s (partsOf s (startOf s i)).ea (partsOf s (startOf s i)).fin) 0 else sat (piece s (partsOf s (startOf s i)).ea (partsOf s (startOf s i)).fin) 0)).2.1,
      (numOf (isAt s i 45 45) (piece s (startOf s i) (partsOf s (startOf s i)).wb ++ piece s (partsOf s (startOf s i)).ba (partsOf s (startOf s i)).bb) ((partsOf s (startOf s i)).bb - (partsOf s (startOf s i)).ba)
      (if (partsOf s (startOf s i)).turned = true then -sat (piece s (partsOf s (startOf s i)).ea (partsOf s (startOf s i)).fin) 0 else sat (piece s (partsOf s (startOf s i)).ea (partsOf s (startOf s i)).fin) 0)).2.2.1, ((partsOf s (startOf s i)).fin : Int), 0)
    else (false, ⟨#[]⟩, 0, ((partsOf s (startOf s i)).fin : Int), 111)
theorem Dec.readOf_no {s : ByteArray} {i : Nat} {p : Parts} (hp : p = partsOf s (startOf s i)) (h : p.ok = false) : readOf s i = (false, ⟨#[]⟩, 0, (p.fin : Int), 110) := by
  subst hp
  unfold readOf
  rw [if_pos h]
theorem Dec.readOf_yes {s : ByteArray} {i : Nat} {p : Parts} {n : Bool} {l : List UInt8} {d : Nat} {e : Int} (hp : p = partsOf s (startOf s i)) (h : p.ok = true) (hn : n = isAt s i 45 45) (hl : l = piece s (startOf s i) p.wb ++ piece s p.ba p.bb) (hd : d = p.bb - p.ba)
    (he : e = if p.turned = true then -sat (piece s p.ea p.fin) 0 else sat (piece s p.ea p.fin) 0) :
    readOf s i = if (numOf n l d e).2.2.2 = true then ((numOf n l d e).1, (numOf n l d e).2.1, (numOf n l d e).2.2.1, (p.fin : Int), 0) else (false, ⟨#[]⟩, 0, (p.fin : Int), 111) := by
  subst hp hn hl hd he
  unfold readOf
  rw [if_neg (by rw [h]; decide)]
def decimal_Read.f (a0 : ByteArray) (a1 : Int) : Option (Bool × ByteArray × Int × Int × Int) :=
  if a1 < 0 ∨ a1 > (a0.size : Int) then some (false, ⟨#[]⟩, 0, 0, 2)
  else if a0.size ≤ 1152921504606846976 ∧ a0.size ≤ a1.toNat + 140737488355328 then some (readOf a0 a1.toNat) else none

theorem Dec.startOf_ge (s : ByteArray) (i : Nat) : i ≤ startOf s i := by
  unfold startOf
  split <;> omega
theorem Dec.expo_parts (s : ByteArray) (wb ba bb : Nat) : (expo s wb ba bb).wb = wb ∧ (expo s wb ba bb).ba = ba ∧ (expo s wb ba bb).bb = bb := by
  unfold expo
  split
  · simp only
    by_cases h : dg s (if isAt s (bb + 1) 43 45 = true then bb + 2 else bb + 1) = true
    · rw [if_pos h]
      exact ⟨rfl, rfl, rfl⟩
    · rw [if_neg h]
      exact ⟨rfl, rfl, rfl⟩
  · exact ⟨rfl, rfl, rfl⟩
theorem Dec.point_bounds (s : ByteArray) (wb : Nat) (h3 : wb ≤ s.size) (hok : (point s wb).ok = true) : (point s wb).wb = wb ∧ wb ≤ (point s wb).ba ∧ (point s wb).bb ≤ s.size := by
  unfold point at hok ⊢
  split at hok
  · split at hok
    · rename_i h1 h2
      rw [if_pos h1, if_pos h2]
      obtain ⟨e1, e2, e3⟩ := expo_parts s wb (wb + 1) (dEnd s (wb + 2))
      rw [e1, e2, e3]
      exact ⟨rfl, by omega, dEnd_le s (by have := dg_lt h2; omega)⟩
    · cases hok
  · rename_i h1
    rw [if_neg h1]
    obtain ⟨e1, e2, e3⟩ := expo_parts s wb wb wb
    rw [e1, e2, e3]
    exact ⟨rfl, by omega, h3⟩
theorem Dec.parts_bounds (s : ByteArray) (a : Nat) (hok : (partsOf s a).ok = true) : a ≤ (partsOf s a).wb ∧ (partsOf s a).wb ≤ (partsOf s a).ba ∧ (partsOf s a).bb ≤ s.size ∧ (partsOf s a).wb ≤ s.size := by
  unfold partsOf at hok ⊢
  split at hok
  · rename_i h1
    have hlt := dg_lt h1
    rw [if_pos h1]
    split at hok
    · rename_i h2
      rw [if_pos h2]
      obtain ⟨e1, e2, e3⟩ := point_bounds s _ (by omega) hok
      rw [e1]
      exact ⟨by omega, e2, e3, by omega⟩
    · rename_i h2
      rw [if_neg h2]
      have := dEnd_ge s (a + 1)
      have := dEnd_le s (i := a + 1) (by omega)
      obtain ⟨e1, e2, e3⟩ := point_bounds s _ (by omega) hok
      rw [e1]
      exact ⟨by omega, e2, e3, by omega⟩
  · cases hok
/-- A row of digits is no longer than the text behind its first place. -/
theorem Dec.pieces_len (s : ByteArray) (i : Nat) (hr : s.size ≤ i + 140737488355328) (hok : (partsOf s (startOf s i)).ok = true) : (piece s (startOf s i) (partsOf s (startOf s i)).wb ++ piece s (partsOf s (startOf s i)).ba (partsOf s (startOf s i)).bb).length ≤ 140737488355328 ∧ (partsOf s (startOf s i)).bb - (partsOf s (startOf s i)).ba ≤ 140737488355328 := by
  have e1 := piece_len_le s (startOf s i) (partsOf s (startOf s i)).wb
  have e2 := piece_len_le s (partsOf s (startOf s i)).ba (partsOf s (startOf s i)).bb
  have := startOf_ge s i
  obtain ⟨h1, h2, h3, h4⟩ := parts_bounds s (startOf s i) hok
  rw [List.length_append]
  omega

set_option maxHeartbeats 2000000 in
set_option maxRecDepth 100000 in
theorem read_out (s : ByteArray) (i : Int) (w : World) (h : i < 0 ∨ i > (s.size : Int)) :
    Calls Tryd.prog 54 #[.string s, .int .i64 i] w fun e w' => e = .returned (.tuple #[.agg #[.bool false, .string ⟨#[]⟩, .int .i64 0], .int .i64 0, .int .i64 2]) ∧ Below w.heap.size w w' := by
  by_cases h0 : i < 0
  · have q0 : decide (i < 0) = true := decide_eq_true h0
    clear h h0
    go_enter Tryd.func54, Tryd.ntmps54
    go_wp2
    refine bodyPost_ret (v := .tuple #[.agg #[.bool false, .string ⟨#[]⟩, .int .i64 0], .int .i64 0, .int .i64 2]) (by simp [results, Tryd.results54, go_sem]) rfl ⟨rfl, ?_⟩
    repeat (first | exact Below.refl _ _ | apply pw_below_drewN | apply below_alloc | refine below_own ?_ _ _)
  · have q0 : decide (i < 0) = false := decide_eq_false h0
    have q1 : decide ((s.size : Int) < i) = true := decide_eq_true (by omega)
    clear h h0
    go_enter Tryd.func54, Tryd.ntmps54
    go_wp2
    refine bodyPost_ret (v := .tuple #[.agg #[.bool false, .string ⟨#[]⟩, .int .i64 0], .int .i64 0, .int .i64 2]) (by simp [results, Tryd.results54, go_sem]) rfl ⟨rfl, ?_⟩
    repeat (first | exact Below.refl _ _ | apply pw_below_drewN | apply below_alloc | refine below_own ?_ _ _)
theorem dec_set {w : World} {N : Nat} {a : Bool} {b : ByteArray} {c : Int} (h : w.heap[N]? = some (.cells #[.bool a, .string b, .int .i64 c] 65 (0, 0))) (q1 : Bool) (q2 : ByteArray) (q3 : Int) :
    (((w.setCell ⟨N, 0, none⟩ (.bool q1)).setCell ⟨N, 1, none⟩ (.string q2)).setCell ⟨N, 2, none⟩ (.int .i64 q3)).heap[N]? = some (.cells #[.bool q1, .string q2, .int .i64 q3] 65 (0, 0)) :=
  blk_set (blk_set (blk_set h 0 _) 1 _) 2 _
theorem dec_far (w : World) (N M : Nat) (q1 : Bool) (q2 : ByteArray) (q3 : Int) (h : M ≠ N) :
    (((w.setCell ⟨N, 0, none⟩ (.bool q1)).setCell ⟨N, 1, none⟩ (.string q2)).setCell ⟨N, 2, none⟩ (.int .i64 q3)).cell? ⟨M, 1, none⟩ = w.cell? ⟨M, 1, none⟩ := by
  refine World.cell?_of_block ?_
  show ((((w.setCell ⟨N, 0, none⟩ (.bool q1)).setCell ⟨N, 1, none⟩ (.string q2)).setCell ⟨N, 2, none⟩ (.int .i64 q3))).heap[M]? = w.heap[M]?
  rw [Below.heap_setCell _ _ _ _ h, Below.heap_setCell _ _ _ _ h, Below.heap_setCell _ _ _ _ h]
set_option maxHeartbeats 4000000 in
set_option maxRecDepth 100000 in
theorem read_in (s : ByteArray) (i : Nat) (w : World) (hi : i ≤ s.size) (hs : s.size ≤ 1152921504606846976) (hr : s.size ≤ i + 140737488355328) :
    Calls Tryd.prog 54 #[.string s, .int .i64 (i : Int)] w fun e w' => e = .returned (.tuple #[.agg #[.bool (readOf s i).1, .string (readOf s i).2.1, .int .i64 (readOf s i).2.2.1], .int .i64 (readOf s i).2.2.2.1, .int .i64 (readOf s i).2.2.2.2]) ∧ Below w.heap.size w w' := by
  have q1 : decide (s.size < i) = false := decide_eq_false (by omega)
  obtain ⟨p, hp⟩ : ∃ p, p = partsOf s (startOf s i) := ⟨_, rfl⟩
  obtain ⟨a, ha⟩ : ∃ a, a = startOf s i := ⟨_, rfl⟩
  obtain ⟨n, hn⟩ : ∃ n, n = isAt s i 45 45 := ⟨_, rfl⟩
  have hge := startOf_ge s i
  have ha2 : a = if n = true then i + 1 else i := by rw [ha, hn]; rfl
  have hS0 : St (w.alloc (.cells #[.bool false, .string ⟨#[]⟩, .int .i64 0] 65)) (w.heap.size + 1) s i false [] 0 0 (.slice none 0 0) ((w.alloc (.cells #[.bool false, .string ⟨#[]⟩, .int .i64 0] 65)).alloc (.cells #[.string s, .int .i64 (i : Int), .bool false, .slice none 0 0, .int .i64 0, .int .i64 0] 114)) := by
    refine ⟨?_, own_nil _ _ _ _, (Below.refl _ _).alloc (Nat.le_refl _) _, by simp⟩
    have := heap_alloc_new (w.alloc (.cells #[.bool false, .string ⟨#[]⟩, .int .i64 0] 65)) (.cells #[.string s, .int .i64 (i : Int), .bool false, .slice none 0 0, .int .i64 0, .int .i64 0] 114)
    rw [World.size_alloc] at this
    exact this
  have hcall := read_tail (p := p) hs (by rw [ha]; omega : s.size ≤ a + 140737488355328) _ hn ha2 (by rw [hp, ha]) hS0
  have HC := Aside0.mk hcall
  have HP := Aside0.mk hp
  have HA := Aside0.mk ha
  have HN := Aside0.mk hn
  have hD : ∀ {l d e v w2}, St (w.alloc (.cells #[.bool false, .string ⟨#[]⟩, .int .i64 0] 65)) (w.heap.size + 1) s p.fin n l d e v w2 → w2.heap[w.heap.size]? = some (.cells #[.bool false, .string ⟨#[]⟩, .int .i64 0] 65 (0, 0)) ∧ w.heap.size + 1 < w2.heap.size ∧ Below w.heap.size w w2 := by
    intro l d e v w2 hS
    refine ⟨(hS.below.block w.heap.size (by simp)).trans (heap_alloc_new w _), hS.rb.lt, ?_⟩
    exact ((Below.refl _ w).alloc (Nat.le_refl _) _).trans (hS.below.mono (by simp))
  have HD := Aside0.mk @hD
  clear hcall hS0 hp ha ha2 hn hge hD
  by_cases hok : p.ok = true
  · go_enter Tryd.func54, Tryd.ntmps54
    go_wp2_with fail
    refine HC.out.mono ?_
    rintro r w2 ⟨hr0, l, d, e, v, hS, himp⟩
    rw [hok] at hr0
    subst hr0
    obtain ⟨hl, hd, hall, he⟩ := himp hok
    have hlen := pieces_len s i hr (by rw [← HP.out]; exact hok)
    have hsat := sat_range (piece s p.ea p.fin) 0 hall.digits (by decide) (by decide)
    have hnum := number_calls hS (by rw [hl, HA.out, HP.out]; exact hlen.1) (by rw [hd, HP.out]; exact hlen.2) (by rw [he]; split <;> omega) (by rw [he]; split <;> omega)
    have hread := readOf_yes (l := l) HP.out hok HN.out (by rw [← HA.out]; exact hl) hd he
    have HNU := Aside0.mk hnum
    have HRE := Aside0.mk hread
    obtain ⟨hb, hlt, hbel⟩ := HD.out hS
    have c1 := hS.rb.c1
    have hSl := hS.rb.lt
    clear hS hok hl hd hall he hlen hsat hnum hread himp
    go_wp2_with fail
    refine HNU.out.mono ?_
    rintro r w3 ⟨rfl, hb3⟩
    have hb3' : w3.heap[w.heap.size]? = some (.cells #[.bool false, .string ⟨#[]⟩, .int .i64 0] 65 (0, 0)) := (hb3.block _ (by omega)).trans hb
    have k0 : w3.cell? ⟨w.heap.size, 0, none⟩ = some (.bool false) := (blk_cell hb3' 0).trans rfl
    have k1 : w3.cell? ⟨w.heap.size, 1, none⟩ = some (.string ⟨#[]⟩) := (blk_cell hb3' 1).trans rfl
    have k2 : w3.cell? ⟨w.heap.size, 2, none⟩ = some (.int .i64 0) := (blk_cell hb3' 2).trans rfl
    have g0 := blk_frozen hb3' 0
    have g1 := blk_frozen hb3' 1
    have g2 := blk_frozen hb3' 2
    have c1' := (hb3.cell (p := ⟨w.heap.size + 1, 1, none⟩) hlt).trans c1
    have HB3 := Aside0.mk (hbel.trans (hb3.mono (by omega)))
    have HBL := Aside0.mk hb3'
    obtain ⟨q, hq⟩ : ∃ q, numOf n l d e = q := ⟨_, rfl⟩
    rw [hq] at HRE ⊢
    obtain ⟨q1', q2', q3', q4'⟩ := q
    simp only at HRE ⊢
    clear hb hbel c1 hb3 HNU hq hlt hSl hb3'
    cases q4'
    · have HF := Lib.hid (show readOf s i = (false, ⟨#[]⟩, 0, (p.fin : Int), 111) from HRE.out.trans (if_neg (by decide)))
      clear HRE
      go_wp2
      have HB := Aside0.mk (below_own (below_own (below_own HB3.out 0 (.bool q1')) 1 (.string q2')) 2 (.int .i64 q3'))
      have hbl := dec_set HBL.out q1' q2' q3'
      have c1 : ((((w3.setCell ⟨w.heap.size, 0, none⟩ (.bool q1')).setCell ⟨w.heap.size, 1, none⟩ (.string q2')).setCell ⟨w.heap.size, 2, none⟩ (.int .i64 q3'))).cell? ⟨w.heap.size + 1, 1, none⟩ = some (.int .i64 (p.fin : Int)) := (dec_far w3 _ _ q1' q2' q3' (by omega)).trans c1'
      clear k0 k1 k2 g0 g1 g2 c1' HB3 HBL
      generalize (((w3.setCell ⟨w.heap.size, 0, none⟩ (.bool q1')).setCell ⟨w.heap.size, 1, none⟩ (.string q2')).setCell ⟨w.heap.size, 2, none⟩ (.int .i64 q3')) = w4 at HB hbl c1 ⊢
      have k0 : w4.cell? ⟨w.heap.size, 0, none⟩ = some (.bool q1') := (blk_cell hbl 0).trans rfl
      have k1 : w4.cell? ⟨w.heap.size, 1, none⟩ = some (.string q2') := (blk_cell hbl 1).trans rfl
      have k2 : w4.cell? ⟨w.heap.size, 2, none⟩ = some (.int .i64 q3') := (blk_cell hbl 2).trans rfl
      have g0 := blk_frozen hbl 0
      have g1 := blk_frozen hbl 1
      have g2 := blk_frozen hbl 2
      clear hbl
      go_region
      go_wp2
      refine bodyPost_ret (v := .tuple #[.agg #[.bool false, .string ⟨#[]⟩, .int .i64 0], .int .i64 (p.fin : Int), .int .i64 111]) (by simp [results, Tryd.results54, go_sem, k0, k1, k2]) rfl ⟨by rw [HF.out], ?_⟩
      repeat (first | exact HB.out | apply below_drew1 | refine below_own ?_ _ _)
    · have HF := Lib.hid (show readOf s i = (q1', q2', q3', (p.fin : Int), 0) from HRE.out.trans (if_pos rfl))
      clear HRE
      go_wp2
      have HB := Aside0.mk (below_own (below_own (below_own HB3.out 0 (.bool q1')) 1 (.string q2')) 2 (.int .i64 q3'))
      have hbl := dec_set HBL.out q1' q2' q3'
      have c1 : ((((w3.setCell ⟨w.heap.size, 0, none⟩ (.bool q1')).setCell ⟨w.heap.size, 1, none⟩ (.string q2')).setCell ⟨w.heap.size, 2, none⟩ (.int .i64 q3'))).cell? ⟨w.heap.size + 1, 1, none⟩ = some (.int .i64 (p.fin : Int)) := (dec_far w3 _ _ q1' q2' q3' (by omega)).trans c1'
      clear k0 k1 k2 g0 g1 g2 c1' HB3 HBL
      generalize (((w3.setCell ⟨w.heap.size, 0, none⟩ (.bool q1')).setCell ⟨w.heap.size, 1, none⟩ (.string q2')).setCell ⟨w.heap.size, 2, none⟩ (.int .i64 q3')) = w4 at HB hbl c1 ⊢
      have k0 : w4.cell? ⟨w.heap.size, 0, none⟩ = some (.bool q1') := (blk_cell hbl 0).trans rfl
      have k1 : w4.cell? ⟨w.heap.size, 1, none⟩ = some (.string q2') := (blk_cell hbl 1).trans rfl
      have k2 : w4.cell? ⟨w.heap.size, 2, none⟩ = some (.int .i64 q3') := (blk_cell hbl 2).trans rfl
      have g0 := blk_frozen hbl 0
      have g1 := blk_frozen hbl 1
      have g2 := blk_frozen hbl 2
      clear hbl
      go_region
      go_wp2
      refine bodyPost_ret (v := .tuple #[.agg #[.bool q1', .string q2', .int .i64 q3'], .int .i64 (p.fin : Int), .int .i64 0]) (by simp [results, Tryd.results54, go_sem, k0, k1, k2]) rfl ⟨by rw [HF.out], ?_⟩
      repeat (first | exact HB.out | apply below_drew1 | refine below_own ?_ _ _)
  · have hok' : p.ok = false := by simpa using hok
    have HF := Lib.hid (show readOf s i = _ from readOf_no HP.out hok')
    go_enter Tryd.func54, Tryd.ntmps54
    go_wp2_with fail
    refine HC.out.mono ?_
    rintro r w2 ⟨hr0, l, d, e, v, hS, _⟩
    rw [hok'] at hr0
    subst hr0
    obtain ⟨hb, hlt, hbel⟩ := HD.out hS
    have c1 := hS.rb.c1
    have k0 : w2.cell? ⟨w.heap.size, 0, none⟩ = some (.bool false) := (blk_cell hb 0).trans rfl
    have k1 : w2.cell? ⟨w.heap.size, 1, none⟩ = some (.string ⟨#[]⟩) := (blk_cell hb 1).trans rfl
    have k2 : w2.cell? ⟨w.heap.size, 2, none⟩ = some (.int .i64 0) := (blk_cell hb 2).trans rfl
    have g0 := blk_frozen hb 0
    have g1 := blk_frozen hb 1
    have g2 := blk_frozen hb 2
    clear hS hb hok hok'
    have HB := Aside0.mk hbel
    clear hbel
    go_wp2
    go_region
    go_wp2
    refine bodyPost_ret (v := .tuple #[.agg #[.bool false, .string ⟨#[]⟩, .int .i64 0], .int .i64 (p.fin : Int), .int .i64 110]) (by simp [results, Tryd.results54, go_sem, k0, k1, k2]) rfl ⟨by rw [HF.out], ?_⟩
    repeat (first | exact HB.out | apply below_drew1 | refine below_own ?_ _ _)
theorem decimal_Read.calls (a0 : ByteArray) (a1 : Int) (r1 : Bool) (r2 : ByteArray) (r3 : Int) (r4 : Int) (r5 : Int) (w : World) (h : decimal_Read.f a0 a1 = some (r1, r2, r3, r4, r5)) :
    Calls Tryd.prog 54 #[.string a0, .int .i64 a1] w fun e w' => e = .returned (.tuple #[.agg #[.bool r1, .string r2, .int .i64 r3], .int .i64 r4, .int .i64 r5]) ∧ Below w.heap.size w w' := by
  unfold decimal_Read.f at h
  split at h
  · rename_i h1
    have e := Option.some.inj h
    cases e
    exact read_out a0 a1 w h1
  · rename_i h1
    split at h
    · rename_i h2
      have e := Option.some.inj h
      obtain ⟨i, rfl⟩ := Int.eq_ofNat_of_zero_le (show 0 ≤ a1 by omega)
      have hc := read_in a0 i w (by omega) h2.1 (by have := h2.2; omega)
      rw [show ((i : Nat) : Int).toNat = i from Int.toNat_natCast i] at e
      rw [e] at hc
      exact hc
    · cases h
end Go.Proofs.YtkjmbibnfohkjaaDoor
