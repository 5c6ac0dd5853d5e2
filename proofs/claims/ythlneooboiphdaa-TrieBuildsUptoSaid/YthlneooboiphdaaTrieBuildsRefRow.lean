/- The document's trie while it is built: one row of nodes, each with three rows. -/
import Derived.Test.YthlneooboiphdaaTrieBuildsBuildW
import Derived.Test.YthlneooboiphdaaPTrieBuildsx4
set_option linter.unusedVariables false
set_option linter.unusedSimpArgs false
namespace Go.Proofs.Ythlneooboiphdaa.PTrieBuilds
open Go.RowKit Go.Proofs.Ythlneooboiphdaa Go.Proofs.YthlneooboiphdaaW.PrintWords Go.Proofs.YthlneooboiphdaaW.PrintLast Go.Proofs.YthlneooboiphdaaW.PrintMore
structure Rf (base : Nat) (W : World) (v : Value) (inner : List Value) (T : List PN) : Prop where
  own : W.ownsRow base 50 3 v T.length inner
  at_ : ∀ (k : Nat) (n : PN), T[k]? = some n → ∃ vS vT vE, inner[k * 3]? = some vS ∧ inner[k * 3 + 1]? = some vT ∧ inner[k * 3 + 2]? = some vE ∧ Flat k53 53 base W vS n.st ∧ Flat (Kd.int .i64) 3 base W vT (castN n.nx) ∧ Flat (Kd.int .i64) 3 base W vE n.en
  sep : ∀ (p q : Nat) (u u' : Value), p ≠ q → inner[p]? = some u → inner[q]? = some u' → ∀ b, u.ownBlock = some b → some b ≠ u'.ownBlock
theorem Rf.below {base : Nat} {W W1 : World} {v : Value} {inner : List Value} {T : List PN} (h : Rf base W v inner T) (hb : Below W.heap.size W W1) : Rf base W1 v inner T where
  own := pw_own_below h.own hb
  at_ := fun k n hn => by
    obtain ⟨vS, vT, vE, h1, h2, h3, h4, h5, h6⟩ := h.at_ k n hn
    exact ⟨vS, vT, vE, h1, h2, h3, h4.below hb, h5.below hb, h6.below hb⟩
  sep := h.sep
theorem Rf.len {base : Nat} {W : World} {v : Value} {inner : List Value} {T : List PN} (h : Rf base W v inner T) : inner.length = T.length * 3 := h.own.1
/-- Each cell is a flat row of another type than the nodes'. -/
theorem Rf.cell {base : Nat} {W : World} {v : Value} {inner : List Value} {T : List PN} (h : Rf base W v inner T) {q : Nat} {z : Value} (hz : inner[q]? = some z) :
    (∃ xs, Flat k53 53 base W z xs) ∨ ∃ xs, Flat (Kd.int .i64) 3 base W z xs := by
  have hq := (List.getElem?_eq_some_iff.1 hz).1
  rw [h.len] at hq
  have hk : q / 3 < T.length := by omega
  obtain ⟨vS, vT, vE, h1, h2, h3, h4, h5, h6⟩ := h.at_ (q / 3) _ (List.getElem?_eq_getElem hk)
  rcases (show q = q / 3 * 3 ∨ q = q / 3 * 3 + 1 ∨ q = q / 3 * 3 + 2 by omega) with e | e | e
  · rw [← e, hz] at h1
    obtain rfl := Option.some.inj h1
    exact .inl ⟨_, h4⟩
  · rw [← e, hz] at h2
    obtain rfl := Option.some.inj h2
    exact .inr ⟨_, h5⟩
  · rw [← e, hz] at h3
    obtain rfl := Option.some.inj h3
    exact .inr ⟨_, h6⟩
theorem Rf.cellLt {base : Nat} {W : World} {v : Value} {inner : List Value} {T : List PN} (h : Rf base W v inner T) {q : Nat} {z : Value} (hz : inner[q]? = some z) : ∀ b, z.ownBlock = some b → b < W.heap.size := by
  rcases h.cell hz with ⟨xs, hf⟩ | ⟨xs, hf⟩
  · exact hf.lt
  · exact hf.lt
theorem Rf.cellRow {base : Nat} {W : World} {v : Value} {inner : List Value} {T : List PN} (h : Rf base W v inner T) {q : Nat} {z : Value} (hz : inner[q]? = some z) : ∀ b, v.ownBlock = some b → some b ≠ z.ownBlock := by
  intro b hb
  obtain ⟨cells, hc⟩ := own_typed h.own b hb
  rcases h.cell hz with ⟨xs, hf⟩ | ⟨xs, hf⟩
  · exact hf.ne hc (by decide)
  · exact hf.ne hc (by decide)
theorem Rf.nodup {base : Nat} {W : World} {v : Value} {inner : List Value} {T : List PN} (h : Rf base W v inner T) {p : Nat} {u u' : Value} {R c n : Nat} {W2 : World} (hv : v = .slice (some ⟨R, 0, none⟩) T.length c) (hu : inner[p]? = some u) (hG : W.grownBy W2 u.ownBlock) {q : Nat} {z : Value} (hne : p ≠ q) (hz : inner[q]? = some z) :
    (∀ xs, Flat k53 53 base W z xs → Flat k53 53 base (W2.setCell ⟨R, p, none⟩ u') z xs) ∧ (∀ xs, Flat (Kd.int .i64) 3 base W z xs → Flat (Kd.int .i64) 3 base (W2.setCell ⟨R, p, none⟩ u') z xs) := by
  have k1 : Kept W W2 (fun k => k = R ∨ some k = u.ownBlock) := Kept.of_grown hG (Kept.refl _ _) (fun k hk => .inl (.inr hk.symm))
  have k2 := Kept.setCell (p := ⟨R, p, none⟩) k1 (.inl (.inl rfl)) u'
  have hR := h.cellRow hz R (by rw [hv]; rfl)
  have hs := h.sep q p z u (Ne.symm hne) hz hu
  refine ⟨fun xs hf => hf.kept k2 (fun k hk e => ?_), fun xs hf => hf.kept k2 (fun k hk e => ?_)⟩
  · rcases e with e | e
    · subst e; exact hR hk.symm
    · exact hs k hk e
  · rcases e with e | e
    · subst e; exact hR hk.symm
    · exact hs k hk e
/-- One cell is turned: the row behind it. -/
theorem Rf.turn {base : Nat} {W W2 : World} {v : Value} {inner : List Value} {T : List PN} (h : Rf base W v inner T) {p k : Nat} {u u' : Value} {R c : Nat} {n n' : PN} (hv : v = .slice (some ⟨R, 0, none⟩) T.length c) (hk : T[k]? = some n) (hp : p = k * 3 ∨ p = k * 3 + 1 ∨ p = k * 3 + 2)
    (hu : inner[p]? = some u) (hG : W.grownBy W2 u.ownBlock) (hn : Near W u' u)
    (hnew : ∃ vS vT vE, (inner.set p u')[k * 3]? = some vS ∧ (inner.set p u')[k * 3 + 1]? = some vT ∧ (inner.set p u')[k * 3 + 2]? = some vE ∧ Flat k53 53 base (W2.setCell ⟨R, p, none⟩ u') vS n'.st ∧ Flat (Kd.int .i64) 3 base (W2.setCell ⟨R, p, none⟩ u') vT (castN n'.nx) ∧ Flat (Kd.int .i64) 3 base (W2.setCell ⟨R, p, none⟩ u') vE n'.en) :
    Rf base (W2.setCell ⟨R, p, none⟩ u') v (inner.set p u') (T.set k n') := by
  have hl := h.len
  have hpl := (List.getElem?_eq_some_iff.1 hu).1
  have hRu : v.ownBlock = none ∨ v.ownBlock ≠ u.ownBlock := .inr (fun e => h.cellRow hu R (by rw [hv]; rfl) (by rw [← e, hv]; rfl))
  have hown2 := h.own.kept hG hRu
  have o1 : (W2.setCell ⟨R, p, none⟩ u').ownsRow base 50 3 v T.length (inner.set p u') := by
    rw [hv] at hown2 ⊢
    exact (hown2.stored p u').1
  have other : ∀ (q : Nat) (z : Value), p ≠ q → (inner.set p u')[q]? = some z → inner[q]? = some z := fun q z hne hz => by rwa [List.getElem?_set_ne hne] at hz
  refine ⟨by rw [List.length_set]; exact o1, ?_, ?_⟩
  · intro j m hj
    by_cases he : k = j
    · subst he
      rw [List.getElem?_set_self (List.getElem?_eq_some_iff.1 hk).1] at hj
      obtain rfl := Option.some.inj hj
      exact hnew
    · rw [List.getElem?_set_ne he] at hj
      obtain ⟨vS, vT, vE, h1, h2, h3, h4, h5, h6⟩ := h.at_ j m hj
      have n1 : p ≠ j * 3 := by omega
      have n2 : p ≠ j * 3 + 1 := by omega
      have n3 : p ≠ j * 3 + 2 := by omega
      exact ⟨vS, vT, vE, by rw [List.getElem?_set_ne n1]; exact h1, by rw [List.getElem?_set_ne n2]; exact h2, by rw [List.getElem?_set_ne n3]; exact h3, (h.nodup (n := 0) (u' := u') hv hu hG n1 h1).1 _ h4, (h.nodup (n := 0) (u' := u') hv hu hG n2 h2).2 _ h5, (h.nodup (n := 0) (u' := u') hv hu hG n3 h3).2 _ h6⟩
  · intro a b x y hab hx hy
    by_cases ha : p = a
    · subst ha
      rw [List.getElem?_set_self hpl] at hx
      obtain rfl := Option.some.inj hx
      have hy2 := other b y hab hy
      exact flip_ (hn.apart (h.cellLt hy2) (flip_ (h.sep p b u y hab hu hy2)))
    · have hx2 := other a x ha hx
      by_cases hb : p = b
      · subst hb
        rw [List.getElem?_set_self hpl] at hy
        obtain rfl := Option.some.inj hy
        exact hn.apart (h.cellLt hx2) (h.sep a p x u hab hx2 hu)
      · exact h.sep a b x y hab hx2 (other b y hb hy)
theorem Rf.turnS {base : Nat} {W W2 : World} {v : Value} {inner : List Value} {T : List PN} (h : Rf base W v inner T) {k : Nat} {u u' : Value} {R c : Nat} {n : PN} {y : S53} (hv : v = .slice (some ⟨R, 0, none⟩) T.length c) (hk : T[k]? = some n)
    (hu : inner[k * 3]? = some u) (hG : W.grownBy W2 u.ownBlock) (hn : Near W u' u) (hF : Flat k53 53 base W2 u' (n.st ++ [y])) :
    Rf base (W2.setCell ⟨R, k * 3, none⟩ u') v (inner.set (k * 3) u') (T.set k ⟨n.st ++ [y], n.nx, n.en⟩) := by
  obtain ⟨vS, vT, vE, h1, h2, h3, h4, h5, h6⟩ := h.at_ k n hk
  have hpl := (List.getElem?_eq_some_iff.1 hu).1
  obtain ⟨cells, hc⟩ := own_typed h.own R (by rw [hv]; rfl)
  have hRu : some R ≠ u.ownBlock := h.cellRow hu R (by rw [hv]; rfl)
  have hR : some R ≠ u'.ownBlock := hF.ne (blk_grown hc hG hRu) (by decide)
  exact h.turn hv hk (by omega) hu hG hn ⟨u', vT, vE, by rw [List.getElem?_set_self hpl], by rw [List.getElem?_set_ne (by omega)]; exact h2, by rw [List.getElem?_set_ne (by omega)]; exact h3, hF.set hR _, (h.nodup (n := 0) (u' := u') hv hu hG (by omega) h2).2 _ h5, (h.nodup (n := 0) (u' := u') hv hu hG (by omega) h3).2 _ h6⟩
theorem Rf.turnT {base : Nat} {W W2 : World} {v : Value} {inner : List Value} {T : List PN} (h : Rf base W v inner T) {k : Nat} {u u' : Value} {R c : Nat} {n : PN} {x : Nat} (hv : v = .slice (some ⟨R, 0, none⟩) T.length c) (hk : T[k]? = some n)
    (hu : inner[k * 3 + 1]? = some u) (hG : W.grownBy W2 u.ownBlock) (hn : Near W u' u) (hF : Flat (Kd.int .i64) 3 base W2 u' (castN n.nx ++ [(x : Int)])) :
    Rf base (W2.setCell ⟨R, k * 3 + 1, none⟩ u') v (inner.set (k * 3 + 1) u') (T.set k ⟨n.st, n.nx ++ [x], n.en⟩) := by
  obtain ⟨vS, vT, vE, h1, h2, h3, h4, h5, h6⟩ := h.at_ k n hk
  have hpl := (List.getElem?_eq_some_iff.1 hu).1
  obtain ⟨cells, hc⟩ := own_typed h.own R (by rw [hv]; rfl)
  have hRu : some R ≠ u.ownBlock := h.cellRow hu R (by rw [hv]; rfl)
  have hR : some R ≠ u'.ownBlock := hF.ne (blk_grown hc hG hRu) (by decide)
  exact h.turn hv hk (by omega) hu hG hn ⟨vS, u', vE, by rw [List.getElem?_set_ne (by omega)]; exact h1, by rw [List.getElem?_set_self hpl], by rw [List.getElem?_set_ne (by omega)]; exact h3, (h.nodup (n := 0) (u' := u') hv hu hG (by omega) h1).1 _ h4, (by show Flat (Kd.int .i64) 3 base _ _ (castN (n.nx ++ [x])); unfold castN; rw [List.map_append]; exact hF.set hR _), (h.nodup (n := 0) (u' := u') hv hu hG (by omega) h3).2 _ h6⟩
theorem Rf.turnE {base : Nat} {W W2 : World} {v : Value} {inner : List Value} {T : List PN} (h : Rf base W v inner T) {k : Nat} {u u' : Value} {R c : Nat} {n : PN} {x : Int} (hv : v = .slice (some ⟨R, 0, none⟩) T.length c) (hk : T[k]? = some n)
    (hu : inner[k * 3 + 2]? = some u) (hG : W.grownBy W2 u.ownBlock) (hn : Near W u' u) (hF : Flat (Kd.int .i64) 3 base W2 u' (n.en ++ [x])) :
    Rf base (W2.setCell ⟨R, k * 3 + 2, none⟩ u') v (inner.set (k * 3 + 2) u') (T.set k ⟨n.st, n.nx, n.en ++ [x]⟩) := by
  obtain ⟨vS, vT, vE, h1, h2, h3, h4, h5, h6⟩ := h.at_ k n hk
  have hpl := (List.getElem?_eq_some_iff.1 hu).1
  obtain ⟨cells, hc⟩ := own_typed h.own R (by rw [hv]; rfl)
  have hRu : some R ≠ u.ownBlock := h.cellRow hu R (by rw [hv]; rfl)
  have hR : some R ≠ u'.ownBlock := hF.ne (blk_grown hc hG hRu) (by decide)
  exact h.turn hv hk (by omega) hu hG hn ⟨vS, vT, u', by rw [List.getElem?_set_ne (by omega)]; exact h1, by rw [List.getElem?_set_ne (by omega)]; exact h2, by rw [List.getElem?_set_self hpl], (h.nodup (n := 0) (u' := u') hv hu hG (by omega) h1).1 _ h4, (h.nodup (n := 0) (u' := u') hv hu hG (by omega) h2).2 _ h5, hF.set hR _⟩
/-- The row is grown by a bare node. -/
theorem Rf.grown {base : Nat} {W W2 : World} {v v' : Value} {inner : List Value} {T : List PN} (h : Rf base W v inner T) (hG : W.grownBy W2 v.ownBlock) (ho : W2.ownsRow base 50 3 v' (T.length + 1) (inner ++ [.slice none 0 0, .slice none 0 0, .slice none 0 0])) :
    Rf base W2 v' (inner ++ [.slice none 0 0, .slice none 0 0, .slice none 0 0]) (T ++ [noP]) := by
  have hl := h.len
  have old : ∀ q : Nat, q < inner.length → (inner ++ [Value.slice none 0 0, .slice none 0 0, .slice none 0 0])[q]? = inner[q]? := fun q hq => List.getElem?_append_left hq
  have new : ∀ (q : Nat) (z : Value), ¬ q < inner.length → (inner ++ [Value.slice none 0 0, .slice none 0 0, .slice none 0 0])[q]? = some z → z = .slice none 0 0 := fun q z hq hz => by
    rw [List.getElem?_append_right (by omega)] at hz
    have hm := List.mem_of_getElem? hz
    simpa using hm
  refine ⟨by rw [List.length_append]; exact ho, ?_, ?_⟩
  · intro k n hn
    by_cases hk : k < T.length
    · rw [List.getElem?_append_left hk] at hn
      obtain ⟨vS, vT, vE, h1, h2, h3, h4, h5, h6⟩ := h.at_ k n hn
      refine ⟨vS, vT, vE, by rw [old _ (by omega)]; exact h1, by rw [old _ (by omega)]; exact h2, by rw [old _ (by omega)]; exact h3, h4.grown hG (h.cellRow h1 · ·), h5.grown hG (h.cellRow h2 · ·), h6.grown hG (h.cellRow h3 · ·)⟩
    · rw [List.getElem?_append_right (by omega)] at hn
      have h1 := (List.getElem?_eq_some_iff.1 hn).1
      have hk2 : k = T.length := by simp at h1; omega
      subst hk2
      obtain rfl : n = noP := by simpa using hn.symm
      refine ⟨.slice none 0 0, .slice none 0 0, .slice none 0 0, ?_, ?_, ?_, Flat.nil rfl _ _ _, Flat.nil rfl _ _ _, Flat.nil rfl _ _ _⟩
      · rw [List.getElem?_append_right (by omega), hl, Nat.sub_self]; rfl
      · rw [List.getElem?_append_right (by omega), hl, show T.length * 3 + 1 - T.length * 3 = 1 by omega]; rfl
      · rw [List.getElem?_append_right (by omega), hl, show T.length * 3 + 2 - T.length * 3 = 2 by omega]; rfl
  · intro a b x y hab hx hy
    by_cases ha : a < inner.length
    · by_cases hb : b < inner.length
      · rw [old a ha] at hx
        rw [old b hb] at hy
        exact h.sep a b x y hab hx hy
      · obtain rfl := new b y hb hy
        intro k _ e
        simp [Value.ownBlock] at e
    · obtain rfl := new a x ha hx
      exact nil_apart rfl
/-- One bare node, made. -/
theorem Rf.start {base : Nat} {W : World} (hb : base ≤ W.heap.size) : Rf base (W.alloc (.cells #[.slice none 0 0, .slice none 0 0, .slice none 0 0] 50)) (.slice (some ⟨W.heap.size, 0, none⟩) 1 1) [.slice none 0 0, .slice none 0 0, .slice none 0 0] [noP] := by
  refine ⟨?_, ?_, ?_⟩
  · exact World.ownsRow_lit (base := base) (e := 50) (size := 3) W #[.slice none 0 0, .slice none 0 0, .slice none 0 0] 1 hb (by unfold maxLen; omega) rfl
  · intro k n hn
    have h1 := (List.getElem?_eq_some_iff.1 hn).1
    have hk : k = 0 := by simpa using h1
    subst hk
    obtain rfl : n = noP := by simpa using hn.symm
    exact ⟨_, _, _, rfl, rfl, rfl, Flat.nil rfl _ _ _, Flat.nil rfl _ _ _, Flat.nil rfl _ _ _⟩
  · intro a b x y hab hx hy
    have hm := List.mem_of_getElem? hx
    obtain rfl : x = .slice none 0 0 := by simpa using hm
    exact nil_apart rfl
/-- The row, read. -/
theorem Rf.reads {base : Nat} {W : World} {A : Option Addr} {c : Nat} {inner : List Value} {T : List PN} (h : Rf base W (.slice A T.length c) inner T) (hn : T.length ≤ 9223372036854775807) : Kd.C k50 W A T.length (outP T) := by
  refine ⟨by simp [outP], hn, fun hpos => ?_⟩
  obtain ⟨g, cap, hv, _, _⟩ := h.own.form hpos
  injection hv with hA _ hc
  subst hA
  subst hc
  refine ⟨_, rfl, fun j p hj => ?_⟩
  obtain ⟨n, hn2, rfl⟩ : ∃ n, T[j]? = some n ∧ p = ⟨n.st, castN n.nx, n.en⟩ := by
    unfold outP at hj
    rw [List.getElem?_map] at hj
    cases hT : T[j]? with
    | none => rw [hT] at hj; cases hj
    | some n =>
      rw [hT] at hj
      exact ⟨n, rfl, by simpa [castN] using hj.symm⟩
  obtain ⟨vS, vT, vE, h1, h2, h3, h4, h5, h6⟩ := h.at_ j n hn2
  obtain ⟨AS, cS, rfl⟩ := h4.slice
  obtain ⟨AT, cT, rfl⟩ := h5.slice
  obtain ⟨AE, cE, rfl⟩ := h6.slice
  refine ⟨[_, _, _], rfl, k50_mk W ⟨n.st, castN n.nx, n.en⟩ h4.reads.2.1 h4.reads.2.2 h5.reads.2.1 h5.reads.2.2 h6.reads.2.1 h6.reads.2.2, fun i v hv => h.own.cells (g := g) rfl _ v ?_⟩
  have hi3 : i < 3 := by simpa using (List.getElem?_eq_some_iff.1 hv).1
  match i, hi3, hv with
  | 0, _, hv => exact h1.trans (by simpa using hv)
  | 1, _, hv => exact h2.trans (by simpa using hv)
  | 2, _, hv => exact h3.trans (by simpa using hv)
/-- Which number a step leads to: the machine's loop. -/
theorem where_eval (st : List S53) (nx : List Nat) (en : List Int) (s : S53) (hl : nx.length = st.length) (hm : st.length ≤ 9223372036854775806) :
    ∃ k, quarryref23_where.f k st (castN nx) en s.f0 s.f1 s.f2 = some (match findS st s with | some m => ((nx.getD m 0 : Nat) : Int) | none => -1) := by
  have key : ∀ (n : Nat) (i : Int), 0 ≤ i → i ≤ st.length → st.length - i.toNat = n → (∀ j, j < i.toNat → ∀ y, st[j]? = some y → sameS y s = false) →
      quarryref23_where.l0 (n + 1) i st (castN nx) en s.f0 s.f1 s.f2 = some (match findS st s with | some m => ((nx.getD m 0 : Nat) : Int) | none => -1) := by
    intro n
    induction n with
    | zero =>
      intro i h0 h1 hn hb
      rw [quarryref23_where.l0, if_neg (by omega)]
      have hf : findS st s = none := by
        unfold findS
        rw [List.findIdx?_eq_none_iff]
        intro y hy
        obtain ⟨j, hj, hy2⟩ := List.mem_iff_getElem.1 hy
        exact hb j (by omega) y (by rw [List.getElem?_eq_getElem hj, hy2])
      rw [hf]
    | succ n ih =>
      intro i h0 h1 hn hb
      have hi : i.toNat < st.length := by omega
      rw [quarryref23_where.l0, if_pos (by omega), if_pos h0]
      have hy := rd_some st i.toNat hi
      rw [Int.toNat_of_nonneg h0] at hy
      have hsame : (((rd_T53 st i).f0 == s.f0) && (((rd_T53 st i).f1.toList == s.f1.toList) && ((rd_T53 st i).f2 == s.f2))) = sameS (rd_T53 st i) s := by
        rw [Bool.eq_iff_iff]
        simp [sameS]
      rw [hsame]
      cases hs : sameS (rd_T53 st i) s with
      | true =>
        rw [if_pos rfl, if_pos (by unfold castN; rw [List.length_map, hl]; omega)]
        have hf : findS st s = some i.toNat := by
          unfold findS
          rw [List.findIdx?_eq_some_iff_getElem]
          refine ⟨hi, ?_, fun j hj => ?_⟩
          · rw [List.getElem?_eq_getElem hi] at hy
            rw [Option.some.inj hy]
            exact hs
          · have := hb j hj _ (List.getElem?_eq_getElem (by omega))
            rw [this]
            decide
        rw [hf]
        unfold rd castN
        congr 1
        show (List.map (fun (x : Nat) => (x : Int)) nx).getD i.toNat 0 = ((nx.getD i.toNat 0 : Nat) : Int)
        rw [List.getD_eq_getElem?_getD, List.getD_eq_getElem?_getD, List.getElem?_map]
        cases nx[i.toNat]? <;> rfl
      | false =>
        rw [if_neg (by decide), w64_ (n := i + 1) (by omega) (by omega)]
        refine ih (i + 1) (by omega) (by omega) (by omega) (fun j hj y hy2 => ?_)
        by_cases he : j = i.toNat
        · subst he
          rw [hy] at hy2
          rw [← Option.some.inj hy2]
          exact hs
        · exact hb j (by omega) y hy2
  exact ⟨st.length + 1, key st.length 0 (by decide) (by omega) (by simp) (fun j hj => absurd hj (Nat.not_lt_zero j))⟩
end Go.Proofs.Ythlneooboiphdaa.PTrieBuilds
