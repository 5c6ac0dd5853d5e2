/- Joined texts of one law. -/
import Derived.Test.YthlneooboiphdaaTriePathsPathFormed
import Derived.Test.YthlneooboiphdaaPTriePathsx6
import Derived.Test.YthlneooboiphdaaEvt
import Derived.Test.YthlneooboiphdaaOne15
import Derived.Test.YthlneooboiphdaaWalk5
import Derived.Test.YthlneooboiphdaaPTriePathsx3
import Derived.Test.YthlneooboiphdaaPTriePathsx7
import Derived.Test.YthlneooboiphdaaIntRow
import Derived.Test.YthlneooboiphdaaPTriePathsx4
/- The document's Formed of a path, from some number of rounds on. -/
set_option linter.unusedVariables false
set_option linter.unusedSimpArgs false
namespace Go.Proofs.Ythlneooboiphdaa.PTriePaths
open Go.RowKit Go.Proofs.Ythlneooboiphdaa Go.Proofs.YthlneooboiphdaaW.PrintWords Go.Proofs.YthlneooboiphdaaW.PrintLast Go.Proofs.YthlneooboiphdaaW.PrintMore
/-! The document's Formed. -/
theorem esc_loop (s : ByteArray) (hs : s.size ≤ 1073741824) : ∀ (k : Nat) (i : Int) (out : List Int), 0 ≤ i → i ≤ s.size → s.size - i.toNat < k → (out.length : Int) ≤ 6 * i → ∃ t, quarryref15_Escape.l0 k s out i = some (t, 0) := by
  intro k
  induction k with
  | zero => intro i out _ _ h; omega
  | succ k ih =>
    intro i out h0 h1 h ho
    rw [quarryref15_Escape.l0]
    by_cases hi : i < (s.size : Int)
    · have hb := bt_range s i
      have hz := one15_size (bt s i)
      rw [if_pos hi, if_pos h0, quarryref15_one.f, if_pos hb]
      rw [Option.bind_some, if_pos (by omega), w64_ (n := i + 1) (by omega) (by omega)]
      exact ih (i + 1) _ (by omega) (by omega) (by omega) (by rw [List.length_append, bytesOf_length]; omega)
    · rw [if_neg hi]
      exact ⟨_, rfl⟩
theorem utf8_eval (s : ByteArray) (hs : s.size ≤ 1073741824) (k : Nat) (hk : s.size < k) : quarryref22_utf8.f k s = some (decide (badOf s < 0)) := by
  unfold quarryref22_utf8.f quarryref15_Escape.f quarryref05_Bad.f
  rw [if_pos hs]
  show Option.bind (if badOf s ≥ 0 then _ else _) _ = _
  by_cases hb : badOf s ≥ 0
  · rw [if_pos hb, decide_eq_false (by omega)]
    rfl
  · rw [if_neg hb, decide_eq_true (by omega)]
    obtain ⟨t, ht⟩ := esc_loop s hs k 0 [] (by decide) (by omega) (by simpa using hk) (by simp)
    rw [ht]
    rfl
theorem beq0 (a : Int) : (a == 0) = decide (a = 0) := by rw [Bool.eq_iff_iff]; simp
theorem step_eval (s : S53) (hs : s.f1.size ≤ 1073741824) (k : Nat) (hk : s.f1.size < k) : quarryref22_Step.f k s.f0 s.f1 s.f2 = some (okS s) := by
  unfold quarryref22_Step.f okS stepOk
  by_cases h1 : s.f0 = 1
  · rw [if_pos h1, if_pos h1]
    by_cases h2 : s.f2 = 0
    · rw [if_pos h2, utf8_eval _ hs k hk, decide_eq_true h2]
      rfl
    · rw [if_neg h2, decide_eq_false h2]
      rfl
  · rw [if_neg h1, if_neg h1]
    by_cases h2 : s.f0 = 2
    · rw [if_pos h2, if_pos h2]
      by_cases h3 : s.f1.toList = []
      · rw [if_pos h3, decide_eq_true h3]
        by_cases h4 : s.f2 ≥ 0
        · rw [if_pos h4, decide_eq_true (show 0 ≤ s.f2 from h4)]
          rfl
        · rw [if_neg h4, decide_eq_false (show ¬ 0 ≤ s.f2 from h4)]
          rfl
      · rw [if_neg h3, decide_eq_false h3]
        rfl
    · rw [if_neg h2, if_neg h2]
      by_cases h3 : s.f0 = 3
      · rw [if_pos h3, decide_eq_true h3]
        by_cases h4 : s.f1.toList = []
        · rw [if_pos h4, decide_eq_true h4, beq0]
          rfl
        · rw [if_neg h4, decide_eq_false h4]
          rfl
      · rw [if_neg h3, decide_eq_false h3]
        rfl
theorem formed_loop (p : List S53) (M : Nat) (hM : M ≤ 1073741824) (hp : p.length ≤ 9223372036854775806) (hm : ∀ s ∈ p, s.f1.size ≤ M) : ∀ (k : Nat) (i : Int), 0 ≤ i → i ≤ p.length → p.length - i.toNat < k → quarryref22_Formed.l0 (k + M + 1) p i = some ((p.drop i.toNat).all okS) := by
  intro k
  induction k with
  | zero => intro i _ _ h; omega
  | succ k ih =>
    intro i h0 h1 h
    rw [show k + 1 + M + 1 = (k + M + 1) + 1 by omega, quarryref22_Formed.l0]
    by_cases hi : i < (p.length : Int)
    · have hi2 : i.toNat < p.length := by omega
      have hr : rd_T53 p i = p[i.toNat]'hi2 := by
        unfold rd_T53
        rw [List.getD_eq_getElem?_getD, List.getElem?_eq_getElem hi2]
        rfl
      have hx := hm _ (List.getElem_mem hi2)
      rw [if_pos hi, if_pos h0, hr, step_eval _ (by omega) _ (by omega), List.drop_eq_getElem_cons hi2, List.all_cons]
      rw [Option.bind_some]
      cases hok : okS p[i.toNat] with
      | true =>
        rw [if_pos rfl, w64_ (n := i + 1) (by omega) (by omega), ih (i + 1) (by omega) (by omega) (by omega), show (i + 1).toNat = i.toNat + 1 by omega, Bool.true_and]
      | false =>
        rw [if_neg (by decide), Bool.false_and]
    · rw [if_neg hi, List.drop_of_length_le (by omega)]
      rfl
theorem formed_evt (p : List S53) (M : Nat) (hM : M ≤ 1073741824) (hp : p.length ≤ 9223372036854775806) (hm : ∀ s ∈ p, s.f1.size ≤ M) : Evt (fun k => quarryref22_Formed.f k p) (p.all okS) := by
  refine ⟨p.length + 1 + M + 1, fun k hk => ?_⟩
  obtain ⟨m, rfl⟩ : ∃ m, k = m + M + 1 := ⟨k - M - 1, by omega⟩
  exact formed_loop p M hM hp hm m 0 (by decide) (by omega) (by simp; omega)
end Go.Proofs.Ythlneooboiphdaa.PTriePaths

/- What the two programs ask of one node of a trie: the same. -/
set_option linter.unusedVariables false
set_option linter.unusedSimpArgs false
namespace Go.Proofs.Ythlneooboiphdaa.PTriePaths
open Go.RowKit Go.Proofs.Ythlneooboiphdaa Go.Proofs.YthlneooboiphdaaW.PrintWords Go.Proofs.YthlneooboiphdaaW.PrintLast Go.Proofs.YthlneooboiphdaaW.PrintMore
open Classical
def All (P : Int → Prop) (i n : Int) : Prop := ∀ m, i ≤ m → m < n → P m
theorem All.end_ {P : Int → Prop} {i n : Int} (h : ¬ i < n) : decide (All P i n) = true := decide_eq_true (fun m h1 h2 => by omega)
theorem All.bad {P : Int → Prop} {i n : Int} (h : i < n) (hp : ¬ P i) : decide (All P i n) = false := decide_eq_false (fun ha => hp (ha i (Int.le_refl _) h))
theorem All.step_iff {P : Int → Prop} {i n : Int} (h : i < n) (hp : P i) : All P i n ↔ All P (i + 1) n :=
  ⟨fun ha m h1 h2 => ha m (by omega) h2, fun ha m h1 h2 => by
    by_cases he : m = i
    · subst he; exact hp
    · exact ha m (by omega) h2⟩
theorem All.step {P : Int → Prop} {i n : Int} (h : i < n) (hp : P i) : decide (All P i n) = decide (All P (i + 1) n) := decide_eq_decide.2 (All.step_iff h hp)
def sameS (a b : S53) : Bool := a.f0 == b.f0 && (a.f1.toList == b.f1.toList && a.f2 == b.f2)
theorem sameS_symm (a b : S53) : sameS a b = sameS b a := by
  rw [Bool.eq_iff_iff]
  simp only [sameS, Bool.and_eq_true, beq_iff_eq]
  exact ⟨fun h => ⟨h.1.symm, h.2.1.symm, h.2.2.symm⟩, fun h => ⟨h.1.symm, h.2.1.symm, h.2.2.symm⟩⟩
theorem sameS_self (a : S53) : sameS a a = true := by simp [sameS]
def Rises (l : List Int) : Prop := All (fun m => rd l (m - 1) < rd l m) 1 l.length
theorem rises_go (l : List Int) (hl : (l.length : Int) ≤ 4611686018427387904) : ∀ (d : Nat) (i : Int), 1 ≤ i → (l.length : Int) ≤ i + d → Evt (fun k => trie_rises.l0 k l i) (decide (All (fun m => rd l (m - 1) < rd l m) i l.length)) := by
  intro d
  induction d with
  | zero =>
    intro i h1 h2
    have hi : ¬ i < (l.length : Int) := by omega
    rw [All.end_ hi]
    exact Evt.done (fun k => by rw [trie_rises.l0, if_neg hi])
  | succ d ih =>
    intro i h1 h2
    by_cases hi : i < (l.length : Int)
    · have hw : wrap64 (i - 1) = i - 1 := w64_ (by omega) (by omega)
      have hw2 : wrap64 (i + 1) = i + 1 := w64_ (by omega) (by omega)
      have p0 : 0 ≤ i := by omega
      have p1 : 0 ≤ i - 1 := by omega
      have p2 : i - 1 < (l.length : Int) := by omega
      by_cases hc : rd l i ≤ rd l (i - 1)
      · rw [All.bad hi (by show ¬ _ < _; omega)]
        exact Evt.done (fun k => by rw [trie_rises.l0, if_pos hi, if_pos p0, hw, if_pos p1, if_pos p2, if_pos hc])
      · rw [All.step hi (by show _ < _; omega)]
        exact Evt.step (fun k => trie_rises.l0 k l (i + 1)) (fun k => by rw [trie_rises.l0, if_pos hi, if_pos p0, hw, if_pos p1, if_pos p2, if_neg hc, hw2]) (ih (i + 1) (by omega) (by omega))
    · rw [All.end_ hi]
      exact Evt.done (fun k => by rw [trie_rises.l0, if_neg hi])
theorem rises2_go (s : List S53) (u l : List Int) (hl : (l.length : Int) ≤ 4611686018427387904) : ∀ (d : Nat) (i : Int), 1 ≤ i → (l.length : Int) ≤ i + d → Evt (fun k => quarryref23_node.l2 k i s u l) (decide (All (fun m => rd l (m - 1) < rd l m) i l.length)) := by
  intro d
  induction d with
  | zero =>
    intro i h1 h2
    have hi : ¬ i < (l.length : Int) := by omega
    rw [All.end_ hi]
    exact Evt.done (fun k => by rw [quarryref23_node.l2, if_neg hi])
  | succ d ih =>
    intro i h1 h2
    by_cases hi : i < (l.length : Int)
    · have hw : wrap64 (i - 1) = i - 1 := w64_ (by omega) (by omega)
      have hw2 : wrap64 (i + 1) = i + 1 := w64_ (by omega) (by omega)
      have p0 : 0 ≤ i := by omega
      have p1 : 0 ≤ i - 1 := by omega
      have p2 : i - 1 < (l.length : Int) := by omega
      by_cases hc : rd l i ≤ rd l (i - 1)
      · rw [All.bad hi (by show ¬ _ < _; omega)]
        exact Evt.done (fun k => by rw [quarryref23_node.l2, if_pos hi, if_pos p0, hw, if_pos p1, if_pos p2, if_pos hc])
      · rw [All.step hi (by show _ < _; omega)]
        exact Evt.step (fun k => quarryref23_node.l2 k (i + 1) s u l) (fun k => by rw [quarryref23_node.l2, if_pos hi, if_pos p0, hw, if_pos p1, if_pos p2, if_neg hc, hw2]) (ih (i + 1) (by omega) (by omega))
    · rw [All.end_ hi]
      exact Evt.done (fun k => by rw [quarryref23_node.l2, if_neg hi])
/-- No step ahead of this one is the same. -/
def Fresh (l : List S53) (j : Int) : Prop := All (fun q => sameS (rd_T53 l q) (rd_T53 l j) = false) 0 j
theorem index_go (l : List S53) (hl : (l.length : Int) ≤ 4611686018427387904) (j : Int) (h0 : 0 ≤ j) (hj : j < (l.length : Int)) : ∀ (d : Nat) (m : Int), 0 ≤ m → j = m + d → (∀ q, 0 ≤ q → q < m → sameS (rd_T53 l j) (rd_T53 l q) = false) →
    ∃ r : Int, Evt (fun k => api_Step_68.l0 k l l.length m (rd_T53 l j).f0 (rd_T53 l j).f1 (rd_T53 l j).f2) r ∧ (r < j ↔ ¬ Fresh l j) := by
  intro d
  induction d with
  | zero =>
    intro m hm hd hq
    have e : m = j := by omega
    subst e
    have hs := sameS_self (rd_T53 l m)
    unfold sameS at hs
    refine ⟨m, Evt.done (fun k => by rw [api_Step_68.l0, if_pos hj, if_pos hm, if_pos hj, if_pos hs]), ?_⟩
    constructor
    · intro h; omega
    · intro h
      exact absurd (fun q h1 h2 => by show sameS _ _ = false; rw [sameS_symm]; exact hq q h1 h2) h
  | succ d ih =>
    intro m hm hd hq
    have hml : m < (l.length : Int) := by omega
    have hw : wrap64 (m + 1) = m + 1 := w64_ (by omega) (by omega)
    by_cases hs : sameS (rd_T53 l j) (rd_T53 l m) = true
    · have hs2 := hs
      unfold sameS at hs2
      refine ⟨m, Evt.done (fun k => by rw [api_Step_68.l0, if_pos hml, if_pos hm, if_pos hml, if_pos hs2]), ?_⟩
      constructor
      · intro _ hf
        have this : sameS (rd_T53 l m) (rd_T53 l j) = false := hf m hm (by omega)
        rw [sameS_symm, hs] at this
        cases this
      · intro _; omega
    · have hs2 := hs
      unfold sameS at hs2
      obtain ⟨r, hr, hi⟩ := ih (m + 1) (by omega) (by omega) (fun q h1 h2 => by
        by_cases he : q = m
        · subst he; simpa using hs
        · exact hq q h1 (by omega))
      exact ⟨r, Evt.step (fun k => api_Step_68.l0 k l l.length (m + 1) (rd_T53 l j).f0 (rd_T53 l j).f1 (rd_T53 l j).f2) (fun k => by rw [api_Step_68.l0, if_pos hml, if_pos hm, if_pos hml, if_neg hs2, hw]) hr, hi⟩
/-- What a step of a node is. -/
def StepR (n i : Int) (s : List S53) (u : List Int) (j : Int) : Prop := i < rd u j ∧ rd u j < n ∧ Fresh s j
theorem right_go (t : List S50) (i : Int) (s : List S53) (u es : List Int) (hl : (s.length : Int) ≤ 4611686018427387904) (hu : s.length = u.length) : ∀ (d : Nat) (j : Int), 0 ≤ j → (s.length : Int) ≤ j + d →
    Evt (fun k => trie_right.l0 k t i s s.length j s u es) (decide (All (StepR t.length i s u) j s.length)) := by
  intro d
  induction d with
  | zero =>
    intro j h1 h2
    have hi : ¬ j < (s.length : Int) := by omega
    rw [All.end_ hi]
    exact Evt.done (fun k => by rw [trie_right.l0, if_neg hi])
  | succ d ih =>
    intro j h1 h2
    by_cases hi : j < (s.length : Int)
    · have hw2 : wrap64 (j + 1) = j + 1 := w64_ (by omega) (by omega)
      have hi2 : j < (u.length : Int) := by omega
      by_cases c1 : rd u j ≤ i
      · rw [All.bad hi (fun h => by have := h.1; omega)]
        exact Evt.done (fun k => by rw [trie_right.l0, if_pos hi, if_pos h1, if_pos hi, if_pos hi2, if_pos c1])
      · by_cases c2 : rd u j ≥ (t.length : Int)
        · rw [All.bad hi (fun h => by have := h.2.1; omega)]
          exact Evt.done (fun k => by rw [trie_right.l0, if_pos hi, if_pos h1, if_pos hi, if_pos hi2, if_neg c1, if_pos c2])
        · obtain ⟨r, hr, hri⟩ := index_go s hl j h1 hi j.toNat 0 (by decide) (by omega) (fun q _ _ => by omega)
          have hr2 : Evt (fun k => api_Step_68.f k s (rd_T53 s j).f0 (rd_T53 s j).f1 (rd_T53 s j).f2) r := hr
          by_cases c3 : r < j
          · rw [All.bad hi (fun h => (hri.1 c3) h.2.2)]
            exact Evt.step _ (fun k => by rw [trie_right.l0, if_pos hi, if_pos h1, if_pos hi, if_pos hi2, if_neg c1, if_neg c2]) (Evt.bind hr2 (Evt.eq _ (fun k => by rw [if_pos c3]) Evt.const))
          · rw [All.step hi ⟨by omega, by omega, Classical.byContradiction (fun h => c3 (hri.2 h))⟩]
            exact Evt.step _ (fun k => by rw [trie_right.l0, if_pos hi, if_pos h1, if_pos hi, if_pos hi2, if_neg c1, if_neg c2]) (Evt.bind hr2 (Evt.eq (fun k => trie_right.l0 k t i s s.length (j + 1) s u es) (fun k => by rw [if_neg c3, hw2]) (ih (j + 1) (by omega) (by omega))))
    · rw [All.end_ hi]
      exact Evt.done (fun k => by rw [trie_right.l0, if_neg hi])
/-- What a node is. -/
def NodeR (t : List S50) (i : Int) : Prop :=
  (rd_T50 t i).f0.length = (rd_T50 t i).f1.length ∧ Rises (rd_T50 t i).f2 ∧ (rd_T50 t i).f0.all okS = true ∧ All (StepR t.length i (rd_T50 t i).f0 (rd_T50 t i).f1) 0 (rd_T50 t i).f0.length
/-- A node of a size that is gone through here. -/
def SmallN (x : S50) : Prop := x.f0.length ≤ 1073741824 ∧ x.f1.length ≤ 1073741824 ∧ x.f2.length ≤ 1073741824 ∧ ∀ s ∈ x.f0, s.f1.size ≤ 1073741824
theorem right_evt (t : List S50) (i : Int) (h0 : 0 ≤ i) (h1 : i < (t.length : Int)) (hs : SmallN (rd_T50 t i)) : Evt (fun k => trie_right.f k t i) (decide (NodeR t i)) := by
  obtain ⟨s0, s1, s2, s3⟩ := hs
  have hpf : path_Formed.f (rd_T50 t i).f0 = some ((rd_T50 t i).f0.all okS) := by
    unfold path_Formed.f
    rw [if_pos (show ∀ s ∈ (rd_T50 t i).f0, smallS s from fun s hs => Nat.le_trans (s3 s hs) (by decide))]
  have hr : Evt (fun k => trie_rises.f k (rd_T50 t i).f2) (decide (Rises (rd_T50 t i).f2)) := rises_go _ (by omega) (rd_T50 t i).f2.length 1 (by decide) (by omega)
  by_cases c1 : ((rd_T50 t i).f0.length : Int) = ((rd_T50 t i).f1.length : Int)
  · by_cases c2 : Rises (rd_T50 t i).f2
    · rw [decide_eq_true c2] at hr
      cases c3 : (rd_T50 t i).f0.all okS with
      | true =>
        rw [c3] at hpf
        have e : decide (NodeR t i) = decide (All (StepR t.length i (rd_T50 t i).f0 (rd_T50 t i).f1) 0 (rd_T50 t i).f0.length) := decide_eq_decide.2 ⟨fun h => h.2.2.2, fun h => ⟨by omega, c2, c3, h⟩⟩
        rw [e]
        refine Evt.eq _ (fun k => by rw [trie_right.f, if_pos h0, if_pos h1, if_pos c1]) (Evt.bind hr ?_)
        refine Evt.eq (fun k => trie_right.j0 k t i (!true) (rd_T50 t i).f0 (rd_T50 t i).f1 (rd_T50 t i).f2) (fun k => by rw [if_pos rfl, hpf, Option.bind_some]) ?_
        refine Evt.step _ (fun k => by rw [trie_right.j0, if_neg (by decide)]) (right_go t i _ _ _ (by omega) (by omega) (rd_T50 t i).f0.length 0 (by decide) (by omega))
      | false =>
        rw [c3] at hpf
        rw [decide_eq_false (show ¬ NodeR t i from fun h => by rw [h.2.2.1] at c3; cases c3)]
        refine Evt.eq _ (fun k => by rw [trie_right.f, if_pos h0, if_pos h1, if_pos c1]) (Evt.bind hr ?_)
        refine Evt.eq (fun k => trie_right.j0 k t i (!false) (rd_T50 t i).f0 (rd_T50 t i).f1 (rd_T50 t i).f2) (fun k => by rw [if_pos rfl, hpf, Option.bind_some]) ?_
        exact Evt.done (fun k => by rw [trie_right.j0, if_pos (by decide)])
    · rw [decide_eq_false c2] at hr
      rw [decide_eq_false (show ¬ NodeR t i from fun h => c2 h.2.1)]
      refine Evt.eq _ (fun k => by rw [trie_right.f, if_pos h0, if_pos h1, if_pos c1]) (Evt.bind hr ?_)
      refine Evt.eq (fun k => trie_right.j0 k t i true (rd_T50 t i).f0 (rd_T50 t i).f1 (rd_T50 t i).f2) (fun k => by rw [if_neg (by decide)]) ?_
      exact Evt.done (fun k => by rw [trie_right.j0, if_pos rfl])
  · rw [decide_eq_false (show ¬ NodeR t i from fun h => by have := h.1; omega)]
    refine Evt.eq (fun k => trie_right.j0 k t i true (rd_T50 t i).f0 (rd_T50 t i).f1 (rd_T50 t i).f2) (fun k => by rw [trie_right.f, if_pos h0, if_pos h1, if_neg c1]) ?_
    exact Evt.done (fun k => by rw [trie_right.j0, if_pos rfl])
/-! The document's. -/
theorem dup_go (t : List S50) (i : Int) (s : List S53) (u es : List Int) (hl : (s.length : Int) ≤ 4611686018427387904) (j : Int) (h0 : 0 ≤ j) (hj : j < (s.length : Int)) (v : Bool) (hv : Evt (fun k => quarryref23_node.l0 k t i (j + 1) s u es) v) : ∀ (d : Nat) (m : Int), 0 ≤ m → j = m + d →
    Evt (fun k => quarryref23_node.l1 k t i j m s u es) (decide (All (fun q => sameS (rd_T53 s q) (rd_T53 s j) = false) m j) && v) := by
  have hwj : wrap64 (j + 1) = j + 1 := w64_ (by omega) (by omega)
  intro d
  induction d with
  | zero =>
    intro m hm hd
    have hi : ¬ m < j := by omega
    rw [All.end_ hi, Bool.true_and]
    exact Evt.step _ (fun k => by rw [quarryref23_node.l1, if_neg hi, hwj]) hv
  | succ d ih =>
    intro m hm hd
    have hi : m < j := by omega
    have hml : m < (s.length : Int) := by omega
    have hw : wrap64 (m + 1) = m + 1 := w64_ (by omega) (by omega)
    by_cases hs : sameS (rd_T53 s m) (rd_T53 s j) = true
    · rw [All.bad hi (fun h => by have h2 : sameS (rd_T53 s m) (rd_T53 s j) = false := h; rw [hs] at h2; cases h2), Bool.false_and]
      unfold sameS at hs
      exact Evt.done (fun k => by rw [quarryref23_node.l1, if_pos hi, if_pos hm, if_pos hml, if_pos h0, if_pos hj, if_pos hs])
    · rw [All.step hi (by show sameS _ _ = false; simpa using hs)]
      unfold sameS at hs
      exact Evt.step _ (fun k => by rw [quarryref23_node.l1, if_pos hi, if_pos hm, if_pos hml, if_pos h0, if_pos hj, if_neg hs, hw]) (ih (m + 1) (by omega) (by omega))
def StepR2 (n i : Int) (s : List S53) (u : List Int) (j : Int) : Prop := okS (rd_T53 s j) = true ∧ StepR n i s u j
theorem node_go (t : List S50) (i : Int) (s : List S53) (u es : List Int) (hl : (s.length : Int) ≤ 1073741824) (hu : s.length = u.length) (he : (es.length : Int) ≤ 1073741824) (hsm : ∀ x ∈ s, x.f1.size ≤ 1073741824) : ∀ (d : Nat) (j : Int), 0 ≤ j → (s.length : Int) ≤ j + d →
    Evt (fun k => quarryref23_node.l0 k t i j s u es) (decide (All (StepR2 t.length i s u) j s.length) && decide (Rises es)) := by
  have fin : Evt (fun k => quarryref23_node.l2 k 1 s u es) (decide (Rises es)) := rises2_go s u es (by omega) es.length 1 (by decide) (by omega)
  intro d
  induction d with
  | zero =>
    intro j h1 h2
    have hi : ¬ j < (s.length : Int) := by omega
    rw [All.end_ hi, Bool.true_and]
    exact Evt.step _ (fun k => by rw [quarryref23_node.l0, if_neg hi]) fin
  | succ d ih =>
    intro j h1 h2
    by_cases hi : j < (s.length : Int)
    · have hi2 : j < (u.length : Int) := by omega
      have hmem := rd_mem s j h1 hi
      have hf : Evt (fun k => quarryref22_Formed.f k [rd_T53 s j]) (okS (rd_T53 s j)) := by
        refine (formed_evt [rd_T53 s j] 1073741824 (Nat.le_refl _) (by simp) (fun x hx => ?_)).cast (by simp)
        rw [List.mem_singleton.1 hx]
        exact hsm _ hmem
      cases c0 : okS (rd_T53 s j) with
      | false =>
        rw [c0] at hf
        rw [All.bad hi (fun h => by rw [h.1] at c0; cases c0), Bool.false_and]
        refine Evt.step _ (fun k => by rw [quarryref23_node.l0, if_pos hi, if_pos h1]) (Evt.bind hf ?_)
        exact Evt.eq (fun k => quarryref23_node.j1 k t i j true s u es) (fun k => by rw [if_neg (by decide)]) (Evt.done (fun k => by rw [quarryref23_node.j1, if_pos rfl]))
      | true =>
        rw [c0] at hf
        by_cases c1 : rd u j ≤ i
        · rw [All.bad hi (fun h => by have := h.2.1; omega), Bool.false_and]
          refine Evt.step _ (fun k => by rw [quarryref23_node.l0, if_pos hi, if_pos h1]) (Evt.bind hf ?_)
          exact Evt.eq (fun k => quarryref23_node.j1 k t i j true s u es) (fun k => by rw [if_pos rfl, if_pos hi2, if_pos c1]) (Evt.done (fun k => by rw [quarryref23_node.j1, if_pos rfl]))
        · by_cases c2 : rd u j ≥ (t.length : Int)
          · rw [All.bad hi (fun h => by have := h.2.2.1; omega), Bool.false_and]
            refine Evt.step _ (fun k => by rw [quarryref23_node.l0, if_pos hi, if_pos h1]) (Evt.bind hf ?_)
            exact Evt.eq (fun k => quarryref23_node.j1 k t i j true s u es) (fun k => by rw [if_pos rfl, if_pos hi2, if_neg c1, decide_eq_true c2]) (Evt.done (fun k => by rw [quarryref23_node.j1, if_pos rfl]))
          · have hd := dup_go t i s u es (by omega) j h1 hi _ (ih (j + 1) (by omega) (by omega)) j.toNat 0 (by decide) (by omega)
            refine Evt.step _ (fun k => by rw [quarryref23_node.l0, if_pos hi, if_pos h1]) (Evt.bind hf ?_)
            refine Evt.eq (fun k => quarryref23_node.j1 k t i j false s u es) (fun k => by rw [if_pos rfl, if_pos hi2, if_neg c1, decide_eq_false c2]) ?_
            refine Evt.step (fun k => quarryref23_node.l1 k t i j 0 s u es) (fun k => by rw [quarryref23_node.j1, if_neg (by decide)]) (hd.cast ?_)
            by_cases c3 : Fresh s j
            · rw [decide_eq_true (show All (fun q => sameS (rd_T53 s q) (rd_T53 s j) = false) 0 j from c3), Bool.true_and, All.step hi ⟨c0, by omega, by omega, c3⟩]
            · rw [decide_eq_false (show ¬ All (fun q => sameS (rd_T53 s q) (rd_T53 s j) = false) 0 j from c3), Bool.false_and, All.bad hi (fun h => c3 h.2.2.2), Bool.false_and]
    · rw [All.end_ hi, Bool.true_and]
      exact Evt.step _ (fun k => by rw [quarryref23_node.l0, if_neg hi]) fin
theorem all_rd {P : S53 → Bool} (s : List S53) : s.all P = true ↔ All (fun j => P (rd_T53 s j) = true) 0 s.length := by
  rw [List.all_eq_true]
  constructor
  · intro h j h0 h1
    exact h _ (rd_mem s j h0 h1)
  · intro h x hx
    obtain ⟨m, hm, rfl⟩ := List.getElem_of_mem hx
    have this : P (rd_T53 s (m : Int)) = true := h (m : Int) (by omega) (by omega)
    unfold rd_T53 at this
    rw [Int.toNat_natCast, List.getD_eq_getElem?_getD, List.getElem?_eq_getElem hm] at this
    exact this
theorem node_evt (t : List S50) (i : Int) (h0 : 0 ≤ i) (h1 : i < (t.length : Int)) (hs : SmallN (rd_T50 t i)) : Evt (fun k => quarryref23_node.f k t i) (decide (NodeR t i)) := by
  obtain ⟨s0, s1, s2, s3⟩ := hs
  by_cases c1 : ((rd_T50 t i).f0.length : Int) = ((rd_T50 t i).f1.length : Int)
  · refine Evt.eq _ (fun k => by rw [quarryref23_node.f, if_pos h0, if_pos h1, if_pos c1]) ((node_go t i _ _ _ (by omega) (by omega) (by omega) s3 (rd_T50 t i).f0.length 0 (by decide) (by omega)).cast ?_)
    rw [Bool.eq_iff_iff, Bool.and_eq_true, decide_eq_true_iff, decide_eq_true_iff, decide_eq_true_iff]
    constructor
    · rintro ⟨ha, hr⟩
      exact ⟨by omega, hr, (all_rd _).2 (fun j a b => (ha j a b).1), fun j a b => (ha j a b).2⟩
    · rintro ⟨_, hr, ho, ha⟩
      exact ⟨fun j a b => ⟨(all_rd _).1 ho j a b, ha j a b⟩, hr⟩
  · rw [decide_eq_false (show ¬ NodeR t i from fun h => by have := h.1; omega)]
    exact Evt.eq _ (fun k => by rw [quarryref23_node.f, if_pos h0, if_pos h1, if_neg c1]) Evt.const
end Go.Proofs.Ythlneooboiphdaa.PTriePaths

/- Formed of a trie: what the program answers. -/
set_option linter.unusedVariables false
set_option linter.unusedSimpArgs false
namespace Go.Proofs.Ythlneooboiphdaa.PTriePaths
open Go.RowKit Go.Proofs.Ythlneooboiphdaa Go.Proofs.YthlneooboiphdaaW.PrintWords Go.Proofs.YthlneooboiphdaaW.PrintLast Go.Proofs.YthlneooboiphdaaW.PrintMore
open Classical
def toS (t : List S50) (i : Nat) : List Int := (t.take i).flatMap (fun x => x.f1)
def endS (t : List S50) (i : Nat) : List Int := (t.take i).flatMap (fun x => x.f2)
theorem rd_node (t : List S50) (i : Nat) (h : i < t.length) : t[i] = rd_T50 t (i : Int) := by
  unfold rd_T50
  rw [Int.toNat_natCast, List.getD_eq_getElem?_getD, List.getElem?_eq_getElem h]
  rfl
theorem node_mem (t : List S50) (i : Int) (h0 : 0 ≤ i) (h : i < (t.length : Int)) : rd_T50 t i ∈ t := by
  obtain ⟨m, rfl⟩ := Int.eq_ofNat_of_zero_le h0
  rw [show ((m : Nat) : Int) = (m : Int) from rfl, ← rd_node t m (by omega)]
  exact List.getElem_mem _
theorem toS_succ (t : List S50) (i : Nat) (h : i < t.length) : toS t (i + 1) = toS t i ++ (rd_T50 t (i : Int)).f1 := by
  unfold toS
  rw [List.take_succ_eq_append_getElem h, List.flatMap_append, rd_node t i h]
  simp
theorem endS_succ (t : List S50) (i : Nat) (h : i < t.length) : endS t (i + 1) = endS t i ++ (rd_T50 t (i : Int)).f2 := by
  unfold endS
  rw [List.take_succ_eq_append_getElem h, List.flatMap_append, rd_node t i h]
  simp
theorem toS_pre (t : List S50) (i : Nat) (h : i < t.length) : ∃ r, toS t t.length = (toS t i ++ (rd_T50 t (i : Int)).f1) ++ r := by
  rw [← toS_succ t i h]
  refine ⟨(t.drop (i + 1)).flatMap (fun x => x.f1), ?_⟩
  unfold toS
  rw [← List.flatMap_append, List.take_append_drop, List.take_length]
theorem endS_le (t : List S50) (i : Nat) : (endS t i).length ≤ (endS t t.length).length := by
  have e : endS t t.length = endS t i ++ (t.drop i).flatMap (fun x => x.f2) := by
    unfold endS
    rw [← List.flatMap_append, List.take_append_drop, List.take_length]
  rw [e, List.length_append]
  omega
theorem toS_le (t : List S50) (i : Nat) : (toS t i).length ≤ (toS t t.length).length := by
  have e : toS t t.length = toS t i ++ (t.drop i).flatMap (fun x => x.f1) := by
    unfold toS
    rw [← List.flatMap_append, List.take_append_drop, List.take_length]
  rw [e, List.length_append]
  omega
theorem toS_zero (t : List S50) : toS t 0 = [] := rfl
theorem endS_zero (t : List S50) : endS t 0 = [] := rfl
/-- The numbers that are marked. -/
def Marks (r : List Bool) (n : Nat) (T : List Int) : Prop := r.length = n ∧ ∀ m : Int, 0 ≤ m → m < n → (rdOf false r m = true ↔ m ∈ T)
theorem marks_nil (n : Nat) : Marks (List.replicate n false) n [] := by
  refine ⟨List.length_replicate, fun m h0 h1 => ?_⟩
  unfold rdOf
  rw [List.getD_eq_getElem?_getD, List.getElem?_replicate, if_pos (by omega)]
  simp
theorem marks_set {r : List Bool} {n : Nat} {T : List Int} (h : Marks r n T) {v : Int} (h0 : 0 ≤ v) (h1 : v < n) : Marks (r.set v.toNat true) n (T ++ [v]) := by
  refine ⟨by rw [List.length_set]; exact h.1, fun m m0 m1 => ?_⟩
  have hl := h.1
  have hm := h.2 m m0 m1
  unfold rdOf at hm ⊢
  rw [List.getD_eq_getElem?_getD] at hm
  rw [List.getD_eq_getElem?_getD, List.getElem?_set, List.mem_append, List.mem_singleton]
  by_cases e : m = v
  · subst e
    rw [if_pos rfl, if_pos (by omega)]
    exact ⟨fun _ => .inr rfl, fun _ => rfl⟩
  · rw [if_neg (by omega), hm]
    exact ⟨fun h => .inl h, fun h => h.elim id (fun h => absurd h e)⟩
theorem marks_all {r : List Bool} {n : Nat} {T : List Int} (h : Marks r n T) : false ∈ r.drop 1 ↔ ¬ ∀ m : Int, 1 ≤ m → m < n → m ∈ T := by
  have hl := h.1
  constructor
  · intro hf ha
    obtain ⟨k, hk, e⟩ := List.getElem_of_mem hf
    rw [List.length_drop] at hk
    have hm := (h.2 ((1 + k : Nat) : Int) (by omega) (by omega)).2 (ha _ (by omega) (by omega))
    rw [List.getElem_drop] at e
    unfold rdOf at hm
    rw [Int.toNat_natCast, List.getD_eq_getElem?_getD, List.getElem?_eq_getElem (by omega), e] at hm
    cases hm
  · intro ha
    refine Classical.byContradiction (fun hf => ha (fun m m0 m1 => (h.2 m (by omega) m1).1 ?_))
    unfold rdOf
    rw [List.getD_eq_getElem?_getD, List.getElem?_eq_getElem (show m.toNat < r.length by omega)]
    show r[m.toNat]'_ = true
    cases e : r[m.toNat]'(show m.toNat < r.length by omega) with
    | true => rfl
    | false =>
      refine absurd ?_ hf
      rw [← e]
      have : r[m.toNat]'(show m.toNat < r.length by omega) = (r.drop 1)[m.toNat - 1]'(by rw [List.length_drop]; omega) := by
        rw [List.getElem_drop]
        congr 1
        omega
      rw [this]
      exact List.getElem_mem _
def FormedQ (t : List S50) : Prop :=
  t.length ≠ 0 ∧ (endS t t.length).length ≤ 256 ∧ All (NodeR t) 0 t.length ∧ (toS t t.length).Nodup ∧ (∀ m : Int, 1 ≤ m → m < (t.length : Nat) → m ∈ toS t t.length) ∧ (∀ k : Int, 0 ≤ k → k < (endS t t.length).length → k = rd (sorted_ (endS t t.length)) k)
def SmallT (t : List S50) : Prop := t.length ≤ 1073741824 ∧ (∀ x ∈ t, SmallN x) ∧ (endS t t.length).length ≤ 1073741824 ∧ (toS t t.length).length ≤ 1073741824
theorem l2_go (s : List Int) (hl : (s.length : Int) ≤ 1073741824) : ∀ (d : Nat) (i : Int), 0 ≤ i → (s.length : Int) ≤ i + d → Evt (fun k => trie_Formed.l2 k s s.length i) (decide (All (fun k => k = rd s k) i s.length)) := by
  intro d
  induction d with
  | zero =>
    intro i h1 h2
    have hi : ¬ i < (s.length : Int) := by omega
    rw [All.end_ hi]
    exact Evt.done (fun k => by rw [trie_Formed.l2, if_neg hi])
  | succ d ih =>
    intro i h1 h2
    by_cases hi : i < (s.length : Int)
    · have hw2 : wrap64 (i + 1) = i + 1 := w64_ (by omega) (by omega)
      by_cases c : i = rd s i
      · rw [All.step hi c]
        exact Evt.step _ (fun k => by rw [trie_Formed.l2, if_pos hi, if_pos h1, if_pos hi, if_pos c, hw2]) (ih (i + 1) (by omega) (by omega))
      · rw [All.bad hi c]
        exact Evt.done (fun k => by rw [trie_Formed.l2, if_pos hi, if_pos h1, if_pos hi, if_neg c])
    · rw [All.end_ hi]
      exact Evt.done (fun k => by rw [trie_Formed.l2, if_neg hi])
theorem j2_evt (E : List Int) (hl : E.length ≤ 1073741824) : Evt (fun k => trie_Formed.j2 k E false) (decide (∀ k : Int, 0 ≤ k → k < E.length → k = rd (sorted_ E) k)) := by
  have hs : slices_Sort.f E = some (sorted_ E) := by
    unfold slices_Sort.f
    rw [if_pos (by omega)]
  have h := l2_go (sorted_ E) (by rw [sorted_length]; omega) E.length 0 (by decide) (by rw [sorted_length]; omega)
  rw [sorted_length] at h
  exact Evt.step _ (fun k => by rw [trie_Formed.j2, if_neg (by decide), hs, Option.bind_some]) h
theorem j2_true (E : List Int) : Evt (fun k => trie_Formed.j2 k E true) false := Evt.done (fun k => by rw [trie_Formed.j2, if_pos rfl])
theorem index_b (l : List Bool) (hl : (l.length : Int) ≤ 1073741824) : ∀ (d : Nat) (m : Int), 0 ≤ m → (l.length : Int) ≤ m + d → (∀ q : Int, 0 ≤ q → q < m → q < l.length → rdOf false l q = true) →
    ∃ r : Int, Evt (fun k => slices_Index_bool_bool.l0 k l false l.length m) r ∧ (r ≥ 0 ↔ false ∈ l) := by
  have fin : ∀ m : Int, ¬ m < (l.length : Int) → (∀ q : Int, 0 ≤ q → q < m → q < l.length → rdOf false l q = true) → ∃ r : Int, Evt (fun k => slices_Index_bool_bool.l0 k l false l.length m) r ∧ (r ≥ 0 ↔ false ∈ l) := by
    intro m hm hq
    refine ⟨-1, Evt.done (fun k => by rw [slices_Index_bool_bool.l0, if_neg hm]), fun h => absurd h (by decide), fun h => ?_⟩
    obtain ⟨q, h1, h2⟩ := List.getElem_of_mem h
    have := hq (q : Int) (by omega) (by omega) (by omega)
    unfold rdOf at this
    rw [Int.toNat_natCast, List.getD_eq_getElem?_getD, List.getElem?_eq_getElem h1, h2] at this
    cases this
  intro d
  induction d with
  | zero =>
    intro m h0 h1 hq
    exact fin m (by omega) hq
  | succ d ih =>
    intro m h0 h1 hq
    by_cases hm : m < (l.length : Int)
    · have hw2 : wrap64 (m + 1) = m + 1 := w64_ (by omega) (by omega)
      cases e : rdOf false l m with
      | false =>
        refine ⟨m, Evt.done (fun k => by rw [slices_Index_bool_bool.l0, if_pos hm, if_pos h0, if_pos hm, e, if_pos (by decide)]), fun _ => ?_, fun _ => h0⟩
        unfold rdOf at e
        rw [List.getD_eq_getElem?_getD, List.getElem?_eq_getElem (show m.toNat < l.length by omega)] at e
        rw [← show l[m.toNat]'(show m.toNat < l.length by omega) = false from e]
        exact List.getElem_mem _
      | true =>
        obtain ⟨r, hr, hi⟩ := ih (m + 1) (by omega) (by omega) (fun q a b c => by
          by_cases he : q = m
          · rw [he, e]
          · exact hq q a (by omega) c)
        exact ⟨r, Evt.step _ (fun k => by rw [slices_Index_bool_bool.l0, if_pos hm, if_pos h0, if_pos hm, e, if_neg (by decide), hw2]) hr, hi⟩
    · exact fin m hm hq
theorem contains_evt (l : List Bool) (hl : (l.length : Int) ≤ 1073741824) : Evt (fun k => slices_Contains_bool_bool.f k l false) (decide (false ∈ l)) := by
  obtain ⟨r, hr, hi⟩ := index_b l hl l.length 0 (by decide) (by omega) (fun q a b => by omega)
  have hr2 : Evt (fun k => slices_Index_bool_bool.f k l false) r := hr
  rw [show decide (false ∈ l) = decide (r ≥ 0) from decide_eq_decide.2 hi.symm]
  exact Evt.bind hr2 Evt.const
section
variable (t : List S50) (hs : SmallT t)
include hs
theorem l1_go (i : Nat) (hi : i < t.length) (hN : NodeR t i)
    (next : ∀ r, Marks r t.length (toS t (i + 1)) → (toS t (i + 1)).Nodup → Evt (fun k => trie_Formed.l0 k t r (endS t (i + 1)) t.length ((i + 1 : Nat) : Int)) (decide (FormedQ t))) :
    ∀ (d j : Nat) (r : List Bool), (rd_T50 t (i : Int)).f1.length = j + d → Marks r t.length (toS t i ++ (rd_T50 t (i : Int)).f1.take j) → (toS t i ++ (rd_T50 t (i : Int)).f1.take j).Nodup →
    Evt (fun k => trie_Formed.l1 k t r (endS t i) i t.length i (rd_T50 t (i : Int)).f1 (rd_T50 t (i : Int)).f1.length j) (decide (FormedQ t)) := by
  obtain ⟨s0, s1, s2⟩ := hs
  have hx := s1 _ (node_mem t i (by omega) (by omega))
  have hx1 := hx.2.1
  intro d
  induction d with
  | zero =>
    intro j r hj hm hn
    have hjl : ¬ ((j : Nat) : Int) < ((rd_T50 t (i : Int)).f1.length : Int) := by omega
    rw [List.take_of_length_le (by omega), ← toS_succ t i hi] at hm hn
    have h1 := next r hm hn
    have hle := endS_le t (i + 1)
    rw [endS_succ t i hi] at h1 hle
    rw [List.length_append] at hle
    have p0 : (0 : Int) ≤ (i : Int) := by omega
    have p1 : (i : Int) < (t.length : Int) := by omega
    have hw : wrap64 ((i : Int) + 1) = ((i + 1 : Nat) : Int) := by rw [w64_ (by omega) (by omega)]; omega
    exact Evt.step _ (fun k => by rw [trie_Formed.l1, if_neg hjl, if_pos p0, if_pos p1, if_pos (by omega), hw]) h1
  | succ d ih =>
    intro j r hj hm hn
    have hjl : ((j : Nat) : Int) < ((rd_T50 t (i : Int)).f1.length : Int) := by omega
    have hjn : j < (rd_T50 t (i : Int)).f1.length := by omega
    have p0 : (0 : Int) ≤ (j : Int) := by omega
    have hv := hN.2.2.2 (j : Int) p0 (by have := hN.1; omega)
    have hget : rd (rd_T50 t (i : Int)).f1 (j : Int) = (rd_T50 t (i : Int)).f1[j] := by
      unfold rd
      rw [Int.toNat_natCast, List.getD_eq_getElem?_getD, List.getElem?_eq_getElem hjn]
      rfl
    have v0 : 0 ≤ rd (rd_T50 t (i : Int)).f1 (j : Int) := by have := hv.1; omega
    have v1 : rd (rd_T50 t (i : Int)).f1 (j : Int) < (r.length : Int) := by rw [hm.1]; exact hv.2.1
    have v2 : rd (rd_T50 t (i : Int)).f1 (j : Int) < (t.length : Nat) := hv.2.1
    have hw : wrap64 ((j : Int) + 1) = ((j + 1 : Nat) : Int) := by rw [w64_ (by omega) (by omega)]; omega
    have htk : toS t i ++ (rd_T50 t (i : Int)).f1.take (j + 1) = (toS t i ++ (rd_T50 t (i : Int)).f1.take j) ++ [rd (rd_T50 t (i : Int)).f1 (j : Int)] := by
      rw [List.take_succ_eq_append_getElem hjn, List.append_assoc, hget]
    cases e : rdOf false r (rd (rd_T50 t (i : Int)).f1 (j : Int)) with
    | true =>
      have hin := (hm.2 _ v0 v2).1 e
      have hnot : ¬ FormedQ t := by
        intro hF
        obtain ⟨q, hq⟩ := toS_pre t i hi
        have hnd := hF.2.2.2.1
        rw [hq] at hnd
        have e2 : toS t i ++ (rd_T50 t (i : Int)).f1 = (toS t i ++ (rd_T50 t (i : Int)).f1.take (j + 1)) ++ (rd_T50 t (i : Int)).f1.drop (j + 1) := by
          rw [List.append_assoc, List.take_append_drop]
        have h3 := (List.nodup_append.1 hnd).1
        rw [e2] at h3
        have h4 := (List.nodup_append.1 h3).1
        rw [htk] at h4
        exact (List.nodup_append.1 h4).2.2 _ hin _ (List.mem_singleton.2 rfl) rfl
      rw [decide_eq_false hnot]
      exact Evt.done (fun k => by rw [trie_Formed.l1, if_pos hjl, if_pos p0, if_pos hjl, if_pos v0, if_pos v1, if_pos e])
    | false =>
      have hout : rd (rd_T50 t (i : Int)).f1 (j : Int) ∉ toS t i ++ (rd_T50 t (i : Int)).f1.take j := fun h => by
        have := (hm.2 _ v0 v2).2 h
        rw [e] at this
        cases this
      have h2 := ih (j + 1) (r.set (rd (rd_T50 t (i : Int)).f1 (j : Int)).toNat true) (by omega) (by rw [htk]; exact marks_set hm v0 v2)
        (by
          rw [htk]
          exact List.nodup_append.2 ⟨hn, List.nodup_cons.2 ⟨by simp, List.nodup_nil⟩, fun a ha b hb hab => hout (by rw [← List.mem_singleton.1 hb, ← hab]; exact ha)⟩)
      exact Evt.step _ (fun k => by rw [trie_Formed.l1, if_pos hjl, if_pos p0, if_pos hjl, if_pos v0, if_pos v1, if_neg (by rw [e]; decide), hw]) h2
theorem l0_go : ∀ (d i : Nat) (r : List Bool), t.length = i + d → Marks r t.length (toS t i) → (toS t i).Nodup → All (NodeR t) 0 i →
    Evt (fun k => trie_Formed.l0 k t r (endS t i) t.length i) (decide (FormedQ t)) := by
  intro d
  induction d with
  | zero =>
    intro i r hi hm hn hN
    have hi2 : i = t.length := by omega
    subst hi2
    have hil : ¬ ((t.length : Nat) : Int) < ((t.length : Nat) : Int) := by omega
    by_cases c1 : ((t.length : Nat) : Int) = 0
    · rw [decide_eq_false (fun h : FormedQ t => h.1 (by omega))]
      exact Evt.step _ (fun k => by rw [trie_Formed.l0, if_neg hil, if_pos c1]) (j2_true _)
    · by_cases c2 : ((endS t t.length).length : Int) > 256
      · rw [decide_eq_false (fun h : FormedQ t => by have := h.2.1; omega)]
        exact Evt.step _ (fun k => by rw [trie_Formed.l0, if_neg hil, if_neg c1, if_pos c2]) (j2_true _)
      · have hlr := hm.1
        have c3 : 1 ≤ ((r.length : Nat) : Int) := by omega
        have hc := contains_evt (r.drop 1) (by have := hs.1; rw [List.length_drop]; omega)
        refine Evt.step _ (fun k => by rw [trie_Formed.l0, if_neg hil, if_neg c1, if_neg c2, if_pos c3]) (Evt.bind hc ?_)
        by_cases c4 : false ∈ r.drop 1
        · rw [decide_eq_true c4, decide_eq_false (fun h : FormedQ t => (marks_all hm).1 c4 h.2.2.2.2.1)]
          exact j2_true _
        · rw [decide_eq_false c4]
          refine (j2_evt _ (by omega)).cast (decide_eq_decide.2 ⟨fun h => ⟨by omega, by omega, hN, hn, Classical.byContradiction (fun h2 => c4 ((marks_all hm).2 h2)), h⟩, fun h => h.2.2.2.2.2⟩)
  | succ d ih =>
    intro i r hi hm hn hN
    have hil : ((i : Nat) : Int) < ((t.length : Nat) : Int) := by omega
    have p0 : (0 : Int) ≤ (i : Int) := by omega
    have hr := right_evt t i p0 hil (hs.2.1 _ (node_mem t i p0 hil))
    by_cases c1 : NodeR t i
    · rw [decide_eq_true c1] at hr
      have hN2 : All (NodeR t) 0 ((i + 1 : Nat) : Int) := fun m a b => by
        by_cases e : m = i
        · subst e; exact c1
        · exact hN m a (by omega)
      have h1 := l1_go t hs i (by omega) c1 (fun r2 m2 n2 => ih (i + 1) r2 (by omega) m2 n2 hN2) (rd_T50 t (i : Int)).f1.length 0 r (by omega) (by simpa using hm) (by simpa using hn)
      exact Evt.step _ (fun k => by rw [trie_Formed.l0, if_pos hil]) (Evt.bind hr (Evt.eq _ (fun k => by rw [if_pos rfl, if_pos p0, if_pos hil]; rfl) h1))
    · rw [decide_eq_false c1] at hr
      rw [decide_eq_false (fun h : FormedQ t => c1 (h.2.2.1 i p0 hil))]
      exact Evt.step _ (fun k => by rw [trie_Formed.l0, if_pos hil]) (Evt.bind hr (Evt.eq _ (fun k => by rw [if_neg (by decide)]) Evt.const))
theorem trieFormed_evt : Evt (fun k => trie_Formed.f k t) (decide (FormedQ t)) := by
  have h := l0_go t hs t.length 0 (List.replicate t.length false) (by omega) (marks_nil _) List.nodup_nil (fun m a b => by omega)
  have p0 : (0 : Int) ≤ (t.length : Int) := by omega
  have p1 : ((t.length : Int) : Int).toNat ≤ 281474976710656 := by have := hs.1; omega
  exact Evt.eq _ (fun k => by rw [trie_Formed.f, if_pos p0, if_pos p1, Int.toNat_natCast]; rfl) h
end
end Go.Proofs.Ythlneooboiphdaa.PTriePaths
