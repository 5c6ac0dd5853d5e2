/- What the two programs ask of one node of a trie: the same. -/
import Derived.Test.YthlneooboiphdaaTrieGoesFormedEv
import Derived.Test.YthlneooboiphdaaPTrieGoesx2
import Derived.Test.YthlneooboiphdaaPTrieGoesx6
set_option linter.unusedVariables false
set_option linter.unusedSimpArgs false
namespace Go.Proofs.Ythlneooboiphdaa.PTrieGoes
open Go.RowKit Go.Proofs.Ythlneooboiphdaa Go.Proofs.YthlneooboiphdaaW.PrintWords Go.Proofs.YthlneooboiphdaaW.PrintLast Go.Proofs.YthlneooboiphdaaW.PrintMore
open Classical
def All (P : Int → Prop) (i n : Int) : Prop := ∀ m, i ≤ m → m < n → P m
theorem All.end_ {P : Int → Prop} {i n : Int} (h : ¬ i < n) : decide (All P i n) = true := decide_eq_true (fun m h1 h2 => by omega)
theorem All.bad {P : Int → Prop} {i n : Int} (h : i < n) (hp : ¬ P i) : decide (All P i n) = false := decide_eq_false (fun ha => hp (ha i (Int.le_refl _) h))
theorem All.step_iff {P : Int → Prop} {i n : Int} (h : i < n) (hp : P i) : All P i n ↔ All P (i + 1) n :=
  ⟨fun ha m h1 h2 => ha m (by omega) h2, fun ha m h1 h2 => by
    by_cases he : m = i
    · subst he; exact hp
    · exact ha m (by omega) h2⟩
theorem All.step {P : Int → Prop} {i n : Int} (h : i < n) (hp : P i) : decide (All P i n) = decide (All P (i + 1) n) := decide_eq_decide.2 (All.step_iff h hp)
def sameS (a b : S53) : Bool := a.f0 == b.f0 && (a.f1.toList == b.f1.toList && a.f2 == b.f2)
theorem sameS_symm (a b : S53) : sameS a b = sameS b a := by
  rw [Bool.eq_iff_iff]
  simp only [sameS, Bool.and_eq_true, beq_iff_eq]
  exact ⟨fun h => ⟨h.1.symm, h.2.1.symm, h.2.2.symm⟩, fun h => ⟨h.1.symm, h.2.1.symm, h.2.2.symm⟩⟩
theorem sameS_self (a : S53) : sameS a a = true := by simp [sameS]
def Rises (l : List Int) : Prop := All (fun m => rd l (m - 1) < rd l m) 1 l.length
theorem rises_go (l : List Int) (hl : (l.length : Int) ≤ 4611686018427387904) : ∀ (d : Nat) (i : Int), 1 ≤ i → (l.length : Int) ≤ i + d → Evt (fun k => trie_rises.l0 k l i) (decide (All (fun m => rd l (m - 1) < rd l m) i l.length)) := by
  intro d
  induction d with
  | zero =>
    intro i h1 h2
    have hi : ¬ i < (l.length : Int) := by omega
    rw [All.end_ hi]
    exact Evt.done (fun k => by rw [trie_rises.l0, if_neg hi])
  | succ d ih =>
    intro i h1 h2
    by_cases hi : i < (l.length : Int)
    · have hw : wrap64 (i - 1) = i - 1 := w64_ (by omega) (by omega)
      have hw2 : wrap64 (i + 1) = i + 1 := w64_ (by omega) (by omega)
      have p0 : 0 ≤ i := by omega
      have p1 : 0 ≤ i - 1 := by omega
      have p2 : i - 1 < (l.length : Int) := by omega
      by_cases hc : rd l i ≤ rd l (i - 1)
      · rw [All.bad hi (by show ¬ _ < _; omega)]
        exact Evt.done (fun k => by rw [trie_rises.l0, if_pos hi, if_pos p0, hw, if_pos p1, if_pos p2, if_pos hc])
      · rw [All.step hi (by show _ < _; omega)]
        exact Evt.step (fun k => trie_rises.l0 k l (i + 1)) (fun k => by rw [trie_rises.l0, if_pos hi, if_pos p0, hw, if_pos p1, if_pos p2, if_neg hc, hw2]) (ih (i + 1) (by omega) (by omega))
    · rw [All.end_ hi]
      exact Evt.done (fun k => by rw [trie_rises.l0, if_neg hi])
theorem rises2_go (s : List S53) (u l : List Int) (hl : (l.length : Int) ≤ 4611686018427387904) : ∀ (d : Nat) (i : Int), 1 ≤ i → (l.length : Int) ≤ i + d → Evt (fun k => quarryref23_node.l2 k i s u l) (decide (All (fun m => rd l (m - 1) < rd l m) i l.length)) := by
  intro d
  induction d with
  | zero =>
    intro i h1 h2
    have hi : ¬ i < (l.length : Int) := by omega
    rw [All.end_ hi]
    exact Evt.done (fun k => by rw [quarryref23_node.l2, if_neg hi])
  | succ d ih =>
    intro i h1 h2
    by_cases hi : i < (l.length : Int)
    · have hw : wrap64 (i - 1) = i - 1 := w64_ (by omega) (by omega)
      have hw2 : wrap64 (i + 1) = i + 1 := w64_ (by omega) (by omega)
      have p0 : 0 ≤ i := by omega
      have p1 : 0 ≤ i - 1 := by omega
      have p2 : i - 1 < (l.length : Int) := by omega
      by_cases hc : rd l i ≤ rd l (i - 1)
      · rw [All.bad hi (by show ¬ _ < _; omega)]
        exact Evt.done (fun k => by rw [quarryref23_node.l2, if_pos hi, if_pos p0, hw, if_pos p1, if_pos p2, if_pos hc])
      · rw [All.step hi (by show _ < _; omega)]
        exact Evt.step (fun k => quarryref23_node.l2 k (i + 1) s u l) (fun k => by rw [quarryref23_node.l2, if_pos hi, if_pos p0, hw, if_pos p1, if_pos p2, if_neg hc, hw2]) (ih (i + 1) (by omega) (by omega))
    · rw [All.end_ hi]
      exact Evt.done (fun k => by rw [quarryref23_node.l2, if_neg hi])
/-- No step ahead of this one is the same. -/
def Fresh (l : List S53) (j : Int) : Prop := All (fun q => sameS (rd_T53 l q) (rd_T53 l j) = false) 0 j
theorem index_go (l : List S53) (hl : (l.length : Int) ≤ 4611686018427387904) (j : Int) (h0 : 0 ≤ j) (hj : j < (l.length : Int)) : ∀ (d : Nat) (m : Int), 0 ≤ m → j = m + d → (∀ q, 0 ≤ q → q < m → sameS (rd_T53 l j) (rd_T53 l q) = false) →
    ∃ r : Int, Evt (fun k => api_Step.l0 k l l.length m (rd_T53 l j).f0 (rd_T53 l j).f1 (rd_T53 l j).f2) r ∧ (r < j ↔ ¬ Fresh l j) := by
  intro d
  induction d with
  | zero =>
    intro m hm hd hq
    have e : m = j := by omega
    subst e
    have hs := sameS_self (rd_T53 l m)
    unfold sameS at hs
    refine ⟨m, Evt.done (fun k => by rw [api_Step.l0, if_pos hj, if_pos hm, if_pos hj, if_pos hs]), ?_⟩
    constructor
    · intro h; omega
    · intro h
      exact absurd (fun q h1 h2 => by show sameS _ _ = false; rw [sameS_symm]; exact hq q h1 h2) h
  | succ d ih =>
    intro m hm hd hq
    have hml : m < (l.length : Int) := by omega
    have hw : wrap64 (m + 1) = m + 1 := w64_ (by omega) (by omega)
    by_cases hs : sameS (rd_T53 l j) (rd_T53 l m) = true
    · have hs2 := hs
      unfold sameS at hs2
      refine ⟨m, Evt.done (fun k => by rw [api_Step.l0, if_pos hml, if_pos hm, if_pos hml, if_pos hs2]), ?_⟩
      constructor
      · intro _ hf
        have this : sameS (rd_T53 l m) (rd_T53 l j) = false := hf m hm (by omega)
        rw [sameS_symm, hs] at this
        cases this
      · intro _; omega
    · have hs2 := hs
      unfold sameS at hs2
      obtain ⟨r, hr, hi⟩ := ih (m + 1) (by omega) (by omega) (fun q h1 h2 => by
        by_cases he : q = m
        · subst he; simpa using hs
        · exact hq q h1 (by omega))
      exact ⟨r, Evt.step (fun k => api_Step.l0 k l l.length (m + 1) (rd_T53 l j).f0 (rd_T53 l j).f1 (rd_T53 l j).f2) (fun k => by rw [api_Step.l0, if_pos hml, if_pos hm, if_pos hml, if_neg hs2, hw]) hr, hi⟩
/-- What a step of a node is. -/
def StepR (n i : Int) (s : List S53) (u : List Int) (j : Int) : Prop := i < rd u j ∧ rd u j < n ∧ Fresh s j
theorem right_go (t : List S50) (i : Int) (s : List S53) (u es : List Int) (hl : (s.length : Int) ≤ 4611686018427387904) (hu : s.length = u.length) : ∀ (d : Nat) (j : Int), 0 ≤ j → (s.length : Int) ≤ j + d →
    Evt (fun k => trie_right.l0 k t i s s.length j s u es) (decide (All (StepR t.length i s u) j s.length)) := by
  intro d
  induction d with
  | zero =>
    intro j h1 h2
    have hi : ¬ j < (s.length : Int) := by omega
    rw [All.end_ hi]
    exact Evt.done (fun k => by rw [trie_right.l0, if_neg hi])
  | succ d ih =>
    intro j h1 h2
    by_cases hi : j < (s.length : Int)
    · have hw2 : wrap64 (j + 1) = j + 1 := w64_ (by omega) (by omega)
      have hi2 : j < (u.length : Int) := by omega
      by_cases c1 : rd u j ≤ i
      · rw [All.bad hi (fun h => by have := h.1; omega)]
        exact Evt.done (fun k => by rw [trie_right.l0, if_pos hi, if_pos h1, if_pos hi, if_pos hi2, if_pos c1])
      · by_cases c2 : rd u j ≥ (t.length : Int)
        · rw [All.bad hi (fun h => by have := h.2.1; omega)]
          exact Evt.done (fun k => by rw [trie_right.l0, if_pos hi, if_pos h1, if_pos hi, if_pos hi2, if_neg c1, if_pos c2])
        · obtain ⟨r, hr, hri⟩ := index_go s hl j h1 hi j.toNat 0 (by decide) (by omega) (fun q _ _ => by omega)
          have hr2 : Evt (fun k => api_Step.f k s (rd_T53 s j).f0 (rd_T53 s j).f1 (rd_T53 s j).f2) r := hr
          by_cases c3 : r < j
          · rw [All.bad hi (fun h => (hri.1 c3) h.2.2)]
            exact Evt.step _ (fun k => by rw [trie_right.l0, if_pos hi, if_pos h1, if_pos hi, if_pos hi2, if_neg c1, if_neg c2]) (Evt.bind hr2 (Evt.eq _ (fun k => by rw [if_pos c3]) Evt.const))
          · rw [All.step hi ⟨by omega, by omega, Classical.byContradiction (fun h => c3 (hri.2 h))⟩]
            exact Evt.step _ (fun k => by rw [trie_right.l0, if_pos hi, if_pos h1, if_pos hi, if_pos hi2, if_neg c1, if_neg c2]) (Evt.bind hr2 (Evt.eq (fun k => trie_right.l0 k t i s s.length (j + 1) s u es) (fun k => by rw [if_neg c3, hw2]) (ih (j + 1) (by omega) (by omega))))
    · rw [All.end_ hi]
      exact Evt.done (fun k => by rw [trie_right.l0, if_neg hi])
/-- What a node is. -/
def NodeR (t : List S50) (i : Int) : Prop :=
  (rd_T50 t i).f0.length = (rd_T50 t i).f1.length ∧ Rises (rd_T50 t i).f2 ∧ (rd_T50 t i).f0.all okS = true ∧ All (StepR t.length i (rd_T50 t i).f0 (rd_T50 t i).f1) 0 (rd_T50 t i).f0.length
/-- A node of a size that is gone through here. -/
def SmallN (x : S50) : Prop := x.f0.length ≤ 1073741824 ∧ x.f1.length ≤ 1073741824 ∧ x.f2.length ≤ 1073741824 ∧ ∀ s ∈ x.f0, s.f1.size ≤ 1073741824
theorem right_evt (t : List S50) (i : Int) (h0 : 0 ≤ i) (h1 : i < (t.length : Int)) (hs : SmallN (rd_T50 t i)) : Evt (fun k => trie_right.f k t i) (decide (NodeR t i)) := by
  obtain ⟨s0, s1, s2, s3⟩ := hs
  have hpf : path_Formed.f (rd_T50 t i).f0 = some ((rd_T50 t i).f0.all okS) := by
    unfold path_Formed.f
    rw [if_pos (show ∀ s ∈ (rd_T50 t i).f0, smallS s from fun s hs => Nat.le_trans (s3 s hs) (by decide))]
  have hr : Evt (fun k => trie_rises.f k (rd_T50 t i).f2) (decide (Rises (rd_T50 t i).f2)) := rises_go _ (by omega) (rd_T50 t i).f2.length 1 (by decide) (by omega)
  by_cases c1 : ((rd_T50 t i).f0.length : Int) = ((rd_T50 t i).f1.length : Int)
  · by_cases c2 : Rises (rd_T50 t i).f2
    · rw [decide_eq_true c2] at hr
      cases c3 : (rd_T50 t i).f0.all okS with
      | true =>
        rw [c3] at hpf
        have e : decide (NodeR t i) = decide (All (StepR t.length i (rd_T50 t i).f0 (rd_T50 t i).f1) 0 (rd_T50 t i).f0.length) := decide_eq_decide.2 ⟨fun h => h.2.2.2, fun h => ⟨by omega, c2, c3, h⟩⟩
        rw [e]
        refine Evt.eq _ (fun k => by rw [trie_right.f, if_pos h0, if_pos h1, if_pos c1]) (Evt.bind hr ?_)
        refine Evt.eq (fun k => trie_right.j0 k t i (!true) (rd_T50 t i).f0 (rd_T50 t i).f1 (rd_T50 t i).f2) (fun k => by rw [if_pos rfl, hpf, Option.bind_some]) ?_
        refine Evt.step _ (fun k => by rw [trie_right.j0, if_neg (by decide)]) (right_go t i _ _ _ (by omega) (by omega) (rd_T50 t i).f0.length 0 (by decide) (by omega))
      | false =>
        rw [c3] at hpf
        rw [decide_eq_false (show ¬ NodeR t i from fun h => by rw [h.2.2.1] at c3; cases c3)]
        refine Evt.eq _ (fun k => by rw [trie_right.f, if_pos h0, if_pos h1, if_pos c1]) (Evt.bind hr ?_)
        refine Evt.eq (fun k => trie_right.j0 k t i (!false) (rd_T50 t i).f0 (rd_T50 t i).f1 (rd_T50 t i).f2) (fun k => by rw [if_pos rfl, hpf, Option.bind_some]) ?_
        exact Evt.done (fun k => by rw [trie_right.j0, if_pos (by decide)])
    · rw [decide_eq_false c2] at hr
      rw [decide_eq_false (show ¬ NodeR t i from fun h => c2 h.2.1)]
      refine Evt.eq _ (fun k => by rw [trie_right.f, if_pos h0, if_pos h1, if_pos c1]) (Evt.bind hr ?_)
      refine Evt.eq (fun k => trie_right.j0 k t i true (rd_T50 t i).f0 (rd_T50 t i).f1 (rd_T50 t i).f2) (fun k => by rw [if_neg (by decide)]) ?_
      exact Evt.done (fun k => by rw [trie_right.j0, if_pos rfl])
  · rw [decide_eq_false (show ¬ NodeR t i from fun h => by have := h.1; omega)]
    refine Evt.eq (fun k => trie_right.j0 k t i true (rd_T50 t i).f0 (rd_T50 t i).f1 (rd_T50 t i).f2) (fun k => by rw [trie_right.f, if_pos h0, if_pos h1, if_neg c1]) ?_
    exact Evt.done (fun k => by rw [trie_right.j0, if_pos rfl])
/-! The document's. -/
theorem dup_go (t : List S50) (i : Int) (s : List S53) (u es : List Int) (hl : (s.length : Int) ≤ 4611686018427387904) (j : Int) (h0 : 0 ≤ j) (hj : j < (s.length : Int)) (v : Bool) (hv : Evt (fun k => quarryref23_node.l0 k t i (j + 1) s u es) v) : ∀ (d : Nat) (m : Int), 0 ≤ m → j = m + d →
    Evt (fun k => quarryref23_node.l1 k t i j m s u es) (decide (All (fun q => sameS (rd_T53 s q) (rd_T53 s j) = false) m j) && v) := by
  have hwj : wrap64 (j + 1) = j + 1 := w64_ (by omega) (by omega)
  intro d
  induction d with
  | zero =>
    intro m hm hd
    have hi : ¬ m < j := by omega
    rw [All.end_ hi, Bool.true_and]
    exact Evt.step _ (fun k => by rw [quarryref23_node.l1, if_neg hi, hwj]) hv
  | succ d ih =>
    intro m hm hd
    have hi : m < j := by omega
    have hml : m < (s.length : Int) := by omega
    have hw : wrap64 (m + 1) = m + 1 := w64_ (by omega) (by omega)
    by_cases hs : sameS (rd_T53 s m) (rd_T53 s j) = true
    · rw [All.bad hi (fun h => by have h2 : sameS (rd_T53 s m) (rd_T53 s j) = false := h; rw [hs] at h2; cases h2), Bool.false_and]
      unfold sameS at hs
      exact Evt.done (fun k => by rw [quarryref23_node.l1, if_pos hi, if_pos hm, if_pos hml, if_pos h0, if_pos hj, if_pos hs])
    · rw [All.step hi (by show sameS _ _ = false; simpa using hs)]
      unfold sameS at hs
      exact Evt.step _ (fun k => by rw [quarryref23_node.l1, if_pos hi, if_pos hm, if_pos hml, if_pos h0, if_pos hj, if_neg hs, hw]) (ih (m + 1) (by omega) (by omega))
def StepR2 (n i : Int) (s : List S53) (u : List Int) (j : Int) : Prop := okS (rd_T53 s j) = true ∧ StepR n i s u j
theorem node_go (t : List S50) (i : Int) (s : List S53) (u es : List Int) (hl : (s.length : Int) ≤ 1073741824) (hu : s.length = u.length) (he : (es.length : Int) ≤ 1073741824) (hsm : ∀ x ∈ s, x.f1.size ≤ 1073741824) : ∀ (d : Nat) (j : Int), 0 ≤ j → (s.length : Int) ≤ j + d →
    Evt (fun k => quarryref23_node.l0 k t i j s u es) (decide (All (StepR2 t.length i s u) j s.length) && decide (Rises es)) := by
  have fin : Evt (fun k => quarryref23_node.l2 k 1 s u es) (decide (Rises es)) := rises2_go s u es (by omega) es.length 1 (by decide) (by omega)
  intro d
  induction d with
  | zero =>
    intro j h1 h2
    have hi : ¬ j < (s.length : Int) := by omega
    rw [All.end_ hi, Bool.true_and]
    exact Evt.step _ (fun k => by rw [quarryref23_node.l0, if_neg hi]) fin
  | succ d ih =>
    intro j h1 h2
    by_cases hi : j < (s.length : Int)
    · have hi2 : j < (u.length : Int) := by omega
      have hmem := rd_mem s j h1 hi
      have hf : Evt (fun k => quarryref22_Formed.f k [rd_T53 s j]) (okS (rd_T53 s j)) := by
        refine (formed_evt [rd_T53 s j] 1073741824 (Nat.le_refl _) (by simp) (fun x hx => ?_)).cast (by simp)
        rw [List.mem_singleton.1 hx]
        exact hsm _ hmem
      cases c0 : okS (rd_T53 s j) with
      | false =>
        rw [c0] at hf
        rw [All.bad hi (fun h => by rw [h.1] at c0; cases c0), Bool.false_and]
        refine Evt.step _ (fun k => by rw [quarryref23_node.l0, if_pos hi, if_pos h1]) (Evt.bind hf ?_)
        exact Evt.eq (fun k => quarryref23_node.j1 k t i j true s u es) (fun k => by rw [if_neg (by decide)]) (Evt.done (fun k => by rw [quarryref23_node.j1, if_pos rfl]))
      | true =>
        rw [c0] at hf
        by_cases c1 : rd u j ≤ i
        · rw [All.bad hi (fun h => by have := h.2.1; omega), Bool.false_and]
          refine Evt.step _ (fun k => by rw [quarryref23_node.l0, if_pos hi, if_pos h1]) (Evt.bind hf ?_)
          exact Evt.eq (fun k => quarryref23_node.j1 k t i j true s u es) (fun k => by rw [if_pos rfl, if_pos hi2, if_pos c1]) (Evt.done (fun k => by rw [quarryref23_node.j1, if_pos rfl]))
        · by_cases c2 : rd u j ≥ (t.length : Int)
          · rw [All.bad hi (fun h => by have := h.2.2.1; omega), Bool.false_and]
            refine Evt.step _ (fun k => by rw [quarryref23_node.l0, if_pos hi, if_pos h1]) (Evt.bind hf ?_)
            exact Evt.eq (fun k => quarryref23_node.j1 k t i j true s u es) (fun k => by rw [if_pos rfl, if_pos hi2, if_neg c1, decide_eq_true c2]) (Evt.done (fun k => by rw [quarryref23_node.j1, if_pos rfl]))
          · have hd := dup_go t i s u es (by omega) j h1 hi _ (ih (j + 1) (by omega) (by omega)) j.toNat 0 (by decide) (by omega)
            refine Evt.step _ (fun k => by rw [quarryref23_node.l0, if_pos hi, if_pos h1]) (Evt.bind hf ?_)
            refine Evt.eq (fun k => quarryref23_node.j1 k t i j false s u es) (fun k => by rw [if_pos rfl, if_pos hi2, if_neg c1, decide_eq_false c2]) ?_
            refine Evt.step (fun k => quarryref23_node.l1 k t i j 0 s u es) (fun k => by rw [quarryref23_node.j1, if_neg (by decide)]) (hd.cast ?_)
            by_cases c3 : Fresh s j
            · rw [decide_eq_true (show All (fun q => sameS (rd_T53 s q) (rd_T53 s j) = false) 0 j from c3), Bool.true_and, All.step hi ⟨c0, by omega, by omega, c3⟩]
            · rw [decide_eq_false (show ¬ All (fun q => sameS (rd_T53 s q) (rd_T53 s j) = false) 0 j from c3), Bool.false_and, All.bad hi (fun h => c3 h.2.2.2), Bool.false_and]
    · rw [All.end_ hi, Bool.true_and]
      exact Evt.step _ (fun k => by rw [quarryref23_node.l0, if_neg hi]) fin
theorem all_rd {P : S53 → Bool} (s : List S53) : s.all P = true ↔ All (fun j => P (rd_T53 s j) = true) 0 s.length := by
  rw [List.all_eq_true]
  constructor
  · intro h j h0 h1
    exact h _ (rd_mem s j h0 h1)
  · intro h x hx
    obtain ⟨m, hm, rfl⟩ := List.getElem_of_mem hx
    have this : P (rd_T53 s (m : Int)) = true := h (m : Int) (by omega) (by omega)
    unfold rd_T53 at this
    rw [Int.toNat_natCast, List.getD_eq_getElem?_getD, List.getElem?_eq_getElem hm] at this
    exact this
theorem node_evt (t : List S50) (i : Int) (h0 : 0 ≤ i) (h1 : i < (t.length : Int)) (hs : SmallN (rd_T50 t i)) : Evt (fun k => quarryref23_node.f k t i) (decide (NodeR t i)) := by
  obtain ⟨s0, s1, s2, s3⟩ := hs
  by_cases c1 : ((rd_T50 t i).f0.length : Int) = ((rd_T50 t i).f1.length : Int)
  · refine Evt.eq _ (fun k => by rw [quarryref23_node.f, if_pos h0, if_pos h1, if_pos c1]) ((node_go t i _ _ _ (by omega) (by omega) (by omega) s3 (rd_T50 t i).f0.length 0 (by decide) (by omega)).cast ?_)
    rw [Bool.eq_iff_iff, Bool.and_eq_true, decide_eq_true_iff, decide_eq_true_iff, decide_eq_true_iff]
    constructor
    · rintro ⟨ha, hr⟩
      exact ⟨by omega, hr, (all_rd _).2 (fun j a b => (ha j a b).1), fun j a b => (ha j a b).2⟩
    · rintro ⟨_, hr, ho, ha⟩
      exact ⟨fun j a b => ⟨(all_rd _).1 ho j a b, ha j a b⟩, hr⟩
  · rw [decide_eq_false (show ¬ NodeR t i from fun h => by have := h.1; omega)]
    exact Evt.eq _ (fun k => by rw [quarryref23_node.f, if_pos h0, if_pos h1, if_neg c1]) Evt.const
end Go.Proofs.Ythlneooboiphdaa.PTrieGoes
