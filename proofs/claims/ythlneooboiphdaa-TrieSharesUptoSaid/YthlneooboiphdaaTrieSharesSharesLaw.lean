/- Joined texts of one law. -/
import Derived.Test.YthlneooboiphdaaTrieSharesPathFormed
import Derived.Test.YthlneooboiphdaaEvt
import Derived.Test.YthlneooboiphdaaPTrieSharesx4
import Derived.Test.YthlneooboiphdaaIntRow
import Derived.Test.YthlneooboiphdaaPTrieSharesx5
import Derived.Test.YthlneooboiphdaaPTrieSharesx6
import Derived.Test.YthlneooboiphdaaTrieSharesTriePure
import Derived.Test.YthlneooboiphdaaTrieSharesBuildV
import Derived.Test.YthlneooboiphdaaPTrieSharesx7
import Derived.Test.YthlneooboiphdaaPTrieSharesx3
import Derived.Test.YthlneooboiphdaaPTrieSharesx8
/- What the two programs ask of one node of a trie: the same. -/
set_option linter.unusedVariables false
set_option linter.unusedSimpArgs false
namespace Go.Proofs.Ythlneooboiphdaa.PTrieShares
open Go.RowKit Go.Proofs.Ythlneooboiphdaa Go.Proofs.YthlneooboiphdaaW.PrintWords Go.Proofs.YthlneooboiphdaaW.PrintLast Go.Proofs.YthlneooboiphdaaW.PrintMore
open Classical
theorem w64_ {n : Int} (h0 : -9223372036854775808 ≤ n) (h1 : n < 9223372036854775808) : wrap64 n = n := by unfold wrap64; omega
def All (P : Int → Prop) (i n : Int) : Prop := ∀ m, i ≤ m → m < n → P m
theorem All.end_ {P : Int → Prop} {i n : Int} (h : ¬ i < n) : decide (All P i n) = true := decide_eq_true (fun m h1 h2 => by omega)
theorem All.bad {P : Int → Prop} {i n : Int} (h : i < n) (hp : ¬ P i) : decide (All P i n) = false := decide_eq_false (fun ha => hp (ha i (Int.le_refl _) h))
theorem All.step_iff {P : Int → Prop} {i n : Int} (h : i < n) (hp : P i) : All P i n ↔ All P (i + 1) n :=
  ⟨fun ha m h1 h2 => ha m (by omega) h2, fun ha m h1 h2 => by
    by_cases he : m = i
    · subst he; exact hp
    · exact ha m (by omega) h2⟩
theorem All.step {P : Int → Prop} {i n : Int} (h : i < n) (hp : P i) : decide (All P i n) = decide (All P (i + 1) n) := decide_eq_decide.2 (All.step_iff h hp)
def sameQ (a b : S53) : Bool := a.f0 == b.f0 && (a.f1.toList == b.f1.toList && a.f2 == b.f2)
theorem sameQ_symm (a b : S53) : sameQ a b = sameQ b a := by
  rw [Bool.eq_iff_iff]
  simp only [sameQ, Bool.and_eq_true, beq_iff_eq]
  exact ⟨fun h => ⟨h.1.symm, h.2.1.symm, h.2.2.symm⟩, fun h => ⟨h.1.symm, h.2.1.symm, h.2.2.symm⟩⟩
theorem sameQ_self (a : S53) : sameQ a a = true := by simp [sameQ]
def Rises (l : List Int) : Prop := All (fun m => rd l (m - 1) < rd l m) 1 l.length
theorem rises_go (l : List Int) (hl : (l.length : Int) ≤ 4611686018427387904) : ∀ (d : Nat) (i : Int), 1 ≤ i → (l.length : Int) ≤ i + d → Evt (fun k => trie_rises.l0 k l i) (decide (All (fun m => rd l (m - 1) < rd l m) i l.length)) := by
  intro d
  induction d with
  | zero =>
    intro i h1 h2
    have hi : ¬ i < (l.length : Int) := by omega
    rw [All.end_ hi]
    exact Evt.done (fun k => by rw [trie_rises.l0, if_neg hi])
  | succ d ih =>
    intro i h1 h2
    by_cases hi : i < (l.length : Int)
    · have hw : wrap64 (i - 1) = i - 1 := w64_ (by omega) (by omega)
      have hw2 : wrap64 (i + 1) = i + 1 := w64_ (by omega) (by omega)
      have p0 : 0 ≤ i := by omega
      have p1 : 0 ≤ i - 1 := by omega
      have p2 : i - 1 < (l.length : Int) := by omega
      by_cases hc : rd l i ≤ rd l (i - 1)
      · rw [All.bad hi (by show ¬ _ < _; omega)]
        exact Evt.done (fun k => by rw [trie_rises.l0, if_pos hi, if_pos p0, hw, if_pos p1, if_pos p2, if_pos hc])
      · rw [All.step hi (by show _ < _; omega)]
        exact Evt.step (fun k => trie_rises.l0 k l (i + 1)) (fun k => by rw [trie_rises.l0, if_pos hi, if_pos p0, hw, if_pos p1, if_pos p2, if_neg hc, hw2]) (ih (i + 1) (by omega) (by omega))
    · rw [All.end_ hi]
      exact Evt.done (fun k => by rw [trie_rises.l0, if_neg hi])
/-- No step ahead of this one is the same. -/
def Fresh (l : List S53) (j : Int) : Prop := All (fun q => sameQ (rd_T53 l q) (rd_T53 l j) = false) 0 j
theorem index_go (l : List S53) (hl : (l.length : Int) ≤ 4611686018427387904) (j : Int) (h0 : 0 ≤ j) (hj : j < (l.length : Int)) : ∀ (d : Nat) (m : Int), 0 ≤ m → j = m + d → (∀ q, 0 ≤ q → q < m → sameQ (rd_T53 l j) (rd_T53 l q) = false) →
    ∃ r : Int, Evt (fun k => api_Step_68.l0 k l l.length m (rd_T53 l j).f0 (rd_T53 l j).f1 (rd_T53 l j).f2) r ∧ (r < j ↔ ¬ Fresh l j) := by
  intro d
  induction d with
  | zero =>
    intro m hm hd hq
    have e : m = j := by omega
    subst e
    have hs := sameQ_self (rd_T53 l m)
    unfold sameQ at hs
    refine ⟨m, Evt.done (fun k => by rw [api_Step_68.l0, if_pos hj, if_pos hm, if_pos hj, if_pos hs]), ?_⟩
    constructor
    · intro h; omega
    · intro h
      exact absurd (fun q h1 h2 => by show sameQ _ _ = false; rw [sameQ_symm]; exact hq q h1 h2) h
  | succ d ih =>
    intro m hm hd hq
    have hml : m < (l.length : Int) := by omega
    have hw : wrap64 (m + 1) = m + 1 := w64_ (by omega) (by omega)
    by_cases hs : sameQ (rd_T53 l j) (rd_T53 l m) = true
    · have hs2 := hs
      unfold sameQ at hs2
      refine ⟨m, Evt.done (fun k => by rw [api_Step_68.l0, if_pos hml, if_pos hm, if_pos hml, if_pos hs2]), ?_⟩
      constructor
      · intro _ hf
        have this : sameQ (rd_T53 l m) (rd_T53 l j) = false := hf m hm (by omega)
        rw [sameQ_symm, hs] at this
        cases this
      · intro _; omega
    · have hs2 := hs
      unfold sameQ at hs2
      obtain ⟨r, hr, hi⟩ := ih (m + 1) (by omega) (by omega) (fun q h1 h2 => by
        by_cases he : q = m
        · subst he; simpa using hs
        · exact hq q h1 (by omega))
      exact ⟨r, Evt.step (fun k => api_Step_68.l0 k l l.length (m + 1) (rd_T53 l j).f0 (rd_T53 l j).f1 (rd_T53 l j).f2) (fun k => by rw [api_Step_68.l0, if_pos hml, if_pos hm, if_pos hml, if_neg hs2, hw]) hr, hi⟩
/-- What a step of a node is. -/
def StepR (n i : Int) (s : List S53) (u : List Int) (j : Int) : Prop := i < rd u j ∧ rd u j < n ∧ Fresh s j
theorem right_go (t : List S50) (i : Int) (s : List S53) (u es : List Int) (hl : (s.length : Int) ≤ 4611686018427387904) (hu : s.length = u.length) : ∀ (d : Nat) (j : Int), 0 ≤ j → (s.length : Int) ≤ j + d →
    Evt (fun k => trie_right.l0 k t i s s.length j s u es) (decide (All (StepR t.length i s u) j s.length)) := by
  intro d
  induction d with
  | zero =>
    intro j h1 h2
    have hi : ¬ j < (s.length : Int) := by omega
    rw [All.end_ hi]
    exact Evt.done (fun k => by rw [trie_right.l0, if_neg hi])
  | succ d ih =>
    intro j h1 h2
    by_cases hi : j < (s.length : Int)
    · have hw2 : wrap64 (j + 1) = j + 1 := w64_ (by omega) (by omega)
      have hi2 : j < (u.length : Int) := by omega
      by_cases c1 : rd u j ≤ i
      · rw [All.bad hi (fun h => by have := h.1; omega)]
        exact Evt.done (fun k => by rw [trie_right.l0, if_pos hi, if_pos h1, if_pos hi, if_pos hi2, if_pos c1])
      · by_cases c2 : rd u j ≥ (t.length : Int)
        · rw [All.bad hi (fun h => by have := h.2.1; omega)]
          exact Evt.done (fun k => by rw [trie_right.l0, if_pos hi, if_pos h1, if_pos hi, if_pos hi2, if_neg c1, if_pos c2])
        · obtain ⟨r, hr, hri⟩ := index_go s hl j h1 hi j.toNat 0 (by decide) (by omega) (fun q _ _ => by omega)
          have hr2 : Evt (fun k => api_Step_68.f k s (rd_T53 s j).f0 (rd_T53 s j).f1 (rd_T53 s j).f2) r := hr
          by_cases c3 : r < j
          · rw [All.bad hi (fun h => (hri.1 c3) h.2.2)]
            exact Evt.step _ (fun k => by rw [trie_right.l0, if_pos hi, if_pos h1, if_pos hi, if_pos hi2, if_neg c1, if_neg c2]) (Evt.bind hr2 (Evt.eq _ (fun k => by rw [if_pos c3]) Evt.const))
          · rw [All.step hi ⟨by omega, by omega, Classical.byContradiction (fun h => c3 (hri.2 h))⟩]
            exact Evt.step _ (fun k => by rw [trie_right.l0, if_pos hi, if_pos h1, if_pos hi, if_pos hi2, if_neg c1, if_neg c2]) (Evt.bind hr2 (Evt.eq (fun k => trie_right.l0 k t i s s.length (j + 1) s u es) (fun k => by rw [if_neg c3, hw2]) (ih (j + 1) (by omega) (by omega))))
    · rw [All.end_ hi]
      exact Evt.done (fun k => by rw [trie_right.l0, if_neg hi])
/-- What a node is. -/
def NodeR (t : List S50) (i : Int) : Prop :=
  (rd_T50 t i).f0.length = (rd_T50 t i).f1.length ∧ Rises (rd_T50 t i).f2 ∧ (rd_T50 t i).f0.all okS = true ∧ All (StepR t.length i (rd_T50 t i).f0 (rd_T50 t i).f1) 0 (rd_T50 t i).f0.length
/-- A node of a size that is gone through here. -/
def SmallN (x : S50) : Prop := x.f0.length ≤ 1073741824 ∧ x.f1.length ≤ 1073741824 ∧ x.f2.length ≤ 1073741824 ∧ ∀ s ∈ x.f0, s.f1.size ≤ 1073741824
theorem right_evt (t : List S50) (i : Int) (h0 : 0 ≤ i) (h1 : i < (t.length : Int)) (hs : SmallN (rd_T50 t i)) : Evt (fun k => trie_right.f k t i) (decide (NodeR t i)) := by
  obtain ⟨s0, s1, s2, s3⟩ := hs
  have hpf : path_Formed.f (rd_T50 t i).f0 = some ((rd_T50 t i).f0.all okS) := by
    unfold path_Formed.f
    rw [if_pos (show ∀ s ∈ (rd_T50 t i).f0, smallS s from fun s hs => Nat.le_trans (s3 s hs) (by decide))]
  have hr : Evt (fun k => trie_rises.f k (rd_T50 t i).f2) (decide (Rises (rd_T50 t i).f2)) := rises_go _ (by omega) (rd_T50 t i).f2.length 1 (by decide) (by omega)
  by_cases c1 : ((rd_T50 t i).f0.length : Int) = ((rd_T50 t i).f1.length : Int)
  · by_cases c2 : Rises (rd_T50 t i).f2
    · rw [decide_eq_true c2] at hr
      cases c3 : (rd_T50 t i).f0.all okS with
      | true =>
        rw [c3] at hpf
        have e : decide (NodeR t i) = decide (All (StepR t.length i (rd_T50 t i).f0 (rd_T50 t i).f1) 0 (rd_T50 t i).f0.length) := decide_eq_decide.2 ⟨fun h => h.2.2.2, fun h => ⟨by omega, c2, c3, h⟩⟩
        rw [e]
        refine Evt.eq _ (fun k => by rw [trie_right.f, if_pos h0, if_pos h1, if_pos c1]) (Evt.bind hr ?_)
        refine Evt.eq (fun k => trie_right.j0 k t i (!true) (rd_T50 t i).f0 (rd_T50 t i).f1 (rd_T50 t i).f2) (fun k => by rw [if_pos rfl, hpf, Option.bind_some]) ?_
        refine Evt.step _ (fun k => by rw [trie_right.j0, if_neg (by decide)]) (right_go t i _ _ _ (by omega) (by omega) (rd_T50 t i).f0.length 0 (by decide) (by omega))
      | false =>
        rw [c3] at hpf
        rw [decide_eq_false (show ¬ NodeR t i from fun h => by rw [h.2.2.1] at c3; cases c3)]
        refine Evt.eq _ (fun k => by rw [trie_right.f, if_pos h0, if_pos h1, if_pos c1]) (Evt.bind hr ?_)
        refine Evt.eq (fun k => trie_right.j0 k t i (!false) (rd_T50 t i).f0 (rd_T50 t i).f1 (rd_T50 t i).f2) (fun k => by rw [if_pos rfl, hpf, Option.bind_some]) ?_
        exact Evt.done (fun k => by rw [trie_right.j0, if_pos (by decide)])
    · rw [decide_eq_false c2] at hr
      rw [decide_eq_false (show ¬ NodeR t i from fun h => c2 h.2.1)]
      refine Evt.eq _ (fun k => by rw [trie_right.f, if_pos h0, if_pos h1, if_pos c1]) (Evt.bind hr ?_)
      refine Evt.eq (fun k => trie_right.j0 k t i true (rd_T50 t i).f0 (rd_T50 t i).f1 (rd_T50 t i).f2) (fun k => by rw [if_neg (by decide)]) ?_
      exact Evt.done (fun k => by rw [trie_right.j0, if_pos rfl])
  · rw [decide_eq_false (show ¬ NodeR t i from fun h => by have := h.1; omega)]
    refine Evt.eq (fun k => trie_right.j0 k t i true (rd_T50 t i).f0 (rd_T50 t i).f1 (rd_T50 t i).f2) (fun k => by rw [trie_right.f, if_pos h0, if_pos h1, if_neg c1]) ?_
    exact Evt.done (fun k => by rw [trie_right.j0, if_pos rfl])
/-! The document's. -/
end Go.Proofs.Ythlneooboiphdaa.PTrieShares

/- Formed of a trie: what the program answers. -/
set_option linter.unusedVariables false
set_option linter.unusedSimpArgs false
namespace Go.Proofs.Ythlneooboiphdaa.PTrieShares
open Go.RowKit Go.Proofs.Ythlneooboiphdaa Go.Proofs.YthlneooboiphdaaW.PrintWords Go.Proofs.YthlneooboiphdaaW.PrintLast Go.Proofs.YthlneooboiphdaaW.PrintMore
open Classical
def toS (t : List S50) (i : Nat) : List Int := (t.take i).flatMap (fun x => x.f1)
def endS (t : List S50) (i : Nat) : List Int := (t.take i).flatMap (fun x => x.f2)
theorem rd_node (t : List S50) (i : Nat) (h : i < t.length) : t[i] = rd_T50 t (i : Int) := by
  unfold rd_T50
  rw [Int.toNat_natCast, List.getD_eq_getElem?_getD, List.getElem?_eq_getElem h]
  rfl
theorem node_mem (t : List S50) (i : Int) (h0 : 0 ≤ i) (h : i < (t.length : Int)) : rd_T50 t i ∈ t := by
  obtain ⟨m, rfl⟩ := Int.eq_ofNat_of_zero_le h0
  rw [show ((m : Nat) : Int) = (m : Int) from rfl, ← rd_node t m (by omega)]
  exact List.getElem_mem _
theorem toS_succ (t : List S50) (i : Nat) (h : i < t.length) : toS t (i + 1) = toS t i ++ (rd_T50 t (i : Int)).f1 := by
  unfold toS
  rw [List.take_succ_eq_append_getElem h, List.flatMap_append, rd_node t i h]
  simp
theorem endS_succ (t : List S50) (i : Nat) (h : i < t.length) : endS t (i + 1) = endS t i ++ (rd_T50 t (i : Int)).f2 := by
  unfold endS
  rw [List.take_succ_eq_append_getElem h, List.flatMap_append, rd_node t i h]
  simp
theorem toS_pre (t : List S50) (i : Nat) (h : i < t.length) : ∃ r, toS t t.length = (toS t i ++ (rd_T50 t (i : Int)).f1) ++ r := by
  rw [← toS_succ t i h]
  refine ⟨(t.drop (i + 1)).flatMap (fun x => x.f1), ?_⟩
  unfold toS
  rw [← List.flatMap_append, List.take_append_drop, List.take_length]
theorem endS_le (t : List S50) (i : Nat) : (endS t i).length ≤ (endS t t.length).length := by
  have e : endS t t.length = endS t i ++ (t.drop i).flatMap (fun x => x.f2) := by
    unfold endS
    rw [← List.flatMap_append, List.take_append_drop, List.take_length]
  rw [e, List.length_append]
  omega
theorem toS_le (t : List S50) (i : Nat) : (toS t i).length ≤ (toS t t.length).length := by
  have e : toS t t.length = toS t i ++ (t.drop i).flatMap (fun x => x.f1) := by
    unfold toS
    rw [← List.flatMap_append, List.take_append_drop, List.take_length]
  rw [e, List.length_append]
  omega
theorem toS_zero (t : List S50) : toS t 0 = [] := rfl
theorem endS_zero (t : List S50) : endS t 0 = [] := rfl
/-- The numbers that are marked. -/
def Marks (r : List Bool) (n : Nat) (T : List Int) : Prop := r.length = n ∧ ∀ m : Int, 0 ≤ m → m < n → (rdOf false r m = true ↔ m ∈ T)
theorem marks_nil (n : Nat) : Marks (List.replicate n false) n [] := by
  refine ⟨List.length_replicate, fun m h0 h1 => ?_⟩
  unfold rdOf
  rw [List.getD_eq_getElem?_getD, List.getElem?_replicate, if_pos (by omega)]
  simp
theorem marks_set {r : List Bool} {n : Nat} {T : List Int} (h : Marks r n T) {v : Int} (h0 : 0 ≤ v) (h1 : v < n) : Marks (r.set v.toNat true) n (T ++ [v]) := by
  refine ⟨by rw [List.length_set]; exact h.1, fun m m0 m1 => ?_⟩
  have hl := h.1
  have hm := h.2 m m0 m1
  unfold rdOf at hm ⊢
  rw [List.getD_eq_getElem?_getD] at hm
  rw [List.getD_eq_getElem?_getD, List.getElem?_set, List.mem_append, List.mem_singleton]
  by_cases e : m = v
  · subst e
    rw [if_pos rfl, if_pos (by omega)]
    exact ⟨fun _ => .inr rfl, fun _ => rfl⟩
  · rw [if_neg (by omega), hm]
    exact ⟨fun h => .inl h, fun h => h.elim id (fun h => absurd h e)⟩
theorem marks_all {r : List Bool} {n : Nat} {T : List Int} (h : Marks r n T) : false ∈ r.drop 1 ↔ ¬ ∀ m : Int, 1 ≤ m → m < n → m ∈ T := by
  have hl := h.1
  constructor
  · intro hf ha
    obtain ⟨k, hk, e⟩ := List.getElem_of_mem hf
    rw [List.length_drop] at hk
    have hm := (h.2 ((1 + k : Nat) : Int) (by omega) (by omega)).2 (ha _ (by omega) (by omega))
    rw [List.getElem_drop] at e
    unfold rdOf at hm
    rw [Int.toNat_natCast, List.getD_eq_getElem?_getD, List.getElem?_eq_getElem (by omega), e] at hm
    cases hm
  · intro ha
    refine Classical.byContradiction (fun hf => ha (fun m m0 m1 => (h.2 m (by omega) m1).1 ?_))
    unfold rdOf
    rw [List.getD_eq_getElem?_getD, List.getElem?_eq_getElem (show m.toNat < r.length by omega)]
    show r[m.toNat]'_ = true
    cases e : r[m.toNat]'(show m.toNat < r.length by omega) with
    | true => rfl
    | false =>
      refine absurd ?_ hf
      rw [← e]
      have : r[m.toNat]'(show m.toNat < r.length by omega) = (r.drop 1)[m.toNat - 1]'(by rw [List.length_drop]; omega) := by
        rw [List.getElem_drop]
        congr 1
        omega
      rw [this]
      exact List.getElem_mem _
def FormedQ (t : List S50) : Prop :=
  t.length ≠ 0 ∧ (endS t t.length).length ≤ 256 ∧ All (NodeR t) 0 t.length ∧ (toS t t.length).Nodup ∧ (∀ m : Int, 1 ≤ m → m < (t.length : Nat) → m ∈ toS t t.length) ∧ (∀ k : Int, 0 ≤ k → k < (endS t t.length).length → k = rd (sorted_ (endS t t.length)) k)
def SmallT (t : List S50) : Prop := t.length ≤ 1073741824 ∧ (∀ x ∈ t, SmallN x) ∧ (endS t t.length).length ≤ 1073741824 ∧ (toS t t.length).length ≤ 1073741824
theorem l2_go (s : List Int) (hl : (s.length : Int) ≤ 1073741824) : ∀ (d : Nat) (i : Int), 0 ≤ i → (s.length : Int) ≤ i + d → Evt (fun k => trie_Formed.l2 k s s.length i) (decide (All (fun k => k = rd s k) i s.length)) := by
  intro d
  induction d with
  | zero =>
    intro i h1 h2
    have hi : ¬ i < (s.length : Int) := by omega
    rw [All.end_ hi]
    exact Evt.done (fun k => by rw [trie_Formed.l2, if_neg hi])
  | succ d ih =>
    intro i h1 h2
    by_cases hi : i < (s.length : Int)
    · have hw2 : wrap64 (i + 1) = i + 1 := w64_ (by omega) (by omega)
      by_cases c : i = rd s i
      · rw [All.step hi c]
        exact Evt.step _ (fun k => by rw [trie_Formed.l2, if_pos hi, if_pos h1, if_pos hi, if_pos c, hw2]) (ih (i + 1) (by omega) (by omega))
      · rw [All.bad hi c]
        exact Evt.done (fun k => by rw [trie_Formed.l2, if_pos hi, if_pos h1, if_pos hi, if_neg c])
    · rw [All.end_ hi]
      exact Evt.done (fun k => by rw [trie_Formed.l2, if_neg hi])
theorem j2_evt (E : List Int) (hl : E.length ≤ 1073741824) : Evt (fun k => trie_Formed.j2 k E false) (decide (∀ k : Int, 0 ≤ k → k < E.length → k = rd (sorted_ E) k)) := by
  have hs : slices_Sort.f E = some (sorted_ E) := by
    unfold slices_Sort.f
    rw [if_pos (by omega)]
  have h := l2_go (sorted_ E) (by rw [sorted_length]; omega) E.length 0 (by decide) (by rw [sorted_length]; omega)
  rw [sorted_length] at h
  exact Evt.step _ (fun k => by rw [trie_Formed.j2, if_neg (by decide), hs, Option.bind_some]) h
theorem j2_true (E : List Int) : Evt (fun k => trie_Formed.j2 k E true) false := Evt.done (fun k => by rw [trie_Formed.j2, if_pos rfl])
theorem index_b (l : List Bool) (hl : (l.length : Int) ≤ 1073741824) : ∀ (d : Nat) (m : Int), 0 ≤ m → (l.length : Int) ≤ m + d → (∀ q : Int, 0 ≤ q → q < m → q < l.length → rdOf false l q = true) →
    ∃ r : Int, Evt (fun k => slices_Index_bool_bool.l0 k l false l.length m) r ∧ (r ≥ 0 ↔ false ∈ l) := by
  have fin : ∀ m : Int, ¬ m < (l.length : Int) → (∀ q : Int, 0 ≤ q → q < m → q < l.length → rdOf false l q = true) → ∃ r : Int, Evt (fun k => slices_Index_bool_bool.l0 k l false l.length m) r ∧ (r ≥ 0 ↔ false ∈ l) := by
    intro m hm hq
    refine ⟨-1, Evt.done (fun k => by rw [slices_Index_bool_bool.l0, if_neg hm]), fun h => absurd h (by decide), fun h => ?_⟩
    obtain ⟨q, h1, h2⟩ := List.getElem_of_mem h
    have := hq (q : Int) (by omega) (by omega) (by omega)
    unfold rdOf at this
    rw [Int.toNat_natCast, List.getD_eq_getElem?_getD, List.getElem?_eq_getElem h1, h2] at this
    cases this
  intro d
  induction d with
  | zero =>
    intro m h0 h1 hq
    exact fin m (by omega) hq
  | succ d ih =>
    intro m h0 h1 hq
    by_cases hm : m < (l.length : Int)
    · have hw2 : wrap64 (m + 1) = m + 1 := w64_ (by omega) (by omega)
      cases e : rdOf false l m with
      | false =>
        refine ⟨m, Evt.done (fun k => by rw [slices_Index_bool_bool.l0, if_pos hm, if_pos h0, if_pos hm, e, if_pos (by decide)]), fun _ => ?_, fun _ => h0⟩
        unfold rdOf at e
        rw [List.getD_eq_getElem?_getD, List.getElem?_eq_getElem (show m.toNat < l.length by omega)] at e
        rw [← show l[m.toNat]'(show m.toNat < l.length by omega) = false from e]
        exact List.getElem_mem _
      | true =>
        obtain ⟨r, hr, hi⟩ := ih (m + 1) (by omega) (by omega) (fun q a b c => by
          by_cases he : q = m
          · rw [he, e]
          · exact hq q a (by omega) c)
        exact ⟨r, Evt.step _ (fun k => by rw [slices_Index_bool_bool.l0, if_pos hm, if_pos h0, if_pos hm, e, if_neg (by decide), hw2]) hr, hi⟩
    · exact fin m hm hq
theorem contains_evt (l : List Bool) (hl : (l.length : Int) ≤ 1073741824) : Evt (fun k => slices_Contains_bool_bool.f k l false) (decide (false ∈ l)) := by
  obtain ⟨r, hr, hi⟩ := index_b l hl l.length 0 (by decide) (by omega) (fun q a b => by omega)
  have hr2 : Evt (fun k => slices_Index_bool_bool.f k l false) r := hr
  rw [show decide (false ∈ l) = decide (r ≥ 0) from decide_eq_decide.2 hi.symm]
  exact Evt.bind hr2 Evt.const
section
variable (t : List S50) (hs : SmallT t)
include hs
theorem l1_go (i : Nat) (hi : i < t.length) (hN : NodeR t i)
    (next : ∀ r, Marks r t.length (toS t (i + 1)) → (toS t (i + 1)).Nodup → Evt (fun k => trie_Formed.l0 k t r (endS t (i + 1)) t.length ((i + 1 : Nat) : Int)) (decide (FormedQ t))) :
    ∀ (d j : Nat) (r : List Bool), (rd_T50 t (i : Int)).f1.length = j + d → Marks r t.length (toS t i ++ (rd_T50 t (i : Int)).f1.take j) → (toS t i ++ (rd_T50 t (i : Int)).f1.take j).Nodup →
    Evt (fun k => trie_Formed.l1 k t r (endS t i) i t.length i (rd_T50 t (i : Int)).f1 (rd_T50 t (i : Int)).f1.length j) (decide (FormedQ t)) := by
  obtain ⟨s0, s1, s2⟩ := hs
  have hx := s1 _ (node_mem t i (by omega) (by omega))
  have hx1 := hx.2.1
  intro d
  induction d with
  | zero =>
    intro j r hj hm hn
    have hjl : ¬ ((j : Nat) : Int) < ((rd_T50 t (i : Int)).f1.length : Int) := by omega
    rw [List.take_of_length_le (by omega), ← toS_succ t i hi] at hm hn
    have h1 := next r hm hn
    have hle := endS_le t (i + 1)
    rw [endS_succ t i hi] at h1 hle
    rw [List.length_append] at hle
    have p0 : (0 : Int) ≤ (i : Int) := by omega
    have p1 : (i : Int) < (t.length : Int) := by omega
    have hw : wrap64 ((i : Int) + 1) = ((i + 1 : Nat) : Int) := by rw [w64_ (by omega) (by omega)]; omega
    exact Evt.step _ (fun k => by rw [trie_Formed.l1, if_neg hjl, if_pos p0, if_pos p1, if_pos (by omega), hw]) h1
  | succ d ih =>
    intro j r hj hm hn
    have hjl : ((j : Nat) : Int) < ((rd_T50 t (i : Int)).f1.length : Int) := by omega
    have hjn : j < (rd_T50 t (i : Int)).f1.length := by omega
    have p0 : (0 : Int) ≤ (j : Int) := by omega
    have hv := hN.2.2.2 (j : Int) p0 (by have := hN.1; omega)
    have hget : rd (rd_T50 t (i : Int)).f1 (j : Int) = (rd_T50 t (i : Int)).f1[j] := by
      unfold rd
      rw [Int.toNat_natCast, List.getD_eq_getElem?_getD, List.getElem?_eq_getElem hjn]
      rfl
    have v0 : 0 ≤ rd (rd_T50 t (i : Int)).f1 (j : Int) := by have := hv.1; omega
    have v1 : rd (rd_T50 t (i : Int)).f1 (j : Int) < (r.length : Int) := by rw [hm.1]; exact hv.2.1
    have v2 : rd (rd_T50 t (i : Int)).f1 (j : Int) < (t.length : Nat) := hv.2.1
    have hw : wrap64 ((j : Int) + 1) = ((j + 1 : Nat) : Int) := by rw [w64_ (by omega) (by omega)]; omega
    have htk : toS t i ++ (rd_T50 t (i : Int)).f1.take (j + 1) = (toS t i ++ (rd_T50 t (i : Int)).f1.take j) ++ [rd (rd_T50 t (i : Int)).f1 (j : Int)] := by
      rw [List.take_succ_eq_append_getElem hjn, List.append_assoc, hget]
    cases e : rdOf false r (rd (rd_T50 t (i : Int)).f1 (j : Int)) with
    | true =>
      have hin := (hm.2 _ v0 v2).1 e
      have hnot : ¬ FormedQ t := by
        intro hF
        obtain ⟨q, hq⟩ := toS_pre t i hi
        have hnd := hF.2.2.2.1
        rw [hq] at hnd
        have e2 : toS t i ++ (rd_T50 t (i : Int)).f1 = (toS t i ++ (rd_T50 t (i : Int)).f1.take (j + 1)) ++ (rd_T50 t (i : Int)).f1.drop (j + 1) := by
          rw [List.append_assoc, List.take_append_drop]
        have h3 := (List.nodup_append.1 hnd).1
        rw [e2] at h3
        have h4 := (List.nodup_append.1 h3).1
        rw [htk] at h4
        exact (List.nodup_append.1 h4).2.2 _ hin _ (List.mem_singleton.2 rfl) rfl
      rw [decide_eq_false hnot]
      exact Evt.done (fun k => by rw [trie_Formed.l1, if_pos hjl, if_pos p0, if_pos hjl, if_pos v0, if_pos v1, if_pos e])
    | false =>
      have hout : rd (rd_T50 t (i : Int)).f1 (j : Int) ∉ toS t i ++ (rd_T50 t (i : Int)).f1.take j := fun h => by
        have := (hm.2 _ v0 v2).2 h
        rw [e] at this
        cases this
      have h2 := ih (j + 1) (r.set (rd (rd_T50 t (i : Int)).f1 (j : Int)).toNat true) (by omega) (by rw [htk]; exact marks_set hm v0 v2)
        (by
          rw [htk]
          exact List.nodup_append.2 ⟨hn, List.nodup_cons.2 ⟨by simp, List.nodup_nil⟩, fun a ha b hb hab => hout (by rw [← List.mem_singleton.1 hb, ← hab]; exact ha)⟩)
      exact Evt.step _ (fun k => by rw [trie_Formed.l1, if_pos hjl, if_pos p0, if_pos hjl, if_pos v0, if_pos v1, if_neg (by rw [e]; decide), hw]) h2
theorem l0_go : ∀ (d i : Nat) (r : List Bool), t.length = i + d → Marks r t.length (toS t i) → (toS t i).Nodup → All (NodeR t) 0 i →
    Evt (fun k => trie_Formed.l0 k t r (endS t i) t.length i) (decide (FormedQ t)) := by
  intro d
  induction d with
  | zero =>
    intro i r hi hm hn hN
    have hi2 : i = t.length := by omega
    subst hi2
    have hil : ¬ ((t.length : Nat) : Int) < ((t.length : Nat) : Int) := by omega
    by_cases c1 : ((t.length : Nat) : Int) = 0
    · rw [decide_eq_false (fun h : FormedQ t => h.1 (by omega))]
      exact Evt.step _ (fun k => by rw [trie_Formed.l0, if_neg hil, if_pos c1]) (j2_true _)
    · by_cases c2 : ((endS t t.length).length : Int) > 256
      · rw [decide_eq_false (fun h : FormedQ t => by have := h.2.1; omega)]
        exact Evt.step _ (fun k => by rw [trie_Formed.l0, if_neg hil, if_neg c1, if_pos c2]) (j2_true _)
      · have hlr := hm.1
        have c3 : 1 ≤ ((r.length : Nat) : Int) := by omega
        have hc := contains_evt (r.drop 1) (by have := hs.1; rw [List.length_drop]; omega)
        refine Evt.step _ (fun k => by rw [trie_Formed.l0, if_neg hil, if_neg c1, if_neg c2, if_pos c3]) (Evt.bind hc ?_)
        by_cases c4 : false ∈ r.drop 1
        · rw [decide_eq_true c4, decide_eq_false (fun h : FormedQ t => (marks_all hm).1 c4 h.2.2.2.2.1)]
          exact j2_true _
        · rw [decide_eq_false c4]
          refine (j2_evt _ (by omega)).cast (decide_eq_decide.2 ⟨fun h => ⟨by omega, by omega, hN, hn, Classical.byContradiction (fun h2 => c4 ((marks_all hm).2 h2)), h⟩, fun h => h.2.2.2.2.2⟩)
  | succ d ih =>
    intro i r hi hm hn hN
    have hil : ((i : Nat) : Int) < ((t.length : Nat) : Int) := by omega
    have p0 : (0 : Int) ≤ (i : Int) := by omega
    have hr := right_evt t i p0 hil (hs.2.1 _ (node_mem t i p0 hil))
    by_cases c1 : NodeR t i
    · rw [decide_eq_true c1] at hr
      have hN2 : All (NodeR t) 0 ((i + 1 : Nat) : Int) := fun m a b => by
        by_cases e : m = i
        · subst e; exact c1
        · exact hN m a (by omega)
      have h1 := l1_go t hs i (by omega) c1 (fun r2 m2 n2 => ih (i + 1) r2 (by omega) m2 n2 hN2) (rd_T50 t (i : Int)).f1.length 0 r (by omega) (by simpa using hm) (by simpa using hn)
      exact Evt.step _ (fun k => by rw [trie_Formed.l0, if_pos hil]) (Evt.bind hr (Evt.eq _ (fun k => by rw [if_pos rfl, if_pos p0, if_pos hil]; rfl) h1))
    · rw [decide_eq_false c1] at hr
      rw [decide_eq_false (fun h : FormedQ t => c1 (h.2.2.1 i p0 hil))]
      exact Evt.step _ (fun k => by rw [trie_Formed.l0, if_pos hil]) (Evt.bind hr (Evt.eq _ (fun k => by rw [if_neg (by decide)]) Evt.const))
theorem trieFormed_evt : Evt (fun k => trie_Formed.f k t) (decide (FormedQ t)) := by
  have h := l0_go t hs t.length 0 (List.replicate t.length false) (by omega) (marks_nil _) List.nodup_nil (fun m a b => by omega)
  have p0 : (0 : Int) ≤ (t.length : Int) := by omega
  have p1 : ((t.length : Int) : Int).toNat ≤ 281474976710656 := by have := hs.1; omega
  exact Evt.eq _ (fun k => by rw [trie_Formed.f, if_pos p0, if_pos p1, Int.toNat_natCast]; rfl) h
end
end Go.Proofs.Ythlneooboiphdaa.PTrieShares

/- Paths of a trie: what the program answers. -/
set_option linter.unusedVariables false
set_option linter.unusedSimpArgs false
namespace Go.Proofs.Ythlneooboiphdaa.PTrieShares
open Go.RowKit Go.Proofs.Ythlneooboiphdaa Go.Proofs.YthlneooboiphdaaW.PrintWords Go.Proofs.YthlneooboiphdaaW.PrintLast Go.Proofs.YthlneooboiphdaaW.PrintMore
open Classical
theorem rd_get (l : List Int) (j : Nat) (h : j < l.length) : rd l (j : Int) = l[j] := by
  unfold rd
  rw [Int.toNat_natCast, List.getD_eq_getElem?_getD, List.getElem?_eq_getElem h]
  rfl
/-- What has been gone over: an element of it. -/
theorem proc_mem (g : S50 → List Int) (t : List S50) (i m a b : Nat) (ha : a < t.length) (hb : b < (g (rd_T50 t (a : Int))).length) (h : a < i ∨ (a = i ∧ b < m)) : rd (g (rd_T50 t (a : Int))) (b : Int) ∈ (t.take i).flatMap g ++ (g (rd_T50 t (i : Int))).take m := by
  rw [rd_get _ _ hb, List.mem_append]
  rcases h with h | ⟨rfl, h⟩
  · refine .inl (List.mem_flatMap.2 ⟨rd_T50 t (a : Int), ?_, List.getElem_mem hb⟩)
    rw [← rd_node t a ha]
    exact List.mem_take_iff_getElem.2 ⟨a, by omega, rfl⟩
  · exact .inr (List.mem_take_iff_getElem.2 ⟨b, by omega, rfl⟩)
/-- .. and it is whole. -/
theorem proc_cut (g : S50 → List Int) (t : List S50) (i m : Nat) (hi : i < t.length) (hm : m < (g (rd_T50 t (i : Int))).length) : ∃ r, t.flatMap g = ((t.take i).flatMap g ++ (g (rd_T50 t (i : Int))).take m) ++ rd (g (rd_T50 t (i : Int))) (m : Int) :: r := by
  refine ⟨(g (rd_T50 t (i : Int))).drop (m + 1) ++ (t.drop (i + 1)).flatMap g, ?_⟩
  have e : t = t.take i ++ (rd_T50 t (i : Int) :: t.drop (i + 1)) := by
    rw [← rd_node t i hi, ← List.drop_eq_getElem_cons hi, List.take_append_drop]
  have hB : g (rd_T50 t (i : Int)) = (g (rd_T50 t (i : Int))).take m ++ (g (rd_T50 t (i : Int)))[m] :: (g (rd_T50 t (i : Int))).drop (m + 1) := by
    rw [← List.drop_eq_getElem_cons hm, List.take_append_drop]
  have hT : t.flatMap g = (t.take i).flatMap g ++ (g (rd_T50 t (i : Int)) ++ (t.drop (i + 1)).flatMap g) := by
    have h2 := congrArg (fun z => List.flatMap g z) e
    simp only [List.flatMap_append, List.flatMap_cons] at h2
    exact h2
  rw [hT, rd_get _ _ hm]
  refine (congrArg (fun z => (t.take i).flatMap g ++ (z ++ (t.drop (i + 1)).flatMap g)) hB).trans ?_
  simp only [List.append_assoc, List.cons_append]
theorem proc_new (g : S50 → List Int) (t : List S50) (hn : (t.flatMap g).Nodup) (i m : Nat) (hi : i < t.length) (hm : m < (g (rd_T50 t (i : Int))).length) : rd (g (rd_T50 t (i : Int))) (m : Int) ∉ (t.take i).flatMap g ++ (g (rd_T50 t (i : Int))).take m := by
  obtain ⟨r, e⟩ := proc_cut g t i m hi hm
  rw [e] at hn
  intro h
  exact (List.nodup_append.1 hn).2.2 _ h _ List.mem_cons_self rfl
theorem rdL_set (x : List (List S53)) (v q : Int) (p : List S53) (h0 : 0 ≤ v) (h1 : v < x.length) (hq : 0 ≤ q) : rd_L3 (x.set v.toNat p) q = if q = v then p else rd_L3 x q := by
  unfold rd_L3
  rw [List.getD_eq_getElem?_getD, List.getElem?_set, List.getD_eq_getElem?_getD]
  by_cases e : q = v
  · subst e
    rw [if_pos rfl, if_pos (by omega), if_pos rfl]
    rfl
  · rw [if_neg (by omega), if_neg e]
/-- What the paths of the nodes gone over are. -/
def PInv (t : List S50) (x : List (List S53)) (i m : Nat) : Prop :=
  x.length = t.length ∧ (∀ q : Int, 0 ≤ q → (rd_L3 x q).length ≤ q.toNat) ∧
  ∀ a b : Nat, a < t.length → b < (rd_T50 t (a : Int)).f1.length → (a < i ∨ (a = i ∧ b < m)) → rd_L3 x (rd (rd_T50 t (a : Int)).f1 (b : Int)) = rd_L3 x (a : Int) ++ [rd_T53 (rd_T50 t (a : Int)).f0 (b : Int)]
def OInv (t : List S50) (p x : List (List S53)) (i m : Nat) : Prop :=
  x.length = (endS t t.length).length ∧ 
  ∀ a b : Nat, a < t.length → b < (rd_T50 t (a : Int)).f2.length → (a < i ∨ (a = i ∧ b < m)) → rd_L3 x (rd (rd_T50 t (a : Int)).f2 (b : Int)) = rd_L3 p (a : Int)
theorem or_step {a i b m : Nat} (hc : a < i ∨ (a = i ∧ b < m + 1)) (h2 : ¬ (a < i ∨ (a = i ∧ b < m))) : a = i ∧ b = m := by omega
theorem or_step2 {a i b m : Nat} (hc : a < i ∨ (a = i ∧ b < m + 1)) (h2 : ¬ (a = i ∧ b = m)) : a < i ∨ (a = i ∧ b < m) := by omega
theorem PInv.next {t : List S50} {x : List (List S53)} {i : Nat} (h : PInv t x i (rd_T50 t (i : Int)).f1.length) : PInv t x (i + 1) 0 :=
  ⟨h.1, h.2.1, fun a b ha hb hc => h.2.2 a b ha hb (by
    by_cases e : a = i
    · subst e; exact .inr ⟨rfl, hb⟩
    · omega)⟩
theorem OInv.next {t : List S50} {p x : List (List S53)} {i : Nat} (h : OInv t p x i (rd_T50 t (i : Int)).f2.length) : OInv t p x (i + 1) 0 :=
  ⟨h.1, fun a b ha hb hc => h.2 a b ha hb (by
    by_cases e : a = i
    · subst e; exact .inr ⟨rfl, hb⟩
    · omega)⟩
/-- The paths by their nodes, and by their numbers. -/
def PathsR (t : List S50) (p O : List (List S53)) : Prop := PInv t p t.length 0 ∧ OInv t p O t.length 0
section
variable (t : List S50) (hs : SmallT t) (hF : FormedQ t)
include hs hF
omit hs in
theorem ends_range (i m : Nat) (hi : i < t.length) (hm : m < (rd_T50 t (i : Int)).f2.length) : 0 ≤ rd (rd_T50 t (i : Int)).f2 (m : Int) ∧ rd (rd_T50 t (i : Int)).f2 (m : Int) < (endS t t.length).length := by
  have h1 : rd (rd_T50 t (i : Int)).f2 (m : Int) ∈ endS t t.length := by
    have := proc_mem (fun x => x.f2) t t.length 0 i m hi hm (.inl hi)
    rw [List.take_zero, List.append_nil] at this
    exact this
  have h2 := sorted_iota hF.2.2.2.2.2
  have h3 := (sorted_perm (endS t t.length)).mem_iff.2 h1
  rw [h2] at h3
  exact mem_iota.1 h3
omit hs in
theorem ends_nodup : (t.flatMap (fun x => x.f2)).Nodup := by
  have h2 := sorted_iota hF.2.2.2.2.2
  have h3 : (endS t t.length).Nodup := (sorted_perm (endS t t.length)).nodup_iff.1 (by rw [h2]; exact iota_nodup _)
  unfold endS at h3
  rw [List.take_length] at h3
  exact h3
omit hs in
theorem to_nodup : (t.flatMap (fun x => x.f1)).Nodup := by
  have h3 := hF.2.2.2.1
  unfold toS at h3
  rw [List.take_length] at h3
  exact h3
theorem l3_go (p : List (List S53)) (hp : PInv t p t.length 0) (i : Nat) (hi : i < t.length) (R : (List (List S53)) × Int)
    (next : ∀ x, OInv t p x (i + 1) 0 → ∃ O, PathsR t p O ∧ Evt (fun k => trie_Paths.l2 k p x t t.length ((i + 1 : Nat) : Int)) (O, 0)) :
    ∀ (d m : Nat) (x : List (List S53)), (rd_T50 t (i : Int)).f2.length = m + d → OInv t p x i m → ∃ O, PathsR t p O ∧ Evt (fun k => trie_Paths.l3 k p x i t t.length i (rd_T50 t (i : Int)).f2 (rd_T50 t (i : Int)).f2.length m) (O, 0) := by
  have h0 := hs.1
  have hx := hs.2.1 _ (node_mem t (i : Int) (by omega) (by omega))
  have hx2 := hx.2.2.1
  have hwi : wrap64 ((i : Int) + 1) = ((i + 1 : Nat) : Int) := by rw [w64_ (by omega) (by omega)]; omega
  intro d
  induction d with
  | zero =>
    intro m x hm ho
    have hml : ¬ ((m : Nat) : Int) < (((rd_T50 t (i : Int)).f2.length : Nat) : Int) := by omega
    rw [show m = (rd_T50 t (i : Int)).f2.length by omega] at ho
    obtain ⟨O, a, b⟩ := next x ho.next
    exact ⟨O, a, Evt.step _ (fun k => by rw [trie_Paths.l3, if_neg hml, hwi]) b⟩
  | succ d ih =>
    intro m x hm ho
    have hml : ((m : Nat) : Int) < (((rd_T50 t (i : Int)).f2.length : Nat) : Int) := by omega
    have q0 : (0 : Int) ≤ (m : Int) := by omega
    have p0 : (0 : Int) ≤ (i : Int) := by omega
    have p1 : (i : Int) < (p.length : Int) := by rw [hp.1]; omega
    have hw : wrap64 ((m : Int) + 1) = ((m + 1 : Nat) : Int) := by rw [w64_ (by omega) (by omega)]; omega
    obtain ⟨v0, v1⟩ := ends_range t hF i m hi (by omega)
    have v2 : rd (rd_T50 t (i : Int)).f2 (m : Int) < (x.length : Int) := by rw [ho.1]; exact v1
    have hcl : slices_Clone.f (rd_L3 p (i : Int)) = some (rd_L3 p (i : Int)) := by
      unfold slices_Clone.f
      have := hp.2.1 (i : Int) p0
      rw [if_pos (by omega)]
    have hnew : rd (rd_T50 t (i : Int)).f2 (m : Int) ∉ (t.take i).flatMap (fun x => x.f2) ++ (rd_T50 t (i : Int)).f2.take m := proc_new (fun x => x.f2) t (ends_nodup t hF) i m hi (show m < (rd_T50 t (i : Int)).f2.length by omega)
    obtain ⟨O, a, b⟩ := ih (m + 1) (x.set (rd (rd_T50 t (i : Int)).f2 (m : Int)).toNat (rd_L3 p (i : Int))) (by omega) ⟨by rw [List.length_set]; exact ho.1, fun a b ha hb hc => by
      have hr := ends_range t hF a b ha hb
      rw [rdL_set _ _ _ _ v0 v2 hr.1]
      by_cases e : rd (rd_T50 t (a : Int)).f2 (b : Int) = rd (rd_T50 t (i : Int)).f2 (m : Int)
      · rw [if_pos e]
        by_cases hc2 : a < i ∨ (a = i ∧ b < m)
        · have this : rd (rd_T50 t (a : Int)).f2 (b : Int) ∈ (t.take i).flatMap (fun x => x.f2) ++ (rd_T50 t (i : Int)).f2.take m := proc_mem (fun x => x.f2) t i m a b ha hb hc2
          rw [e] at this
          exact absurd this hnew
        · rw [(or_step hc hc2).1]
      · rw [if_neg e]
        refine ho.2 a b ha hb ?_
        by_cases hc2 : a = i ∧ b = m
        · exact absurd (by rw [hc2.1, hc2.2]) e
        · exact or_step2 hc hc2⟩
    exact ⟨O, a, Evt.step _ (fun k => by rw [trie_Paths.l3, if_pos hml, if_pos q0, if_pos hml, if_pos p0, if_pos p1, hcl, Option.bind_some, if_pos v0, if_pos v2, hw]) b⟩
theorem l2p_go (p : List (List S53)) (hp : PInv t p t.length 0) : ∀ (d i : Nat) (x : List (List S53)), t.length = i + d → OInv t p x i 0 → ∃ O, PathsR t p O ∧ Evt (fun k => trie_Paths.l2 k p x t t.length i) (O, 0) := by
  intro d
  induction d with
  | zero =>
    intro i x hi ho
    have e : i = t.length := by omega
    subst e
    have hil : ¬ ((t.length : Nat) : Int) < ((t.length : Nat) : Int) := by omega
    exact ⟨x, ⟨hp, ho⟩, Evt.done (fun k => by rw [trie_Paths.l2, if_neg hil])⟩
  | succ d ih =>
    intro i x hi ho
    have hil : ((i : Nat) : Int) < ((t.length : Nat) : Int) := by omega
    have p0 : (0 : Int) ≤ (i : Int) := by omega
    obtain ⟨O, a, b⟩ := l3_go t hs hF p hp i (by omega) (x, 0) (fun y hy => ih (i + 1) y (by omega) hy) (rd_T50 t (i : Int)).f2.length 0 x (by omega) ho
    exact ⟨O, a, Evt.step _ (fun k => by rw [trie_Paths.l2, if_pos hil, if_pos p0, if_pos hil]; rfl) b⟩
theorem l1p_go (i : Nat) (hi : i < t.length)
    (next : ∀ x, PInv t x (i + 1) 0 → ∃ p O, PathsR t p O ∧ Evt (fun k => trie_Paths.l0 k t x ((endS t (i + 1)).length : Nat) t t.length ((i + 1 : Nat) : Int)) (O, 0)) :
    ∀ (d m : Nat) (x : List (List S53)), (rd_T50 t (i : Int)).f1.length = m + d → PInv t x i m → ∃ p O, PathsR t p O ∧ Evt (fun k => trie_Paths.l1 k t x ((endS t i).length : Nat) i t t.length i (rd_T50 t (i : Int)).f1 (rd_T50 t (i : Int)).f1.length m (rd_T50 t (i : Int)).f0 (rd_T50 t (i : Int)).f1 (rd_T50 t (i : Int)).f2) (O, 0) := by
  have h0 := hs.1
  have hx := hs.2.1 _ (node_mem t (i : Int) (by omega) (by omega))
  have hx2 := hx.2.1
  have hN := hF.2.2.1 (i : Int) (by omega) (by omega)
  have hle := endS_le t (i + 1)
  have hE := hs.2.2.1
  have hl : (endS t (i + 1)).length = (endS t i).length + (rd_T50 t (i : Int)).f2.length := by rw [endS_succ t i (by omega), List.length_append]
  have hwi : wrap64 ((i : Int) + 1) = ((i + 1 : Nat) : Int) := by rw [w64_ (by omega) (by omega)]; omega
  have hwe : wrap64 ((((endS t i).length : Nat) : Int) + (((rd_T50 t (i : Int)).f2.length : Nat) : Int)) = (((endS t (i + 1)).length : Nat) : Int) := by rw [w64_ (by omega) (by omega)]; omega
  intro d
  induction d with
  | zero =>
    intro m x hm ho
    have hml : ¬ ((m : Nat) : Int) < (((rd_T50 t (i : Int)).f1.length : Nat) : Int) := by omega
    rw [show m = (rd_T50 t (i : Int)).f1.length by omega] at ho
    obtain ⟨p, O, a, b⟩ := next x ho.next
    exact ⟨p, O, a, Evt.step _ (fun k => by rw [trie_Paths.l1, if_neg hml, hwi, hwe]) b⟩
  | succ d ih =>
    intro m x hm ho
    have hml : ((m : Nat) : Int) < (((rd_T50 t (i : Int)).f1.length : Nat) : Int) := by omega
    have hml0 : ((m : Nat) : Int) < (((rd_T50 t (i : Int)).f0.length : Nat) : Int) := by have := hN.1; omega
    have q0 : (0 : Int) ≤ (m : Int) := by omega
    have p0 : (0 : Int) ≤ (i : Int) := by omega
    have p1 : (i : Int) < (x.length : Int) := by rw [ho.1]; omega
    have hw : wrap64 ((m : Int) + 1) = ((m + 1 : Nat) : Int) := by rw [w64_ (by omega) (by omega)]; omega
    have hst := hN.2.2.2 (m : Int) q0 hml0
    have s1 := hst.1
    have s2 := hst.2.1
    have v0 : 0 ≤ rd (rd_T50 t (i : Int)).f1 (m : Int) := by omega
    have v2 : rd (rd_T50 t (i : Int)).f1 (m : Int) < (x.length : Int) := by rw [ho.1]; exact s2
    have hlen := ho.2.1 (i : Int) p0
    have hcl : slices_Clone.f (rd_L3 x (i : Int)) = some (rd_L3 x (i : Int)) := by
      unfold slices_Clone.f
      rw [if_pos (by omega)]
    have hnew : rd (rd_T50 t (i : Int)).f1 (m : Int) ∉ (t.take i).flatMap (fun x => x.f1) ++ (rd_T50 t (i : Int)).f1.take m := proc_new (fun x => x.f1) t (to_nodup t hF) i m hi (show m < (rd_T50 t (i : Int)).f1.length by omega)
    obtain ⟨p, O, a, b⟩ := ih (m + 1) (x.set (rd (rd_T50 t (i : Int)).f1 (m : Int)).toNat (rd_L3 x (i : Int) ++ [rd_T53 (rd_T50 t (i : Int)).f0 (m : Int)])) (by omega) ⟨by rw [List.length_set]; exact ho.1, fun q hq => by
        rw [rdL_set _ _ _ _ v0 v2 hq]
        by_cases e : q = rd (rd_T50 t (i : Int)).f1 (m : Int)
        · rw [if_pos e, List.length_append, List.length_singleton]
          omega
        · rw [if_neg e]
          exact ho.2.1 q hq, fun a b ha hb hc => by
      have hNa := hF.2.2.1 (a : Int) (by omega) (by omega)
      have hsa := hNa.2.2.2 (b : Int) (by omega) (by have := hNa.1; omega)
      have sa1 := hsa.1
      have hai : a ≤ i := by omega
      have r1 : 0 ≤ rd (rd_T50 t (a : Int)).f1 (b : Int) := by omega
      have r2 : (0 : Int) ≤ (a : Int) := Int.natCast_nonneg a
      have r3 : ¬ (a : Int) = rd (rd_T50 t (i : Int)).f1 (m : Int) := by omega
      rw [rdL_set x _ _ _ v0 v2 r1, rdL_set x _ (a : Int) _ v0 v2 r2, if_neg r3]
      by_cases e : rd (rd_T50 t (a : Int)).f1 (b : Int) = rd (rd_T50 t (i : Int)).f1 (m : Int)
      · rw [if_pos e]
        by_cases hc2 : a < i ∨ (a = i ∧ b < m)
        · have this : rd (rd_T50 t (a : Int)).f1 (b : Int) ∈ (t.take i).flatMap (fun x => x.f1) ++ (rd_T50 t (i : Int)).f1.take m := proc_mem (fun x => x.f1) t i m a b ha hb hc2
          rw [e] at this
          exact absurd this hnew
        · obtain ⟨e1, e2⟩ := or_step hc hc2
          rw [e1, e2]
      · rw [if_neg e]
        refine ho.2.2 a b ha hb ?_
        by_cases hc2 : a = i ∧ b = m
        · exact absurd (by rw [hc2.1, hc2.2]) e
        · exact or_step2 hc hc2⟩
    have p3 : (rd_L3 x (i : Int)).length + [(⟨(rd_T53 (rd_T50 t (i : Int)).f0 (m : Int)).f0, (rd_T53 (rd_T50 t (i : Int)).f0 (m : Int)).f1, (rd_T53 (rd_T50 t (i : Int)).f0 (m : Int)).f2⟩ : S53)].length < 4398046511104 := by
      show _ + 1 < _
      omega
    exact ⟨p, O, a, Evt.step _ (fun k => by rw [trie_Paths.l1, if_pos hml, if_pos q0, if_pos hml, if_pos p0, if_pos p1, hcl, Option.bind_some, if_pos hml0, Option.bind_some, if_pos p3, if_pos v0, if_pos v2, hw]) b⟩
theorem l0p_go : ∀ (d i : Nat) (x : List (List S53)), t.length = i + d → PInv t x i 0 → ∃ p O, PathsR t p O ∧ Evt (fun k => trie_Paths.l0 k t x ((endS t i).length : Nat) t t.length i) (O, 0) := by
  have hE := hs.2.2.1
  intro d
  induction d with
  | zero =>
    intro i x hi ho
    have e : i = t.length := by omega
    subst e
    have hil : ¬ ((t.length : Nat) : Int) < ((t.length : Nat) : Int) := by omega
    have p0 : (0 : Int) ≤ (((endS t t.length).length : Nat) : Int) := by omega
    have p1 : ((((endS t t.length).length : Nat) : Int) : Int).toNat ≤ 11728124029610 := by omega
    obtain ⟨O, a, b⟩ := l2p_go t hs hF x ho t.length 0 (List.replicate (endS t t.length).length []) (by omega) ⟨List.length_replicate, fun a b ha hb hc => by omega⟩
    exact ⟨x, O, a, Evt.step _ (fun k => by rw [trie_Paths.l0, if_neg hil, if_pos p0, if_pos p1, Int.toNat_natCast]; rfl) b⟩
  | succ d ih =>
    intro i x hi ho
    have hil : ((i : Nat) : Int) < ((t.length : Nat) : Int) := by omega
    have p0 : (0 : Int) ≤ (i : Int) := by omega
    obtain ⟨p, O, a, b⟩ := l1p_go t hs hF i (by omega) (fun y hy => ih (i + 1) y (by omega) hy) (rd_T50 t (i : Int)).f1.length 0 x (by omega) ho
    exact ⟨p, O, a, Evt.step _ (fun k => by rw [trie_Paths.l0, if_pos hil, if_pos p0, if_pos hil]; rfl) b⟩
theorem paths_formed : ∃ p O, PathsR t p O ∧ Evt (fun k => trie_Paths.f k t) (O, 0) := by
  have h0 := hs.1
  have hf := trieFormed_evt t hs
  rw [decide_eq_true hF] at hf
  have p0 : (0 : Int) ≤ (t.length : Int) := by omega
  have p1 : ((t.length : Int) : Int).toNat ≤ 11728124029610 := by omega
  obtain ⟨p, O, a, b⟩ := l0p_go t hs hF t.length 0 (List.replicate t.length []) (by omega) ⟨List.length_replicate, fun q hq => by
    unfold rd_L3
    rw [List.getD_eq_getElem?_getD, List.getElem?_replicate]
    split <;> exact Nat.zero_le _, fun a b ha hb hc => by omega⟩
  exact ⟨p, O, a, Evt.eq _ (fun k => by rw [trie_Paths.f]) (Evt.bind hf (Evt.eq _ (fun k => by rw [if_pos rfl, if_pos p0, if_pos p1, Int.toNat_natCast]; rfl) b))⟩
end
theorem paths_unformed (t : List S50) (hs : SmallT t) (hF : ¬ FormedQ t) : Evt (fun k => trie_Paths.f k t) ([], 1) := by
  have hf := trieFormed_evt t hs
  rw [decide_eq_false hF] at hf
  exact Evt.eq _ (fun k => by rw [trie_Paths.f]) (Evt.bind hf (Evt.eq _ (fun k => by rw [if_neg (by decide)]) Evt.const))
end Go.Proofs.Ythlneooboiphdaa.PTrieShares

/- The trie that trie.Build builds: each node has its path. -/
set_option linter.unusedVariables false
set_option linter.unusedSimpArgs false
namespace Go.Proofs.Ythlneooboiphdaa.PTrieShares
open Go.RowKit Go.Proofs.Ythlneooboiphdaa Go.Proofs.YthlneooboiphdaaW.PrintWords Go.Proofs.YthlneooboiphdaaW.PrintLast Go.Proofs.YthlneooboiphdaaW.PrintMore
/-! What the trie that is built holds: each node has its path, the beginnings of the paths, each once. -/
theorem bytes_loop (b : ByteArray) : ∀ (d i : Nat) (r : List UInt8), b.size = i + d → ByteArray.toList.loop b i r = r.reverse ++ b.data.toList.drop i := by
  intro d
  induction d with
  | zero =>
    intro i r h
    rw [ByteArray.toList.loop, if_neg (by omega), List.drop_of_length_le (by rw [Array.length_toList]; show b.size ≤ i; omega), List.append_nil]
  | succ d ih =>
    intro i r h
    rw [ByteArray.toList.loop, if_pos (by omega), ih (i + 1) _ (by omega), List.reverse_cons, List.append_assoc]
    congr 1
    have hl : i < b.data.toList.length := by rw [Array.length_toList]; show i < b.size; omega
    rw [List.drop_eq_getElem_cons hl]
    have h2 : i < b.data.size := by show i < b.size; omega
    have : b.get! i = b.data.toList[i] := by
      show b.data[i]! = _
      rw [getElem!_pos b.data i h2, Array.getElem_toList]
    rw [this]
    rfl
theorem bytes_toList (b : ByteArray) : b.toList = b.data.toList := by
  unfold ByteArray.toList
  rw [bytes_loop b b.size 0 [] (by omega)]
  simp
theorem bytes_inj {a b : ByteArray} (h : a.toList = b.toList) : a = b := by
  rw [bytes_toList, bytes_toList] at h
  exact ByteArray.ext (Array.toList_inj.1 h)
theorem sameS_iff {a b : S53} : sameS a b = true ↔ a = b := by
  unfold sameS
  simp only [Bool.and_eq_true, decide_eq_true_eq]
  constructor
  · rintro ⟨h0, h1, h2⟩
    have := bytes_inj h1
    cases a; cases b
    simp_all
  · rintro rfl
    exact ⟨rfl, rfl, rfl⟩
section
open Classical
theorem findS_get {l : List S53} {s : S53} {m : Nat} (h : findS l s = some m) : l[m]? = some s := by
  obtain ⟨h1, h2, _⟩ := List.findIdx?_eq_some_iff_getElem.1 h
  rw [List.getElem?_eq_getElem h1, sameS_iff.1 h2]
theorem findS_none {l : List S53} {s : S53} (h : findS l s = none) : s ∉ l := fun hs => by
  have := List.findIdx?_eq_none_iff.1 h s hs
  rw [sameS_iff.2 rfl] at this
  cases this
theorem nodup_idx {α : Type} {l : List α} (h : l.Nodup) {i j : Nat} {x : α} (hi : l[i]? = some x) (hj : l[j]? = some x) : i = j := by
  obtain ⟨h1, e1⟩ := List.getElem?_eq_some_iff.1 hi
  obtain ⟨h2, e2⟩ := List.getElem?_eq_some_iff.1 hj
  exact (List.getElem_inj h).1 (e1.trans e2.symm)
theorem snoc_inj {α : Type} {x y : List α} {a b : α} (h : x ++ [a] = y ++ [b]) : x = y ∧ a = b := by
  have := List.append_inj' h rfl
  exact ⟨this.1, by simpa using this.2⟩
noncomputable def endsOf (l : List (List S53)) (i : Nat) (x : List S53) : List Int := ((List.range i).filter (fun k => decide (rdP l k = x))).map (fun (k : Nat) => (k : Int))
/-- Node by node: q tells each node's path. -/
structure WQ (l : List (List S53)) (i : Nat) (T : List PN) (q : List (List S53)) : Prop where
  len : q.length = T.length
  zero : q[0]? = some []
  inj : q.Nodup
  kids : ∀ (a j m : Nat) (n : PN) (x : List S53) (s : S53), T[a]? = some n → q[a]? = some x → n.nx[j]? = some m → n.st[j]? = some s → a < m ∧ q[m]? = some (x ++ [s])
  same : ∀ (a : Nat) (n : PN), T[a]? = some n → n.nx.length = n.st.length ∧ n.st.Nodup
  par : ∀ (m : Nat) (y : List S53), q[m]? = some y → 0 < m → ∃ (a : Nat) (n : PN) (j : Nat) (x : List S53) (s : S53), T[a]? = some n ∧ q[a]? = some x ∧ n.nx[j]? = some m ∧ n.st[j]? = some s ∧ y = x ++ [s]
  ends : ∀ (a : Nat) (n : PN) (x : List S53), T[a]? = some n → q[a]? = some x → n.en = endsOf l i x
  has : ∀ k, k < i → rdP l k ∈ q
theorem wq_start (l : List (List S53)) : WQ l 0 [noP] [[]] where
  len := rfl
  zero := rfl
  inj := by simp
  kids := fun a j m n x s h => by
    obtain ⟨h1, h2⟩ := List.getElem?_eq_some_iff.1 h
    have : a = 0 := by simpa using h1
    subst this
    obtain rfl : noP = n := h2
    intro _ h3
    simp [noP] at h3
  same := fun a n h => by
    obtain ⟨h1, h2⟩ := List.getElem?_eq_some_iff.1 h
    have : a = 0 := by simpa using h1
    subst this
    obtain rfl : noP = n := h2
    exact ⟨rfl, List.nodup_nil⟩
  par := fun m y h hm => by
    have := (List.getElem?_eq_some_iff.1 h).1
    simp at this
    omega
  ends := fun a n x h _ => by
    obtain ⟨h1, h2⟩ := List.getElem?_eq_some_iff.1 h
    have : a = 0 := by simpa using h1
    subst this
    obtain rfl : noP = n := h2
    rfl
  has := fun k h => by omega
variable {l : List (List S53)} {i : Nat} {T : List PN} {q : List (List S53)}
theorem WQ.get (h : WQ l i T q) {a : Nat} {x : List S53} (ha : q[a]? = some x) : ∃ n, T[a]? = some n := by
  have := (List.getElem?_eq_some_iff.1 ha).1
  rw [h.len] at this
  exact ⟨_, List.getElem?_eq_getElem this⟩
theorem WQ.step (h : WQ l i T q) {a : Nat} {x : List S53} (ha : q[a]? = some x) (s : S53) :
    ∃ q', WQ l i (stepP T a s).1 q' ∧ q'[(stepP T a s).2]? = some (x ++ [s]) ∧ q' = if x ++ [s] ∈ q then q else q ++ [x ++ [s]] := by
  obtain ⟨n, hn⟩ := h.get ha
  have haT : a < T.length := (List.getElem?_eq_some_iff.1 hn).1
  unfold stepP
  rw [hn]
  simp only
  cases hf : findS n.st s with
  | some m =>
    simp only
    have hst := findS_get hf
    have hml : m < n.nx.length := by
      rw [(h.same a n hn).1]
      exact (List.getElem?_eq_some_iff.1 hst).1
    have hnx : n.nx[m]? = some (n.nx.getD m 0) := by
      rw [List.getD_eq_getElem?_getD, List.getElem?_eq_getElem hml]
      rfl
    have hk := h.kids a m _ n x s hn ha hnx hst
    have hin : x ++ [s] ∈ q := List.mem_of_getElem? hk.2
    exact ⟨q, h, hk.2, by rw [if_pos hin]⟩
  | none =>
    simp only
    have hns := findS_none hf
    have hout : x ++ [s] ∉ q := by
      intro hin
      obtain ⟨m, hm⟩ := List.getElem?_of_mem hin
      have hm0 : 0 < m := by
        rcases Nat.eq_zero_or_pos m with rfl | h0
        · rw [h.zero] at hm
          simp at hm
        · exact h0
      obtain ⟨a', n', j, x', s', h1, h2, h3, h4, h5⟩ := h.par m _ hm hm0
      obtain ⟨rfl, rfl⟩ := snoc_inj h5
      have := nodup_idx h.inj ha h2
      subst this
      rw [hn] at h1
      obtain rfl := Option.some.inj h1
      exact hns (List.mem_of_getElem? h4)
    refine ⟨q ++ [x ++ [s]], ?_, ?_, by rw [if_neg hout]⟩
    rotate_left
    · rw [List.getElem?_append_right (by rw [h.len]; exact Nat.le_refl _), h.len, Nat.sub_self]
      rfl
    -- what a place of the new lists holds
    have qold : ∀ (b : Nat) (y : List S53), b < T.length → (q ++ [x ++ [s]])[b]? = some y → q[b]? = some y := fun b y hb hy => by
      rwa [List.getElem?_append_left (by rw [h.len]; exact hb)] at hy
    have qnew : ∀ (b : Nat) (y : List S53), q[b]? = some y → (q ++ [x ++ [s]])[b]? = some y := fun b y hy => by
      rw [List.getElem?_append_left (List.getElem?_eq_some_iff.1 hy).1]
      exact hy
    have qlast : (q ++ [x ++ [s]])[T.length]? = some (x ++ [s]) := by
      rw [List.getElem?_append_right (by rw [h.len]; exact Nat.le_refl _), h.len, Nat.sub_self]
      rfl
    have tcase : ∀ (b : Nat) (k : PN), (T.set a ⟨n.st ++ [s], n.nx ++ [T.length], n.en⟩ ++ [noP])[b]? = some k → (b = T.length ∧ k = noP) ∨ (b = a ∧ k = ⟨n.st ++ [s], n.nx ++ [T.length], n.en⟩) ∨ (b ≠ a ∧ b < T.length ∧ T[b]? = some k) := fun b k hb => by
      rcases Nat.lt_or_ge b T.length with h1 | h1
      · rw [List.getElem?_append_left (by rw [List.length_set]; exact h1), List.getElem?_set] at hb
        by_cases e : a = b
        · subst e
          rw [if_pos rfl, if_pos h1] at hb
          exact .inr (.inl ⟨rfl, (Option.some.inj hb).symm⟩)
        · rw [if_neg e] at hb
          exact .inr (.inr ⟨fun h => e h.symm, h1, hb⟩)
      · have h2 := (List.getElem?_eq_some_iff.1 hb).1
        rw [List.length_append, List.length_set, List.length_singleton] at h2
        have : b = T.length := by omega
        subst this
        rw [List.getElem?_append_right (by rw [List.length_set]; exact Nat.le_refl _), List.length_set, Nat.sub_self] at hb
        exact .inl ⟨rfl, (Option.some.inj hb).symm⟩
    have tset : (T.set a ⟨n.st ++ [s], n.nx ++ [T.length], n.en⟩ ++ [noP])[a]? = some ⟨n.st ++ [s], n.nx ++ [T.length], n.en⟩ := by
      rw [List.getElem?_append_left (by rw [List.length_set]; exact haT), List.getElem?_set, if_pos rfl, if_pos haT]
    have told : ∀ (b : Nat) (k : PN), b ≠ a → T[b]? = some k → (T.set a ⟨n.st ++ [s], n.nx ++ [T.length], n.en⟩ ++ [noP])[b]? = some k := fun b k hne hb => by
      rw [List.getElem?_append_left (by rw [List.length_set]; exact (List.getElem?_eq_some_iff.1 hb).1), List.getElem?_set_ne (fun e => hne e.symm)]
      exact hb
    refine ⟨?_, qnew _ _ h.zero, ?_, ?_, ?_, ?_, ?_, fun k hk => List.mem_append_left _ (h.has k hk)⟩
    · rw [List.length_append, List.length_append, List.length_set, h.len]
      rfl
    · rw [List.nodup_append]
      refine ⟨h.inj, by simp, fun y hy z hz e => ?_⟩
      rw [List.mem_singleton] at hz
      subst hz
      subst e
      exact hout hy
    · intro b j m k y t hb hy hj ht
      rcases tcase b k hb with ⟨rfl, rfl⟩ | ⟨rfl, rfl⟩ | ⟨hne, hlt, hb2⟩
      · simp [noP] at hj
      · have hy2 := qold b y haT hy
        rw [ha] at hy2
        obtain rfl := Option.some.inj hy2
        have hll := (h.same b n hn).1
        rcases Nat.lt_or_ge j n.nx.length with h1 | h1
        · have hj2 : n.nx[j]? = some m := by
            rwa [show (PN.mk (n.st ++ [s]) (n.nx ++ [T.length]) n.en).nx = n.nx ++ [T.length] from rfl, List.getElem?_append_left h1] at hj
          have ht2 : n.st[j]? = some t := by
            rwa [show (PN.mk (n.st ++ [s]) (n.nx ++ [T.length]) n.en).st = n.st ++ [s] from rfl, List.getElem?_append_left (by omega)] at ht
          have := h.kids b j m n x t hn ha hj2 ht2
          exact ⟨this.1, qnew _ _ this.2⟩
        · have hj2 : j = n.nx.length := by
            have := (List.getElem?_eq_some_iff.1 hj).1
            simp at this
            omega
          subst hj2
          have hm : T.length = m := by simpa using hj
          have hs : s = t := by
            rw [hll] at ht
            simpa using ht
          subst hm
          subst hs
          exact ⟨haT, qlast⟩
      · have hy2 := qold b y hlt hy
        have := h.kids b j m k y t hb2 hy2 hj ht
        exact ⟨this.1, qnew _ _ this.2⟩
    · intro b k hb
      rcases tcase b k hb with ⟨rfl, rfl⟩ | ⟨rfl, rfl⟩ | ⟨hne, hlt, hb2⟩
      · exact ⟨rfl, List.nodup_nil⟩
      · have hs := h.same b n hn
        refine ⟨by simp [hs.1], ?_⟩
        rw [List.nodup_append]
        refine ⟨hs.2, by simp, fun y hy z hz e => ?_⟩
        rw [List.mem_singleton] at hz
        subst hz
        subst e
        exact hns hy
      · exact h.same b k hb2
    · intro m y hm h0
      rcases Nat.lt_or_ge m T.length with h1 | h1
      · obtain ⟨b, k, j, z, t, h2, h3, h4, h5, h6⟩ := h.par m y (qold m y h1 hm) h0
        by_cases e : b = a
        · subst e
          rw [hn] at h2
          obtain rfl := Option.some.inj h2
          refine ⟨b, _, j, z, t, tset, qnew _ _ h3, ?_, ?_, h6⟩
          · show (n.nx ++ [T.length])[j]? = some m
            rw [List.getElem?_append_left (List.getElem?_eq_some_iff.1 h4).1]
            exact h4
          · show (n.st ++ [s])[j]? = some t
            rw [List.getElem?_append_left (List.getElem?_eq_some_iff.1 h5).1]
            exact h5
        · exact ⟨b, k, j, z, t, told b k e h2, qnew _ _ h3, h4, h5, h6⟩
      · have h2 := (List.getElem?_eq_some_iff.1 hm).1
        rw [List.length_append, List.length_singleton, h.len] at h2
        have : m = T.length := by omega
        subst this
        rw [qlast] at hm
        obtain rfl := Option.some.inj hm
        refine ⟨a, _, n.nx.length, x, s, tset, qnew _ _ ha, ?_, ?_, rfl⟩
        · show (n.nx ++ [T.length])[n.nx.length]? = some T.length
          simp
        · show (n.st ++ [s])[n.nx.length]? = some s
          rw [(h.same a n hn).1]
          simp
    · intro b k y hb hy
      rcases tcase b k hb with ⟨rfl, rfl⟩ | ⟨rfl, rfl⟩ | ⟨hne, hlt, hb2⟩
      · rw [qlast] at hy
        obtain rfl := Option.some.inj hy
        show [] = endsOf l i (x ++ [s])
        unfold endsOf
        have : (List.range i).filter (fun k => decide (rdP l k = x ++ [s])) = [] := by
          rw [List.filter_eq_nil_iff]
          intro k hk hd
          have := of_decide_eq_true hd
          exact hout (this ▸ h.has k (List.mem_range.1 hk))
        rw [this]
        rfl
      · exact h.ends b n y hn (qold b y haT hy)
      · exact h.ends b k y hb2 (qold b y hlt hy)
theorem pre_step {p : List S53} {j : Nat} (h : j < p.length) : p.take (j + 1) = p.take j ++ [rd_T53 p (j : Int)] := by
  rw [List.take_succ_eq_append_getElem h]
  congr 1
  have := rd_some p j h
  rw [List.getElem?_eq_getElem h] at this
  rw [Option.some.inj this]
theorem WQ.walk (h : WQ l i T q) (p : List S53) : ∀ j, j ≤ p.length → ∃ q', WQ l i (walkN T p j).1 q' ∧ q'[(walkN T p j).2]? = some (p.take j) ∧ (∀ y, y ∈ q' ↔ y ∈ q ∨ ∃ t, t ≤ j ∧ y = p.take t)
  | 0, _ => ⟨q, h, by rw [List.take_zero]; exact h.zero, fun y => ⟨fun hy => .inl hy, fun hy => hy.elim id (fun ⟨t, ht, e⟩ => by
      obtain rfl : t = 0 := by omega
      rw [e, List.take_zero]
      exact List.mem_of_getElem? h.zero)⟩⟩
  | j + 1, hj => by
    obtain ⟨q1, h1, h2, h3⟩ := WQ.walk h p j (by omega)
    obtain ⟨q2, g1, g2, g3⟩ := h1.step h2 (rd_T53 p (j : Int))
    rw [← pre_step (by omega)] at g2 g3
    refine ⟨q2, g1, g2, fun y => ?_⟩
    have hq : y ∈ q2 ↔ y ∈ q1 ∨ y = p.take (j + 1) := by
      rw [g3]
      by_cases e : p.take (j + 1) ∈ q1
      · rw [if_pos e]
        exact ⟨fun hy => .inl hy, fun hy => hy.elim id (fun e2 => e2 ▸ e)⟩
      · rw [if_neg e, List.mem_append, List.mem_singleton]
    rw [hq, h3 y]
    constructor
    · rintro ((hy | ⟨t, ht, e⟩) | e)
      · exact .inl hy
      · exact .inr ⟨t, by omega, e⟩
      · exact .inr ⟨j + 1, Nat.le_refl _, e⟩
    · rintro (hy | ⟨t, ht, e⟩)
      · exact .inl (.inl hy)
      · by_cases et : t = j + 1
        · subst et
          exact .inr e
        · exact .inl (.inr ⟨t, by omega, e⟩)
theorem endsOf_succ (x : List S53) : endsOf l (i + 1) x = endsOf l i x ++ if rdP l i = x then [(i : Int)] else [] := by
  unfold endsOf
  rw [List.range_succ, List.filter_append, List.map_append]
  by_cases e : rdP l i = x
  · simp [e]
  · simp [e]
theorem WQ.end_ (h : WQ l i T q) {a : Nat} (ha : q[a]? = some (rdP l i)) : WQ l (i + 1) (endP T a i) q := by
  obtain ⟨n, hn⟩ := h.get ha
  have haT : a < T.length := (List.getElem?_eq_some_iff.1 hn).1
  unfold endP
  rw [hn]
  simp only
  have tcase : ∀ (b : Nat) (k : PN), (T.set a ⟨n.st, n.nx, n.en ++ [(i : Int)]⟩)[b]? = some k → (b = a ∧ k = ⟨n.st, n.nx, n.en ++ [(i : Int)]⟩) ∨ (b ≠ a ∧ T[b]? = some k) := fun b k hb => by
    rw [List.getElem?_set] at hb
    by_cases e : a = b
    · subst e
      rw [if_pos rfl, if_pos haT] at hb
      exact .inl ⟨rfl, (Option.some.inj hb).symm⟩
    · rw [if_neg e] at hb
      exact .inr ⟨fun h => e h.symm, hb⟩
  refine ⟨by rw [List.length_set]; exact h.len, h.zero, h.inj, ?_, ?_, ?_, ?_, ?_⟩
  · intro b j m k y t hb hy hj ht
    rcases tcase b k hb with ⟨rfl, rfl⟩ | ⟨hne, hb2⟩
    · exact h.kids b j m n y t hn hy hj ht
    · exact h.kids b j m k y t hb2 hy hj ht
  · intro b k hb
    rcases tcase b k hb with ⟨rfl, rfl⟩ | ⟨hne, hb2⟩
    · exact h.same b n hn
    · exact h.same b k hb2
  · intro m y hm h0
    obtain ⟨b, k, j, z, t, h2, h3, h4, h5, h6⟩ := h.par m y hm h0
    by_cases e : b = a
    · subst e
      rw [hn] at h2
      obtain rfl := Option.some.inj h2
      exact ⟨b, ⟨n.st, n.nx, n.en ++ [(i : Int)]⟩, j, z, t, by rw [List.getElem?_set, if_pos rfl, if_pos haT], h3, h4, h5, h6⟩
    · exact ⟨b, k, j, z, t, by rw [List.getElem?_set_ne (fun q => e q.symm)]; exact h2, h3, h4, h5, h6⟩
  · intro b k y hb hy
    rcases tcase b k hb with ⟨rfl, rfl⟩ | ⟨hne, hb2⟩
    · rw [ha] at hy
      obtain rfl := Option.some.inj hy
      rw [endsOf_succ, if_pos rfl, ← h.ends b n _ hn ha]
    · have : ¬ rdP l i = y := fun e => hne (nodup_idx h.inj (e ▸ hy) ha)
      rw [endsOf_succ, if_neg this, List.append_nil]
      exact h.ends b k y hb2 hy
  · intro k hk
    by_cases e : k = i
    · subst e
      exact List.mem_of_getElem? ha
    · exact h.has k (by omega)
theorem wq_build (l : List (List S53)) : ∀ i, ∃ q, WQ l i (buildN l i) q ∧ ∀ y, y ∈ q ↔ y = [] ∨ ∃ k, k < i ∧ ∃ t, t ≤ (rdP l k).length ∧ y = (rdP l k).take t
  | 0 => ⟨[[]], wq_start l, fun y => by
      rw [List.mem_singleton]
      exact ⟨fun h => .inl h, fun h => h.elim id (fun ⟨k, hk, _⟩ => by omega)⟩⟩
  | i + 1 => by
    obtain ⟨q, h, hq⟩ := wq_build l i
    obtain ⟨q1, h1, h2, h3⟩ := h.walk (rdP l i) (rdP l i).length (Nat.le_refl _)
    rw [List.take_length] at h2
    refine ⟨q1, h1.end_ h2, fun y => ?_⟩
    rw [h3, hq]
    constructor
    · rintro ((e | ⟨k, hk, r⟩) | ⟨t, ht, e⟩)
      · exact .inl e
      · exact .inr ⟨k, by omega, r⟩
      · exact .inr ⟨i, by omega, t, ht, e⟩
    · rintro (e | ⟨k, hk, t, ht, e⟩)
      · exact .inl (.inl e)
      · by_cases ek : k = i
        · subst ek
          exact .inr ⟨t, ht, e⟩
        · exact .inl (.inr ⟨k, by omega, t, ht, e⟩)
end
end Go.Proofs.Ythlneooboiphdaa.PTrieShares

/- .. and it is well shaped, its paths those that it was built of. -/
set_option linter.unusedVariables false
set_option linter.unusedSimpArgs false
namespace Go.Proofs.Ythlneooboiphdaa.PTrieShares
open Go.RowKit Go.Proofs.Ythlneooboiphdaa Go.Proofs.YthlneooboiphdaaW.PrintWords Go.Proofs.YthlneooboiphdaaW.PrintLast Go.Proofs.YthlneooboiphdaaW.PrintMore
theorem sameQ_iff {a b : S53} : sameQ a b = true ↔ a = b := by
  unfold sameQ
  simp only [Bool.and_eq_true, beq_iff_eq]
  constructor
  · rintro ⟨h0, h1, h2⟩
    have := bytes_inj h1
    cases a; cases b
    simp_all
  · rintro rfl
    exact ⟨rfl, rfl, rfl⟩
/-! The nodes that go out: a trie that is well shaped, of just those paths. -/
section
open Classical
variable {l : List (List S53)} {i : Nat} {T : List PN} {q : List (List S53)}
theorem outP_len (T : List PN) : (outP T).length = T.length := by simp [outP]
theorem out_rd {T : List PN} {a : Nat} {n : PN} (h : T[a]? = some n) : rd_T50 (outP T) (a : Int) = ⟨n.st, n.nx.map (fun (m : Nat) => (m : Int)), n.en⟩ := by
  unfold rd_T50 outP
  rw [Int.toNat_natCast, List.getD_eq_getElem?_getD, List.getElem?_map, h]
  rfl
theorem rd_castN {u : List Nat} {j m : Nat} (h : u[j]? = some m) : rd (u.map (fun (m : Nat) => (m : Int))) (j : Int) = (m : Int) := by
  unfold rd
  rw [Int.toNat_natCast, List.getD_eq_getElem?_getD, List.getElem?_map, h]
  rfl
theorem rd_step {u : List S53} {j : Nat} {s : S53} (h : u[j]? = some s) : rd_T53 u (j : Int) = s := by
  have h1 := (List.getElem?_eq_some_iff.1 h).1
  rw [rd_some u j h1] at h
  exact Option.some.inj h
theorem mem_endsOf {x : Int} {y : List S53} : x ∈ endsOf l i y ↔ ∃ k : Nat, k < i ∧ rdP l k = y ∧ x = (k : Int) := by
  unfold endsOf
  rw [List.mem_map]
  constructor
  · rintro ⟨k, hk, rfl⟩
    rw [List.mem_filter, List.mem_range] at hk
    exact ⟨k, hk.1, of_decide_eq_true hk.2, rfl⟩
  · rintro ⟨k, h1, h2, rfl⟩
    exact ⟨k, by rw [List.mem_filter, List.mem_range]; exact ⟨h1, decide_eq_true h2⟩, rfl⟩
theorem endsOf_pw (y : List S53) : (endsOf l i y).Pairwise (· < ·) := by
  unfold endsOf
  rw [List.pairwise_map]
  exact (List.Pairwise.filter _ List.pairwise_lt_range).imp (fun h => by omega)
theorem rises_of {u : List Int} (h : u.Pairwise (· < ·)) : Rises u := by
  intro m h1 h2
  have h3 := List.pairwise_iff_getElem.1 h (m - 1).toNat m.toNat (by omega) (by omega) (by omega)
  show rd u (m - 1) < rd u m
  unfold rd
  rw [List.getD_eq_getElem?_getD, List.getElem?_eq_getElem (by omega), List.getD_eq_getElem?_getD, List.getElem?_eq_getElem (by omega)]
  exact h3
theorem WQ.path (h : WQ l i T q) {a : Nat} {n : PN} (hn : T[a]? = some n) : ∃ x, q[a]? = some x := by
  have := (List.getElem?_eq_some_iff.1 hn).1
  rw [← h.len] at this
  exact ⟨_, List.getElem?_eq_getElem this⟩
theorem WQ.node (h : WQ l i T q) (hok : ∀ y ∈ q, ∀ s ∈ y, okS s = true) {a : Nat} {n : PN} (hn : T[a]? = some n) : NodeR (outP T) (a : Int) := by
  obtain ⟨x, hx⟩ := h.path hn
  obtain ⟨hs, hnd⟩ := h.same a n hn
  unfold NodeR
  rw [out_rd hn, outP_len]
  simp only [List.length_map]
  have kid : ∀ (j : Nat) (s : S53), n.st[j]? = some s → ∃ m : Nat, n.nx[j]? = some m ∧ a < m ∧ q[m]? = some (x ++ [s]) := fun j s hj => by
    have hl := (List.getElem?_eq_some_iff.1 hj).1
    have hm : n.nx[j]? = some (n.nx[j]'(by omega)) := List.getElem?_eq_getElem (by omega)
    exact ⟨_, hm, h.kids a j _ n x s hn hx hm hj⟩
  refine ⟨hs.symm, ?_, ?_, ?_⟩
  · rw [h.ends a n x hn hx]
    exact rises_of (endsOf_pw x)
  · rw [List.all_eq_true]
    intro s hs2
    obtain ⟨j, hj⟩ := List.getElem?_of_mem hs2
    obtain ⟨m, h1, h2, h3⟩ := kid j s hj
    exact hok _ (List.mem_of_getElem? h3) s (by simp)
  · intro m h0 h1
    obtain ⟨j, rfl⟩ := Int.eq_ofNat_of_zero_le h0
    have hj : j < n.st.length := by omega
    have hst : n.st[j]? = some n.st[j] := List.getElem?_eq_getElem hj
    obtain ⟨m, g1, g2, g3⟩ := kid j _ hst
    have hm := (List.getElem?_eq_some_iff.1 g3).1
    rw [h.len] at hm
    refine ⟨?_, ?_, ?_⟩
    · rw [rd_castN g1]; omega
    · rw [rd_castN g1]; omega
    · intro b b0 b1
      obtain ⟨c, rfl⟩ := Int.eq_ofNat_of_zero_le b0
      have hc : n.st[c]? = some (n.st[c]'(by omega)) := List.getElem?_eq_getElem (by omega)
      show sameQ (rd_T53 n.st (c : Int)) (rd_T53 n.st (j : Int)) = false
      rw [rd_step hst, rd_step hc]
      cases e : sameQ (n.st[c]'(by omega)) n.st[j] with
      | false => rfl
      | true =>
        have := (List.getElem_inj hnd).1 (sameQ_iff.1 e)
        omega
theorem WQ.ends_pw (h : WQ l i T q) : (T.flatMap (fun n => n.en)).Nodup := by
  unfold List.Nodup
  rw [List.pairwise_flatMap]
  refine ⟨fun n hn => ?_, List.pairwise_iff_getElem.2 (fun a b ha hb hab => ?_)⟩
  · obtain ⟨a, ha⟩ := List.getElem?_of_mem hn
    obtain ⟨x, hx⟩ := h.path ha
    rw [h.ends a n x ha hx]
    exact (endsOf_pw x).imp (fun h => by omega)
  · intro u hu v hv e
    subst e
    have ha2 : T[a]? = some T[a] := List.getElem?_eq_getElem ha
    have hb2 : T[b]? = some T[b] := List.getElem?_eq_getElem hb
    obtain ⟨x, hx⟩ := h.path ha2
    obtain ⟨y, hy⟩ := h.path hb2
    rw [h.ends a _ x ha2 hx, mem_endsOf] at hu
    rw [h.ends b _ y hb2 hy, mem_endsOf] at hv
    obtain ⟨k, _, k1, k2⟩ := hu
    obtain ⟨k', _, k3, k4⟩ := hv
    have : k = k' := by omega
    subst this
    rw [k1] at k3
    subst k3
    have := nodup_idx h.inj hx hy
    omega
theorem WQ.ends_mem (h : WQ l i T q) (x : Int) : x ∈ T.flatMap (fun n => n.en) ↔ 0 ≤ x ∧ x < i := by
  rw [List.mem_flatMap]
  constructor
  · rintro ⟨n, hn, hx⟩
    obtain ⟨a, ha⟩ := List.getElem?_of_mem hn
    obtain ⟨y, hy⟩ := h.path ha
    rw [h.ends a n y ha hy, mem_endsOf] at hx
    obtain ⟨k, k1, _, rfl⟩ := hx
    omega
  · rintro ⟨h0, h1⟩
    obtain ⟨k, rfl⟩ := Int.eq_ofNat_of_zero_le h0
    obtain ⟨a, ha⟩ := List.getElem?_of_mem (h.has k (by omega))
    obtain ⟨n, hn⟩ := h.get ha
    refine ⟨n, List.mem_of_getElem? hn, ?_⟩
    rw [h.ends a n _ hn ha, mem_endsOf]
    exact ⟨k, by omega, rfl, rfl⟩
theorem endS_out (T : List PN) : endS (outP T) (outP T).length = T.flatMap (fun n => n.en) := by
  unfold endS outP
  rw [List.take_length, List.flatMap_map]
theorem toS_out (T : List PN) : toS (outP T) (outP T).length = T.flatMap (fun n => n.nx.map (fun (m : Nat) => (m : Int))) := by
  unfold toS outP
  rw [List.take_length, List.flatMap_map]
theorem WQ.ends_perm (h : WQ l i T q) : (endS (outP T) (outP T).length).Perm (iota i) := by
  rw [endS_out]
  exact (List.perm_ext_iff_of_nodup h.ends_pw (iota_nodup i)).2 (fun x => by rw [h.ends_mem, mem_iota])
theorem WQ.ends_len (h : WQ l i T q) : (endS (outP T) (outP T).length).length = i := by
  rw [h.ends_perm.length_eq, iota_length]
theorem WQ.formed (h : WQ l i T q) (hok : ∀ y ∈ q, ∀ s ∈ y, okS s = true) (hi : i ≤ 256) : FormedQ (outP T) := by
  have hpos : 0 < T.length := by
    have := (List.getElem?_eq_some_iff.1 h.zero).1
    rw [h.len] at this
    exact this
  refine ⟨by rw [outP_len]; omega, by rw [h.ends_len]; exact hi, ?_, ?_, ?_, ?_⟩
  · intro m h0 h1
    obtain ⟨a, rfl⟩ := Int.eq_ofNat_of_zero_le h0
    rw [outP_len] at h1
    exact h.node hok (List.getElem?_eq_getElem (by omega))
  · rw [toS_out]
    unfold List.Nodup
    rw [List.pairwise_flatMap]
    have same : ∀ (a b j k m : Nat) (n n' : PN), T[a]? = some n → T[b]? = some n' → n.nx[j]? = some m → n'.nx[k]? = some m → a = b ∧ j = k := by
      intro a b j k m n n' ha hb hj hk
      obtain ⟨x, hx⟩ := h.path ha
      obtain ⟨y, hy⟩ := h.path hb
      have l1 := h.same a n ha
      have l2 := h.same b n' hb
      have j1 := (List.getElem?_eq_some_iff.1 hj).1
      have j2 := (List.getElem?_eq_some_iff.1 hk).1
      have s1 : n.st[j]? = some (n.st[j]'(by omega)) := List.getElem?_eq_getElem (by omega)
      have s2 : n'.st[k]? = some (n'.st[k]'(by omega)) := List.getElem?_eq_getElem (by omega)
      have e1 := (h.kids a j m n x _ ha hx hj s1).2
      have e2 := (h.kids b k m n' y _ hb hy hk s2).2
      rw [e1] at e2
      obtain ⟨e3, e4⟩ := snoc_inj (Option.some.inj e2)
      subst e3
      have := nodup_idx h.inj hx hy
      subst this
      rw [ha] at hb
      obtain rfl := Option.some.inj hb
      exact ⟨rfl, (List.getElem_inj l1.2).1 e4⟩
    refine ⟨fun n hn => ?_, List.pairwise_iff_getElem.2 (fun a b ha hb hab => ?_)⟩
    · obtain ⟨a, ha⟩ := List.getElem?_of_mem hn
      refine List.pairwise_iff_getElem.2 (fun j k hj hk hjk e => ?_)
      rw [List.getElem_map, List.getElem_map] at e
      rw [List.length_map] at hj hk
      have e2 : n.nx[j] = n.nx[k] := by omega
      have := (same a a j k n.nx[j] n n ha ha (List.getElem?_eq_getElem hj) (by rw [e2]; exact List.getElem?_eq_getElem hk)).2
      omega
    · intro u hu v hv e
      subst e
      obtain ⟨m, hm, rfl⟩ := List.mem_map.1 hu
      obtain ⟨m', hm', e⟩ := List.mem_map.1 hv
      have : m' = m := by omega
      subst this
      obtain ⟨j, hj⟩ := List.getElem?_of_mem hm
      obtain ⟨k, hk⟩ := List.getElem?_of_mem hm'
      have := (same a b j k m' _ _ (List.getElem?_eq_getElem ha) (List.getElem?_eq_getElem hb) hj hk).1
      omega
  · intro m h0 h1
    rw [toS_out]
    obtain ⟨a, rfl⟩ := Int.eq_ofNat_of_zero_le (show 0 ≤ m by omega)
    rw [outP_len] at h1
    have hq : q[a]? = some (q[a]'(by rw [h.len]; omega)) := List.getElem?_eq_getElem _
    obtain ⟨b, n, j, x, s, g1, g2, g3, g4, g5⟩ := h.par a _ hq (by omega)
    exact List.mem_flatMap.2 ⟨n, List.mem_of_getElem? g1, List.mem_map.2 ⟨a, List.mem_of_getElem? g3, rfl⟩⟩
  · intro k h0 h1
    rw [h.ends_len] at h1
    rw [sorted_unique h.ends_perm (iota_le i), rd_iota h0 h1]
theorem rdLL_get {x : List (List S53)} {a : Nat} {y : List S53} (h : x[a]? = some y) : rd_L3 x (a : Int) = y := by
  unfold rd_L3
  rw [Int.toNat_natCast, List.getD_eq_getElem?_getD, h]
  rfl
theorem WQ.nodes (h : WQ l i T q) {p O : List (List S53)} (hP : PathsR (outP T) p O) : ∀ (m : Nat) (y : List S53), q[m]? = some y → rd_L3 p (m : Int) = y := by
  intro m
  induction m using Nat.strongRecOn with
  | _ m ih =>
    intro y hy
    rcases Nat.eq_zero_or_pos m with rfl | h0
    · have := hP.1.2.1 0 (by decide)
      rw [h.zero] at hy
      obtain rfl := Option.some.inj hy
      exact List.length_eq_zero_iff.1 (by simpa using this)
    · obtain ⟨a, n, j, x, s, g1, g2, g3, g4, rfl⟩ := h.par m y hy h0
      have hlt := (h.kids a j m n x s g1 g2 g3 g4).1
      have haT := (List.getElem?_eq_some_iff.1 g1).1
      have hj := (List.getElem?_eq_some_iff.1 g3).1
      have := hP.1.2.2 a j (by rw [outP_len]; exact haT) (by rw [out_rd g1]; simpa using hj) (.inl (by rw [outP_len]; exact haT))
      rw [out_rd g1] at this
      simp only at this
      rw [rd_castN g3, rd_step g4, ih a hlt x g2] at this
      exact this
theorem WQ.paths (h : WQ l l.length T q) {p O : List (List S53)} (hP : PathsR (outP T) p O) : O = l := by
  have hl : O.length = l.length := by rw [hP.2.1, h.ends_len]
  apply List.ext_getElem hl
  intro k h1 h2
  obtain ⟨a, ha⟩ := List.getElem?_of_mem (h.has k h2)
  obtain ⟨n, hn⟩ := h.get ha
  have haT := (List.getElem?_eq_some_iff.1 hn).1
  have hmem : (k : Int) ∈ n.en := by
    rw [h.ends a n _ hn ha, mem_endsOf]
    exact ⟨k, h2, rfl, rfl⟩
  obtain ⟨b, hb⟩ := List.getElem?_of_mem hmem
  have hbl := (List.getElem?_eq_some_iff.1 hb).1
  have := hP.2.2 a b (by rw [outP_len]; exact haT) (by rw [out_rd hn]; exact hbl) (.inl (by rw [outP_len]; exact haT))
  rw [out_rd hn, h.nodes hP a _ ha] at this
  simp only at this
  have e : rd n.en (b : Int) = (k : Int) := by
    unfold rd
    rw [Int.toNat_natCast, List.getD_eq_getElem?_getD, hb]
    rfl
  rw [e, rdLL_get (List.getElem?_eq_getElem h1)] at this
  rw [this]
  unfold rdP
  rw [List.getD_eq_getElem?_getD, List.getElem?_eq_getElem h2]
  rfl
end
end Go.Proofs.Ythlneooboiphdaa.PTrieShares

/- What the laws of trie.Build ask first: does the program build a trie? -/
set_option linter.unusedVariables false
set_option linter.unusedSimpArgs false
namespace Go.Proofs.Ythlneooboiphdaa.PTrieShares
open Go.RowKit Go.Proofs.Ythlneooboiphdaa Go.Proofs.YthlneooboiphdaaW.PrintWords Go.Proofs.YthlneooboiphdaaW.PrintLast Go.Proofs.YthlneooboiphdaaW.PrintMore
open Classical
theorem ints_evt (l : List Int) (hl : l.length ≤ 4611686018427387904) : Evt (fun k => quarryref00_SameInts.f k l l) true := by
  have key : ∀ (d : Nat) (i : Int), 0 ≤ i → (l.length : Int) ≤ i + d → Evt (fun k => quarryref00_SameInts.l0 k l l i) true := by
    intro d
    induction d with
    | zero =>
      intro i h0 h1
      have hi : ¬ i < (l.length : Int) := by omega
      exact Evt.done (fun k => by rw [quarryref00_SameInts.l0, if_neg hi])
    | succ d ih =>
      intro i h0 h1
      by_cases hi : i < (l.length : Int)
      · have hw : wrap64 (i + 1) = i + 1 := w64_ (by omega) (by omega)
        exact Evt.step _ (fun k => by rw [quarryref00_SameInts.l0, if_pos hi, if_pos h0, if_pos hi, if_pos rfl, hw]) (ih (i + 1) (by omega) (by omega))
      · exact Evt.done (fun k => by rw [quarryref00_SameInts.l0, if_neg hi])
  exact Evt.eq _ (fun k => by rw [quarryref00_SameInts.f, if_pos rfl]) (key l.length 0 (by decide) (by omega))
theorem steps_evt (l : List S53) (hl : l.length ≤ 4611686018427387904) : Evt (fun k => quarryref00_SameSteps.f k l l) true := by
  have key : ∀ (d : Nat) (i : Int), 0 ≤ i → (l.length : Int) ≤ i + d → Evt (fun k => quarryref00_SameSteps.l0 k l l i) true := by
    intro d
    induction d with
    | zero =>
      intro i h0 h1
      have hi : ¬ i < (l.length : Int) := by omega
      exact Evt.done (fun k => by rw [quarryref00_SameSteps.l0, if_neg hi])
    | succ d ih =>
      intro i h0 h1
      by_cases hi : i < (l.length : Int)
      · have hw : wrap64 (i + 1) = i + 1 := w64_ (by omega) (by omega)
        exact Evt.step _ (fun k => by rw [quarryref00_SameSteps.l0, if_pos hi, if_pos h0, if_pos hi, if_neg (by simp), hw]) (ih (i + 1) (by omega) (by omega))
      · exact Evt.done (fun k => by rw [quarryref00_SameSteps.l0, if_neg hi])
  exact Evt.eq _ (fun k => by rw [quarryref00_SameSteps.f, if_pos rfl]) (key l.length 0 (by decide) (by omega))
theorem paths_evt (l : List (List S53)) (hl : l.length ≤ 4611686018427387904) (hm : ∀ i : Int, 0 ≤ i → i < l.length → (rd_L3 l i).length ≤ 4611686018427387904) : Evt (fun k => quarryref00_SamePaths.f k l l) true := by
  have key : ∀ (d : Nat) (i : Int), 0 ≤ i → (l.length : Int) ≤ i + d → Evt (fun k => quarryref00_SamePaths.l0 k l l i) true := by
    intro d
    induction d with
    | zero =>
      intro i h0 h1
      have hi : ¬ i < (l.length : Int) := by omega
      exact Evt.done (fun k => by rw [quarryref00_SamePaths.l0, if_neg hi])
    | succ d ih =>
      intro i h0 h1
      by_cases hi : i < (l.length : Int)
      · have hw : wrap64 (i + 1) = i + 1 := w64_ (by omega) (by omega)
        exact Evt.step _ (fun k => by rw [quarryref00_SamePaths.l0, if_pos hi, if_pos h0, if_pos hi]) (Evt.bind (steps_evt _ (hm i h0 hi)) (Evt.eq _ (fun k => by rw [if_pos rfl, hw]) (ih (i + 1) (by omega) (by omega))))
      · exact Evt.done (fun k => by rw [quarryref00_SamePaths.l0, if_neg hi])
  exact Evt.eq _ (fun k => by rw [quarryref00_SamePaths.f, if_pos rfl]) (key l.length 0 (by decide) (by omega))
theorem trie_refl_evt (t : List S50) (hT : t.length ≤ 4611686018427387904) (hm : ∀ x ∈ t, x.f0.length ≤ 4611686018427387904 ∧ x.f1.length ≤ 4611686018427387904 ∧ x.f2.length ≤ 4611686018427387904) : Evt (fun k => quarryref00_SameTrie.f k t t) true := by
  have key : ∀ (d : Nat) (i : Int), 0 ≤ i → (t.length : Int) ≤ i + d → Evt (fun k => quarryref00_SameTrie.l0 k t t i) true := by
    intro d
    induction d with
    | zero =>
      intro i h0 h1
      have hi : ¬ i < (t.length : Int) := by omega
      exact Evt.done (fun k => by rw [quarryref00_SameTrie.l0, if_neg hi])
    | succ d ih =>
      intro i h0 h1
      by_cases hi : i < (t.length : Int)
      · have hw : wrap64 (i + 1) = i + 1 := w64_ (by omega) (by omega)
        obtain ⟨m0, m1, m2⟩ := hm _ (node_mem t i h0 hi)
        refine Evt.step _ (fun k => by rw [quarryref00_SameTrie.l0, if_pos hi, if_pos h0, if_pos hi]) (Evt.bind (steps_evt _ m0) ?_)
        refine Evt.eq _ (fun k => by rw [if_pos rfl]) (Evt.bind (ints_evt _ m1) ?_)
        refine Evt.eq _ (fun k => by rw [if_pos rfl]) (Evt.bind (ints_evt _ m2) ?_)
        exact Evt.eq _ (fun k => by rw [if_pos rfl, hw]) (ih (i + 1) (by omega) (by omega))
      · exact Evt.done (fun k => by rw [quarryref00_SameTrie.l0, if_neg hi])
  exact Evt.eq _ (fun k => by rw [quarryref00_SameTrie.f, if_pos rfl]) (key t.length 0 (by decide) (by omega))
def smallT : List S50 := [⟨[⟨1, ⟨#[97]⟩, 0⟩], [1], []⟩, ⟨[⟨1, ⟨#[98]⟩, 0⟩], [2], [1]⟩, ⟨[], [], [0]⟩]
theorem smallTrie_is : quarrylaw23_smallTrie.f = some smallT := rfl
theorem small_small : SmallT smallT := by
  refine ⟨by decide, fun x hx => ?_, by decide, by decide⟩
  unfold smallT at hx
  simp only [List.mem_cons, List.not_mem_nil, or_false] at hx
  rcases hx with rfl | rfl | rfl
  · refine ⟨by decide, by decide, by decide, fun s hs => ?_⟩
    simp only [List.mem_cons, List.not_mem_nil, or_false] at hs
    subst hs
    show (1 : Nat) ≤ _
    decide
  · refine ⟨by decide, by decide, by decide, fun s hs => ?_⟩
    simp only [List.mem_cons, List.not_mem_nil, or_false] at hs
    subst hs
    show (1 : Nat) ≤ _
    decide
  · exact ⟨by decide, by decide, by decide, fun s hs => by cases hs⟩
theorem all_one {P : Int → Prop} (h : P 0) : All P 0 1 := fun m a b => by
  have : m = 0 := by omega
  subst this
  exact h
theorem small_formed : FormedQ smallT := by
  refine ⟨by decide, by decide, fun m a b => ?_, by decide, fun m a b => ?_, count_iff.2 (fun k a b => ?_)⟩
  · have hm : m = 0 ∨ m = 1 ∨ m = 2 := by
      have : m < 3 := b
      omega
    rcases hm with rfl | rfl | rfl
    · exact ⟨rfl, fun m a b => by have : m < 0 := b; omega, by kernel_rfl, all_one ⟨by decide, by decide, fun q a b => by omega⟩⟩
    · exact ⟨rfl, fun m a b => by have : m < 1 := b; omega, by kernel_rfl, all_one ⟨by decide, by decide, fun q a b => by omega⟩⟩
    · exact ⟨rfl, fun m a b => by have : m < 1 := b; omega, by kernel_rfl, fun m a b => by have : m < 0 := b; omega⟩
  · have hm : m = 1 ∨ m = 2 := by
      have : m < 3 := b
      omega
    rcases hm with rfl | rfl <;> decide
  · have hm : k = 0 ∨ k = 1 := by
      have : k < 2 := b
      omega
    rcases hm with rfl | rfl <;> decide
def smallL : List (List S53) := [[⟨1, ⟨#[97]⟩, 0⟩, ⟨1, ⟨#[98]⟩, 0⟩], [⟨1, ⟨#[97]⟩, 0⟩]]
theorem small_is : quarrylaw23_small.f = some smallL := rfl
theorem small_paths : Evt (fun k => trie_Paths.f k smallT) (smallL, 0) := by
  obtain ⟨p, O, hP, hE⟩ := paths_formed smallT small_small small_formed
  have h0 : rd_L3 p 0 = [] := List.length_eq_zero_iff.1 (by simpa using hP.1.2.1 0 (by decide))
  have h1 : rd_L3 p 1 = rd_L3 p 0 ++ [⟨1, ⟨#[97]⟩, 0⟩] := hP.1.2.2 0 0 (by decide) (by decide) (.inl (by decide))
  have h2 : rd_L3 p 2 = rd_L3 p 1 ++ [⟨1, ⟨#[98]⟩, 0⟩] := hP.1.2.2 1 0 (by decide) (by decide) (.inl (by decide))
  have o1 : rd_L3 O 1 = rd_L3 p 1 := hP.2.2 1 0 (by decide) (by decide) (.inl (by decide))
  have o0 : rd_L3 O 0 = rd_L3 p 2 := hP.2.2 2 0 (by decide) (by decide) (.inl (by decide))
  have hl : O.length = 2 := hP.2.1
  rw [h0] at h1
  rw [h1] at h2 o1
  rw [h2] at o0
  match O, hl, o0, o1, hE with
  | [x, y], _, o0, o1, hE =>
    have ex : x = [⟨1, ⟨#[97]⟩, 0⟩, ⟨1, ⟨#[98]⟩, 0⟩] := o0
    have ey : y = [⟨1, ⟨#[97]⟩, 0⟩] := o1
    rw [ex, ey] at hE
    exact hE
theorem byte_ne : sameS (⟨1, ⟨#[97]⟩, 0⟩ : S53) ⟨1, ⟨#[98]⟩, 0⟩ = false := by
  cases h : sameS (⟨1, ⟨#[97]⟩, 0⟩ : S53) ⟨1, ⟨#[98]⟩, 0⟩ with
  | false => rfl
  | true =>
    have := sameS_iff.1 h
    exact absurd (congrArg (fun s : S53 => s.f1.data) this) (by decide)
theorem small_build : trie_Build.f smallL = some (smallT, 0) := by
  have h1 : (∀ p ∈ smallL, ∀ s ∈ p, smallS s) ∧ totP smallL smallL.length ≤ 1000000000 := by
    refine ⟨fun p hp s hs => ?_, by decide⟩
    unfold smallL at hp
    simp only [List.mem_cons, List.not_mem_nil, or_false] at hp
    rcases hp with rfl | rfl <;> simp only [List.mem_cons, List.not_mem_nil, or_false] at hs
    · rcases hs with rfl | rfl <;> (show (1 : Nat) ≤ _; decide)
    · subst hs
      show (1 : Nat) ≤ _
      decide
  have h2 : smallL.all (fun p => p.all okS) = true := by kernel_rfl
  unfold trie_Build.f trie_Build.g
  rw [if_pos h1, if_neg (by decide), if_pos h2]
  have sa : sameS (⟨1, ⟨#[97]⟩, 0⟩ : S53) ⟨1, ⟨#[97]⟩, 0⟩ = true := sameS_iff.2 rfl
  have b1 : walkN [noP] [(⟨1, ⟨#[97]⟩, 0⟩ : S53), ⟨1, ⟨#[98]⟩, 0⟩] 2 = ([⟨[⟨1, ⟨#[97]⟩, 0⟩], [1], []⟩, ⟨[⟨1, ⟨#[98]⟩, 0⟩], [2], []⟩, noP], 2) := rfl
  have b2 : buildN smallL 1 = [⟨[⟨1, ⟨#[97]⟩, 0⟩], [1], []⟩, ⟨[⟨1, ⟨#[98]⟩, 0⟩], [2], []⟩, ⟨[], [], [0]⟩] := by
    show endP (walkN [noP] _ 2).1 (walkN [noP] _ 2).2 0 = _
    rw [show rdP smallL 0 = [(⟨1, ⟨#[97]⟩, 0⟩ : S53), ⟨1, ⟨#[98]⟩, 0⟩] from rfl, b1]
    rfl
  have b3 : buildN smallL 2 = [⟨[⟨1, ⟨#[97]⟩, 0⟩], [1], []⟩, ⟨[⟨1, ⟨#[98]⟩, 0⟩], [2], [1]⟩, ⟨[], [], [0]⟩] := by
    show endP (walkN (buildN smallL 1) (rdP smallL 1) 1).1 (walkN (buildN smallL 1) (rdP smallL 1) 1).2 1 = _
    have hw : walkN (buildN smallL 1) (rdP smallL 1) 1 = (buildN smallL 1, 1) := by
      show stepP (buildN smallL 1) 0 (⟨1, ⟨#[97]⟩, 0⟩ : S53) = _
      rw [b2]
      unfold stepP findS
      simp only [List.getElem?_cons_zero, List.findIdx?_cons, sa]
      rfl
    rw [hw, b2]
    rfl
  show some (outP (buildN smallL 2), (0 : Int)) = _
  rw [b3]
  rfl
theorem awake_evt : Evt (fun k => quarrylaw23_awake.f k) true := by
  have hsp : Evt (fun k => quarryref00_SamePaths.f k smallL smallL) true := paths_evt smallL (by decide) (fun i h0 h1 => by
    have hi : i = 0 ∨ i = 1 := by
      have : i < 2 := h1
      omega
    rcases hi with rfl | rfl <;> decide)
  have hst : Evt (fun k => quarryref00_SameTrie.f k smallT smallT) true := trie_refl_evt smallT (by decide) (fun x hx => by
    have := small_small.2.1 x hx
    exact ⟨Nat.le_trans this.1 (by decide), Nat.le_trans this.2.1 (by decide), Nat.le_trans this.2.2.1 (by decide)⟩)
  refine Evt.eq _ (fun k => by rw [quarrylaw23_awake.f, small_is, Option.bind_some, small_build, Option.bind_some, smallTrie_is, Option.bind_some]) (Evt.bind small_paths ?_)
  refine Evt.eq _ (fun k => by rw [Option.bind_some]) (Evt.bind hst ?_)
  refine Evt.eq _ (fun k => by rw [if_pos rfl, if_pos rfl, Option.bind_some]) (Evt.bind hsp ?_)
  exact Evt.eq _ (fun k => by rw [if_pos rfl]; rfl) Evt.const
end Go.Proofs.Ythlneooboiphdaa.PTrieShares

/- What Build answers: sizes; which answer when. -/
set_option linter.unusedVariables false
set_option linter.unusedSimpArgs false
namespace Go.Proofs.Ythlneooboiphdaa.PTrieShares
open Go.RowKit Go.Proofs.Ythlneooboiphdaa Go.Proofs.YthlneooboiphdaaW.PrintWords Go.Proofs.YthlneooboiphdaaW.PrintLast Go.Proofs.YthlneooboiphdaaW.PrintMore
open Classical
theorem mem_toS (t : List S50) {v : Int} (hN : All (NodeR t) 0 (t.length : Nat)) (h : v ∈ toS t t.length) : 0 < v ∧ v < (t.length : Nat) := by
  unfold toS at h
  rw [List.take_length, List.mem_flatMap] at h
  obtain ⟨x, hx, hv⟩ := h
  obtain ⟨i, hi, rfl⟩ := List.getElem_of_mem hx
  rw [rd_node t i hi] at hv
  obtain ⟨j, hj, e⟩ := List.getElem_of_mem hv
  have hn := hN (i : Int) (by omega) (by omega)
  have hst := hn.2.2.2 (j : Int) (by omega) (by have := hn.1; omega)
  have hget : rd (rd_T50 t (i : Int)).f1 (j : Int) = v := by
    unfold rd
    rw [Int.toNat_natCast, List.getD_eq_getElem?_getD, List.getElem?_eq_getElem hj]
    exact e
  have a := hst.1
  have b := hst.2.1
  rw [hget] at a b
  exact ⟨by omega, b⟩
/-- Paths of a size that is gone through here. -/
structure SmallL (l : List (List S53)) : Prop where
  each : ∀ p ∈ l, p.length ≤ 1048576 ∧ ∀ s ∈ p, s.f1.size ≤ 1048576
  tot : totP l l.length ≤ 1048576
  len : l.length ≤ 1048576
theorem rdP_mem {l : List (List S53)} {k : Nat} (h : k < l.length) : rdP l k ∈ l := by
  unfold rdP
  rw [List.getD_eq_getElem?_getD, List.getElem?_eq_getElem h]
  exact List.getElem_mem h
theorem rdL_rdP (l : List (List S53)) (k : Nat) : rd_L3 l (k : Int) = rdP l k := by
  unfold rd_L3 rdP
  rw [Int.toNat_natCast]
theorem nodup_len : ∀ {l R : List Int}, l.Nodup → (∀ x ∈ l, x ∈ R) → l.length ≤ R.length
  | [], R, _, _ => Nat.zero_le _
  | a :: l, R, hn, hm => by
    obtain ⟨h1, h2⟩ := List.nodup_cons.1 hn
    have ha := hm a List.mem_cons_self
    have hlen : (R.erase a).length = R.length - 1 := List.length_erase_of_mem ha
    have hpos : 0 < R.length := List.length_pos_of_mem ha
    have := nodup_len (R := R.erase a) h2 (fun x hx => by
      have hx2 := (List.perm_cons_erase ha).mem_iff.1 (hm x (List.mem_cons_of_mem _ hx))
      rcases List.mem_cons.1 hx2 with rfl | h
      · exact absurd hx h1
      · exact h)
    rw [List.length_cons]
    omega
/-- What is known of what Build builds of paths that are well shaped. -/
structure Built (l : List (List S53)) (T : List PN) (q : List (List S53)) : Prop where
  wq : WQ l l.length T q
  mem : ∀ y, y ∈ q ↔ y = [] ∨ ∃ k, k < l.length ∧ ∃ t, t ≤ (rdP l k).length ∧ y = (rdP l k).take t
  ok : ∀ y ∈ q, ∀ s ∈ y, okS s = true
  few : l.length ≤ 256
  small : SmallT (outP T)
  many : T.length ≤ totP l l.length + 1
theorem Built.formed {l : List (List S53)} {T : List PN} {q : List (List S53)} (h : Built l T q) : FormedQ (outP T) := h.wq.formed h.ok h.few
theorem built_of (l : List (List S53)) (hs : SmallL l) (h256 : l.length ≤ 256) (hall : l.all (fun p => p.all okS) = true) : ∃ q, Built l (buildN l l.length) q := by
  obtain ⟨q, h, hq⟩ := wq_build l l.length
  have hok : ∀ y ∈ q, ∀ s ∈ y, okS s = true := by
    intro y hy s hs2
    rcases (hq y).1 hy with rfl | ⟨k, hk, t, _, rfl⟩
    · cases hs2
    · rw [List.all_eq_true] at hall
      have := hall _ (rdP_mem hk)
      rw [List.all_eq_true] at this
      exact this s (List.mem_of_mem_take hs2)
  have hw := wfP_build l l.length
  have hF := h.formed hok h256
  have ht := hs.tot
  have hl := hw.len
  refine ⟨q, h, hq, hok, h256, ?_, hl⟩
  refine ⟨by rw [outP_len]; omega, fun x hx => ?_, by rw [h.ends_len]; omega, ?_⟩
  · obtain ⟨a, ha⟩ := List.getElem?_of_mem hx
    unfold outP at ha
    rw [List.getElem?_map] at ha
    obtain ⟨n, hn, rfl⟩ := Option.map_eq_some_iff.1 ha
    have hn2 := List.mem_of_getElem? hn
    obtain ⟨e1, e2, e3, e4⟩ := hw.each n hn2
    refine ⟨by show n.st.length ≤ _; omega, by show (n.nx.map _).length ≤ _; rw [List.length_map]; omega, by show n.en.length ≤ _; omega, fun s hs2 => ?_⟩
    obtain ⟨j, hj⟩ := List.getElem?_of_mem (show s ∈ n.st from hs2)
    obtain ⟨x, hx⟩ := h.path hn
    have hj1 := (List.getElem?_eq_some_iff.1 hj).1
    have hm : n.nx[j]? = some (n.nx[j]'(by omega)) := List.getElem?_eq_getElem (by omega)
    have hk := (h.kids a j _ n x s hn hx hm hj).2
    rcases (hq _).1 (List.mem_of_getElem? hk) with e | ⟨k, hk2, t, _, e⟩
    · simp at e
    · have h1 : s ∈ (rdP l k).take t := by rw [← e]; simp
      have := (hs.each _ (rdP_mem hk2)).2 s (List.mem_of_mem_take h1)
      omega
  · have h1 := nodup_len (R := iota (outP (buildN l l.length)).length) hF.2.2.2.1 (fun x hx => by
      have := mem_toS (outP (buildN l l.length)) hF.2.2.1 hx
      exact mem_iota.2 ⟨by omega, this.2⟩)
    rw [iota_length] at h1
    have h2 := outP_len (buildN l l.length)
    omega
theorem build_is (l : List (List S53)) (hs : SmallL l) : trie_Build.f l = some (trie_Build.g l) := by
  have h1 : ∀ p ∈ l, ∀ s ∈ p, smallS s := fun p hp s hs2 => by
    have := (hs.each p hp).2 s hs2
    unfold smallS
    omega
  have h2 : totP l l.length ≤ 1000000000 := by
    have := hs.tot
    omega
  unfold trie_Build.f
  rw [if_pos ⟨h1, h2⟩]
end Go.Proofs.Ythlneooboiphdaa.PTrieShares

/- TrieShares: what the law computes is true. -/
set_option linter.unusedVariables false
set_option linter.unusedSimpArgs false
namespace Go.Proofs.Ythlneooboiphdaa.PTrieShares
open Go.RowKit Go.Proofs.Ythlneooboiphdaa Go.Proofs.YthlneooboiphdaaW.PrintWords Go.Proofs.YthlneooboiphdaaW.PrintLast Go.Proofs.YthlneooboiphdaaW.PrintMore
open Classical
/-- How many first steps two paths have in common. -/
noncomputable def bgN : List S53 → List S53 → Nat
  | x :: xs, y :: ys => if x = y then bgN xs ys + 1 else 0
  | _, _ => 0
theorem bgN_le : ∀ a b : List S53, bgN a b ≤ a.length
  | [], _ => by unfold bgN; exact Nat.le_refl _
  | x :: xs, [] => by unfold bgN; exact Nat.zero_le _
  | x :: xs, y :: ys => by
    unfold bgN
    split
    · have := bgN_le xs ys
      rw [List.length_cons]
      omega
    · exact Nat.zero_le _
theorem bgN_iff : ∀ (a b : List S53) (t : Nat), t ≤ a.length → ((∃ u, u ≤ b.length ∧ a.take t = b.take u) ↔ t ≤ bgN a b)
  | a, b, 0, _ => ⟨fun _ => Nat.zero_le _, fun _ => ⟨0, Nat.zero_le _, by rw [List.take_zero, List.take_zero]⟩⟩
  | [], b, t + 1, h => by simp at h
  | x :: xs, [], t + 1, h => by
    unfold bgN
    constructor
    · rintro ⟨u, _, e⟩
      simp at e
    · intro h; omega
  | x :: xs, y :: ys, t + 1, h => by
    have ih := bgN_iff xs ys t (by simpa using h)
    unfold bgN
    constructor
    · rintro ⟨u, hu, e⟩
      match u, hu, e with
      | 0, _, e => simp at e
      | u + 1, hu, e =>
        rw [List.take_succ_cons, List.take_succ_cons] at e
        injection e with e1 e2
        rw [if_pos e1]
        have := ih.1 ⟨u, by simpa using hu, e2⟩
        omega
    · intro h2
      by_cases e : x = y
      · rw [if_pos e] at h2
        obtain ⟨u, hu, e2⟩ := ih.2 (by omega)
        exact ⟨u + 1, by simpa using hu, by rw [List.take_succ_cons, List.take_succ_cons, e, e2]⟩
      · rw [if_neg e] at h2
        omega
theorem begins_evt (a b : List S53) (ha : a.length ≤ 1073741824) : Evt (fun k => quarrylaw23_begins.f k a b) (bgN a b : Int) := by
  have key : ∀ (d i : Nat), a.length = i + d → Evt (fun k => quarrylaw23_begins.l0 k a b (i : Int)) ((i + bgN (a.drop i) (b.drop i) : Nat) : Int) := by
    intro d
    induction d with
    | zero =>
      intro i h
      have hi : ¬ (i : Int) < (a.length : Int) := by omega
      rw [List.drop_of_length_le (l := a) (by omega)]
      unfold bgN
      exact Evt.done (fun k => by rw [quarrylaw23_begins.l0, if_neg hi]; rfl)
    | succ d ih =>
      intro i h
      have hi : (i : Int) < (a.length : Int) := by omega
      have hin : i < a.length := by omega
      have p0 : (0 : Int) ≤ (i : Int) := by omega
      have hw : wrap64 ((i : Int) + 1) = ((i + 1 : Nat) : Int) := by rw [w64_ (by omega) (by omega)]; omega
      by_cases hb : i < b.length
      · have hbi : (i : Int) < (b.length : Int) := by omega
        have ea := rd_step (List.getElem?_eq_getElem hin)
        have eb := rd_step (List.getElem?_eq_getElem hb)
        rw [List.drop_eq_getElem_cons hin, List.drop_eq_getElem_cons hb]
        unfold bgN
        by_cases e : a[i] = b[i]
        · rw [if_pos e]
          have hq := sameQ_iff.2 e
          unfold sameQ at hq
          have := ih (i + 1) (by omega)
          rw [show i + 1 + bgN (a.drop (i + 1)) (b.drop (i + 1)) = i + (bgN (a.drop (i + 1)) (b.drop (i + 1)) + 1) by omega] at this
          exact Evt.step _ (fun k => by rw [quarrylaw23_begins.l0, if_pos hi, if_pos hbi, if_pos p0, ea, eb, if_pos hq, hw]) this
        · rw [if_neg e]
          have hq : ¬ sameQ a[i] b[i] = true := fun h => e (sameQ_iff.1 h)
          unfold sameQ at hq
          exact Evt.done (fun k => by rw [quarrylaw23_begins.l0, if_pos hi, if_pos hbi, if_pos p0, ea, eb, if_neg hq]; rfl)
      · have hbi : ¬ (i : Int) < (b.length : Int) := by omega
        rw [List.drop_of_length_le (l := b) (by omega), List.drop_eq_getElem_cons hin]
        unfold bgN
        exact Evt.done (fun k => by rw [quarrylaw23_begins.l0, if_pos hi, if_neg hbi]; rfl)
  have := key a.length 0 (by omega)
  rw [Nat.zero_add, List.drop_zero, List.drop_zero] at this
  exact Evt.eq _ (fun k => by rw [quarrylaw23_begins.f]; rfl) this
/-- The most first steps that a path has in common with one ahead of j. -/
noncomputable def mst (l : List (List S53)) (i : Nat) : Nat → Nat
  | 0 => 0
  | j + 1 => max (mst l i j) (bgN (rdP l i) (rdP l j))
theorem mst_le (l : List (List S53)) (i : Nat) : ∀ j, mst l i j ≤ (rdP l i).length
  | 0 => Nat.zero_le _
  | j + 1 => by
    have := mst_le l i j
    have := bgN_le (rdP l i) (rdP l j)
    unfold mst
    omega
theorem mst_iff (l : List (List S53)) (i t : Nat) : ∀ j, t ≤ mst l i j ↔ t = 0 ∨ ∃ k, k < j ∧ t ≤ bgN (rdP l i) (rdP l k)
  | 0 => by
    unfold mst
    exact ⟨fun h => .inl (by omega), fun h => h.elim (fun h => by omega) (fun ⟨k, h, _⟩ => by omega)⟩
  | j + 1 => by
    have ih := mst_iff l i t j
    unfold mst
    constructor
    · intro h
      by_cases h2 : t ≤ mst l i j
      · rcases ih.1 h2 with h3 | ⟨k, h3, h4⟩
        · exact .inl h3
        · exact .inr ⟨k, by omega, h4⟩
      · exact .inr ⟨j, by omega, by omega⟩
    · rintro (h | ⟨k, h3, h4⟩)
      · omega
      · by_cases e : k = j
        · subst e
          omega
        · have := ih.2 (.inr ⟨k, by omega, h4⟩)
          omega
/-- How many nodes a path brings. -/
theorem WQ.walk_len {l : List (List S53)} {i : Nat} {T : List PN} {q : List (List S53)} (h : WQ l i T q) (p : List S53) (M : Nat) (hM : ∀ t, t ≤ p.length → (p.take t ∈ q ↔ t ≤ M)) : ∀ j, j ≤ p.length →
    ∃ q', WQ l i (walkN T p j).1 q' ∧ q'[(walkN T p j).2]? = some (p.take j) ∧ (∀ y, y ∈ q' ↔ y ∈ q ∨ ∃ t, t ≤ j ∧ y = p.take t) ∧ q'.length = q.length + (j - M)
  | 0, _ => ⟨q, h, by rw [List.take_zero]; exact h.zero, fun y => ⟨fun hy => .inl hy, fun hy => hy.elim id (fun ⟨t, ht, e⟩ => by
      obtain rfl : t = 0 := by omega
      rw [e, List.take_zero]
      exact List.mem_of_getElem? h.zero)⟩, by omega⟩
  | j + 1, hj => by
    obtain ⟨q1, h1, h2, h3, h4⟩ := WQ.walk_len h p M hM j (by omega)
    obtain ⟨q2, g1, g2, g3⟩ := h1.step h2 (rd_T53 p (j : Int))
    rw [← pre_step (by omega)] at g2 g3
    have hin : p.take (j + 1) ∈ q1 ↔ j + 1 ≤ M := by
      rw [h3, ← hM (j + 1) hj]
      constructor
      · rintro (h | ⟨t, ht, e⟩)
        · exact h
        · have := congrArg List.length e
          rw [List.length_take, List.length_take] at this
          omega
      · exact fun h => .inl h
    refine ⟨q2, g1, g2, fun y => ?_, ?_⟩
    · have hq : y ∈ q2 ↔ y ∈ q1 ∨ y = p.take (j + 1) := by
        rw [g3]
        by_cases e : p.take (j + 1) ∈ q1
        · rw [if_pos e]
          exact ⟨fun hy => .inl hy, fun hy => hy.elim id (fun e2 => e2 ▸ e)⟩
        · rw [if_neg e, List.mem_append, List.mem_singleton]
      rw [hq, h3 y]
      constructor
      · rintro ((hy | ⟨t, ht, e⟩) | e)
        · exact .inl hy
        · exact .inr ⟨t, by omega, e⟩
        · exact .inr ⟨j + 1, Nat.le_refl _, e⟩
      · rintro (hy | ⟨t, ht, e⟩)
        · exact .inl (.inl hy)
        · by_cases et : t = j + 1
          · subst et
            exact .inr e
          · exact .inl (.inr ⟨t, by omega, e⟩)
    · rw [g3]
      by_cases e : p.take (j + 1) ∈ q1
      · rw [if_pos e, h4]
        have := hin.1 e
        omega
      · rw [if_neg e, List.length_append, List.length_singleton, h4]
        have : ¬ j + 1 ≤ M := fun h => e (hin.2 h)
        omega
theorem build_len (l : List (List S53)) (i : Nat) : (buildN l (i + 1)).length = (buildN l i).length + ((rdP l i).length - mst l i i) := by
  obtain ⟨q, h, hq⟩ := wq_build l i
  obtain ⟨q1, h1, h2, h3, h4⟩ := h.walk_len (rdP l i) (mst l i i) (fun t ht => by
    rw [hq, mst_iff]
    constructor
    · rintro (e | ⟨k, hk, u, hu, e⟩)
      · have := congrArg List.length e
        rw [List.length_take, List.length_nil] at this
        exact .inl (by omega)
      · exact .inr ⟨k, hk, (bgN_iff _ _ t ht).1 ⟨u, hu, e⟩⟩
    · rintro (e | ⟨k, hk, h⟩)
      · subst e
        exact .inl (List.take_zero)
      · obtain ⟨u, hu, e⟩ := (bgN_iff _ _ t ht).2 h
        exact .inr ⟨k, hk, u, hu, e⟩) (rdP l i).length (Nat.le_refl _)
  rw [List.take_length] at h2
  have h5 := (h1.end_ h2).len
  have h6 : buildN l (i + 1) = endP (walkN (buildN l i) (rdP l i) (rdP l i).length).1 (walkN (buildN l i) (rdP l i) (rdP l i).length).2 (i : Int) := rfl
  rw [h6, ← h5, h4, h.len]
/-- The paths in another order. -/
def turnP (l : List (List S53)) (p n : Nat) : List (List S53) := (List.range n).map (fun k => rdP l ((k + p) % l.length))
theorem turn_len (l : List (List S53)) (p n : Nat) : (turnP l p n).length = n := by simp [turnP]
theorem turn_rd (l : List (List S53)) (p n k : Nat) (h : k < n) : rdP (turnP l p n) k = rdP l ((k + p) % l.length) := by
  show (turnP l p n).getD k [] = _
  unfold turnP
  rw [List.getD_eq_getElem?_getD, List.getElem?_map, List.getElem?_range h]
  rfl
theorem turn_same (l : List (List S53)) (p : Nat) (hp : p < l.length) : (buildN (turnP l p l.length) l.length).length = (buildN l l.length).length := by
  obtain ⟨q, h, hq⟩ := wq_build l l.length
  obtain ⟨q1, h1, hq1⟩ := wq_build (turnP l p l.length) l.length
  rw [← h.len, ← h1.len]
  refine ((List.perm_ext_iff_of_nodup h1.inj h.inj).2 (fun y => ?_)).length_eq
  rw [hq, hq1]
  constructor
  · rintro (e | ⟨k, hk, t, ht, e⟩)
    · exact .inl e
    · rw [turn_rd _ _ _ _ hk] at ht e
      exact .inr ⟨_, Nat.mod_lt _ (by omega), t, ht, e⟩
  · rintro (e | ⟨k, hk, t, ht, e⟩)
    · exact .inl e
    · have hm : ∃ m, m < l.length ∧ (m + p) % l.length = k := by
        by_cases hc : p ≤ k
        · exact ⟨k - p, by omega, by rw [Nat.sub_add_cancel hc, Nat.mod_eq_of_lt hk]⟩
        · exact ⟨k + l.length - p, by omega, by rw [show k + l.length - p + p = k + l.length by omega, Nat.add_mod_right, Nat.mod_eq_of_lt hk]⟩
      obtain ⟨m, hm, e2⟩ := hm
      refine .inr ⟨m, hm, t, ?_, ?_⟩ <;> rw [turn_rd _ _ _ _ hm, e2] <;> assumption
theorem totP_le (l : List (List S53)) (B : Nat) (hB : ∀ k, (rdP l k).length ≤ B) : ∀ n, totP l n ≤ n * B
  | 0 => Nat.zero_le _
  | n + 1 => by
    have := totP_le l B hB n
    have := hB n
    rw [Nat.succ_mul]
    show totP l n + (rdP l n).length ≤ _
    omega
theorem rdP_small (l : List (List S53)) (hs : SmallL l) (k : Nat) : (rdP l k).length ≤ 1048576 := by
  by_cases h : k < l.length
  · exact (hs.each _ (rdP_mem h)).1
  · unfold rdP
    rw [List.getD_eq_getElem?_getD, List.getElem?_eq_none (by omega)]
    exact Nat.zero_le _
theorem turn_build (l : List (List S53)) (hs : SmallL l) (h256 : l.length ≤ 256) (hall : l.all (fun p => p.all okS) = true) (p : Nat) (hp : p < l.length) : trie_Build.f (turnP l p l.length) = some (outP (buildN (turnP l p l.length) l.length), 0) := by
  have hmem : ∀ x ∈ turnP l p l.length, x ∈ l := fun x hx => by
    unfold turnP at hx
    obtain ⟨k, hk, rfl⟩ := List.mem_map.1 hx
    exact rdP_mem (Nat.mod_lt _ (by omega))
  have h1 : ∀ x ∈ turnP l p l.length, ∀ s ∈ x, smallS s := fun x hx s hs2 => by
    have := (hs.each x (hmem x hx)).2 s hs2
    unfold smallS
    omega
  have h2 : totP (turnP l p l.length) (turnP l p l.length).length ≤ 1000000000 := by
    have := totP_le (turnP l p l.length) 1048576 (fun k => by
      by_cases hk : k < l.length
      · rw [turn_rd _ _ _ _ hk]
        exact rdP_small l hs _
      · unfold rdP
        rw [List.getD_eq_getElem?_getD, List.getElem?_eq_none (by rw [turn_len]; omega)]
        exact Nat.zero_le _) l.length
    rw [turn_len]
    have : l.length * 1048576 ≤ 256 * 1048576 := Nat.mul_le_mul_right _ h256
    omega
  have h3 : (turnP l p l.length).all (fun p => p.all okS) = true := by
    rw [List.all_eq_true] at hall ⊢
    exact fun x hx => hall x (hmem x hx)
  unfold trie_Build.f trie_Build.g
  rw [if_pos ⟨h1, h2⟩, turn_len, if_neg (by omega), if_pos h3]
theorem pick_is (a : Int) (n : Nat) (hn : 0 < n) : ∃ p : Nat, p < n ∧ ∃ _ : n ≤ 1073741824 → True, (n ≤ 1073741824 → quarrykit_Pick.f a (n : Int) = some (p : Int)) := by
  have h1 := Int.tmod_lt_of_pos a (b := (n : Int)) (by omega)
  have h2 := Int.lt_tmod_of_pos a (b := (n : Int)) (by omega)
  by_cases c : a.tmod (n : Int) < 0
  · refine ⟨(a.tmod (n : Int) + n).toNat, by omega, fun _ => trivial, fun hn2 => ?_⟩
    unfold quarrykit_Pick.f
    rw [if_neg (by omega), if_pos c, w64_ (by omega) (by omega)]
    congr 1
    omega
  · refine ⟨(a.tmod (n : Int)).toNat, by omega, fun _ => trivial, fun hn2 => ?_⟩
    unfold quarrykit_Pick.f
    rw [if_neg (by omega), if_neg c]
    congr 1
    omega
section
variable (l : List (List S53)) (turn : Int) (hs : SmallL l) (h256 : l.length ≤ 256) (hall : l.all (fun p => p.all okS) = true) (p : Nat) (hp : p < l.length) (hpick : quarrykit_Pick.f turn (l.length : Int) = some (p : Int))
include hs h256 hall hp hpick
omit h256 hall hp hpick in
theorem build_bound (i : Nat) (hi : i ≤ l.length) : (buildN l i).length ≤ 1048577 := by
  have := (wfP_build l i).len
  have := totP_mono l hi
  have := hs.tot
  omega
omit hall in
theorem most_go (i : Nat) (hi : i < l.length) (next : Evt (fun k => quarrylaw23_TrieShares.l0 k l turn (outP (buildN l l.length)) ((buildN l (i + 1)).length : Int) (turnP l p (i + 1)) ((i + 1 : Nat) : Int)) true) :
    ∀ (d j : Nat), i = j + d → Evt (fun k => quarrylaw23_TrieShares.l1 k l turn (outP (buildN l l.length)) ((buildN l i).length : Int) (turnP l p i) (i : Int) ((mst l i j : Nat) : Int) (j : Int)) true := by
  have p0 : (0 : Int) ≤ (i : Int) := by omega
  have p1 : (i : Int) < (l.length : Int) := by omega
  intro d
  induction d with
  | zero =>
    intro j hj
    have e : i = j := by omega
    subst e
    have hjl : ¬ (i : Int) < (i : Int) := by omega
    have hw : wrap64 ((i : Int) + 1) = ((i + 1 : Nat) : Int) := by rw [w64_ (by omega) (by omega)]; omega
    have hw2 : wrap64 ((i : Int) + (p : Int)) = ((i + p : Nat) : Int) := by rw [w64_ (by omega) (by omega)]; omega
    have hm : Int.tmod (((i + p : Nat)) : Int) ((l.length : Nat) : Int) = (((i + p) % l.length : Nat) : Int) := (Int.ofNat_tmod _ _).symm
    have hlt := Nat.mod_lt (i + p) (show 0 < l.length by omega)
    have m0 : (0 : Int) ≤ (((i + p) % l.length : Nat) : Int) := by omega
    have m1 : (((i + p) % l.length : Nat) : Int) < ((l.length : Nat) : Int) := by omega
    have hb := build_bound l hs i (by omega)
    have hr := rdP_small l hs i
    have hml := mst_le l i i
    have hbl := build_len l i
    have hsum : wrap64 (wrap64 (((buildN l i).length : Int) + ((rd_L3 l (i : Int)).length : Int)) - ((mst l i i : Nat) : Int)) = ((buildN l (i + 1)).length : Int) := by
      rw [rdL_rdP, w64_ (n := ((buildN l i).length : Int) + ((rdP l i).length : Int)) (by omega) (by omega), w64_ (by omega) (by omega), hbl]
      omega
    have hlen : (turnP l p i).length < 5864062014805 := by rw [turn_len]; omega
    have htp : turnP l p i ++ [rd_L3 l (((i + p) % l.length : Nat) : Int)] = turnP l p (i + 1) := by
      rw [rdL_rdP]
      unfold turnP
      rw [List.range_succ, List.map_append]
      rfl
    exact Evt.step _ (fun k => by rw [quarrylaw23_TrieShares.l1, if_neg hjl, if_pos p0, if_pos p1, hpick, Option.bind_some, if_neg (by omega), hw2, hm, if_pos m0, if_pos m1, if_pos hlen, hsum, htp, hw]) next
  | succ d ih =>
    intro j hj
    have hjl : (j : Int) < (i : Int) := by omega
    have q0 : (0 : Int) ≤ (j : Int) := by omega
    have q1 : (j : Int) < (l.length : Int) := by omega
    have hw : wrap64 ((j : Int) + 1) = ((j + 1 : Nat) : Int) := by rw [w64_ (by omega) (by omega)]; omega
    have hbg := begins_evt (rdP l i) (rdP l j) (by have := rdP_small l hs i; omega)
    have hmx : mx ((mst l i j : Nat) : Int) ((bgN (rdP l i) (rdP l j) : Nat) : Int) = ((mst l i (j + 1) : Nat) : Int) := by
      show mx _ _ = ((max (mst l i j) (bgN (rdP l i) (rdP l j)) : Nat) : Int)
      unfold mx
      split <;> omega
    refine Evt.step _ (fun k => by rw [quarrylaw23_TrieShares.l1, if_pos hjl, if_pos p0, if_pos p1, if_pos q0, if_pos q1, rdL_rdP, rdL_rdP]) (Evt.bind hbg ?_)
    exact Evt.eq _ (fun k => by rw [hmx, hw]) (ih (j + 1) (by omega))
theorem shares_go : ∀ (d i : Nat), l.length = i + d → Evt (fun k => quarrylaw23_TrieShares.l0 k l turn (outP (buildN l l.length)) ((buildN l i).length : Int) (turnP l p i) (i : Int)) true := by
  intro d
  induction d with
  | zero =>
    intro i h
    have e : i = l.length := by omega
    subst e
    have hi : ¬ (l.length : Int) < (l.length : Int) := by omega
    have hb := turn_build l hs h256 hall p hp
    have he : (((outP (buildN l l.length)).length : Nat) : Int) = ((buildN l l.length).length : Int) := by rw [outP_len]
    have hf : ((((outP (buildN (turnP l p l.length) l.length)).length : Nat) : Int) == (((buildN l l.length).length : Nat) : Int)) = true := by
      rw [outP_len, turn_same l p hp]
      simp
    exact Evt.done (fun k => by rw [quarrylaw23_TrieShares.l0, if_neg hi, hb, Option.bind_some, if_pos he, if_pos rfl, hf])
  | succ d ih =>
    intro i h
    have hi : (i : Int) < (l.length : Int) := by omega
    have := most_go l turn hs h256 p hp hpick i (by omega) (ih (i + 1) (by omega)) i 0 (by omega)
    exact Evt.step _ (fun k => by rw [quarrylaw23_TrieShares.l0, if_pos hi]; rfl) this
end
theorem trieShares_pure (l : List (List S53)) (turn : Int) (hs : SmallL l) : ∃ k, quarrylaw23_TrieShares.f k l turn = some true := by
  refine Evt.ex (Evt.eq _ (fun k => by rw [quarrylaw23_TrieShares.f]) (Evt.bind awake_evt (Evt.eq _ (fun k => by rw [if_pos rfl, build_is l hs, Option.bind_some]) ?_)))
  have stop : ∀ x, Evt (fun k => quarrylaw23_TrieShares.j0 k l turn x true) true := fun x => Evt.done (fun k => by rw [quarrylaw23_TrieShares.j0, if_pos rfl])
  by_cases h256 : 256 < l.length
  · have hg : trie_Build.g l = ([], 2) := by unfold trie_Build.g; rw [if_pos h256]
    exact Evt.eq _ (fun k => by rw [hg, if_neg (by decide)]) (stop _)
  · by_cases hall : l.all (fun p => p.all okS) = true
    · have hg : trie_Build.g l = (outP (buildN l l.length), 0) := by unfold trie_Build.g; rw [if_neg h256, if_pos hall]
      refine Evt.eq _ (fun k => by rw [hg, if_pos rfl]) ?_
      by_cases h0 : l.length = 0
      · rw [show (((l.length : Nat) : Int) == 0) = true by rw [h0]; rfl]
        exact stop _
      · rw [show (((l.length : Nat) : Int) == 0) = false by rw [beq_eq_false_iff_ne]; omega]
        obtain ⟨p, hp, _, hpick⟩ := pick_is turn l.length (by omega)
        have := shares_go l turn hs (by omega) hall p hp (hpick (by omega)) l.length 0 (by omega)
        exact Evt.step _ (fun k => by rw [quarrylaw23_TrieShares.j0, if_neg (by decide)]; rfl) this
    · have hg : trie_Build.g l = ([], 1) := by unfold trie_Build.g; rw [if_neg h256, if_neg hall]
      exact Evt.eq _ (fun k => by rw [hg, if_neg (by decide)]) (stop _)
end Go.Proofs.Ythlneooboiphdaa.PTrieShares
