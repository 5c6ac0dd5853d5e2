/- Formed of a trie: what the program answers. -/
import Derived.Test.YthlneooboiphdaaTrieGoesNodeEv
import Derived.Test.YthlneooboiphdaaIntRow
import Derived.Test.YthlneooboiphdaaPTrieGoesx3
set_option linter.unusedVariables false
set_option linter.unusedSimpArgs false
namespace Go.Proofs.Ythlneooboiphdaa.PTrieGoes
open Go.RowKit Go.Proofs.Ythlneooboiphdaa Go.Proofs.YthlneooboiphdaaW.PrintWords Go.Proofs.YthlneooboiphdaaW.PrintLast Go.Proofs.YthlneooboiphdaaW.PrintMore
open Classical
def toS (t : List S50) (i : Nat) : List Int := (t.take i).flatMap (fun x => x.f1)
def endS (t : List S50) (i : Nat) : List Int := (t.take i).flatMap (fun x => x.f2)
theorem rd_node (t : List S50) (i : Nat) (h : i < t.length) : t[i] = rd_T50 t (i : Int) := by
  unfold rd_T50
  rw [Int.toNat_natCast, List.getD_eq_getElem?_getD, List.getElem?_eq_getElem h]
  rfl
theorem node_mem (t : List S50) (i : Int) (h0 : 0 ≤ i) (h : i < (t.length : Int)) : rd_T50 t i ∈ t := by
  obtain ⟨m, rfl⟩ := Int.eq_ofNat_of_zero_le h0
  rw [show ((m : Nat) : Int) = (m : Int) from rfl, ← rd_node t m (by omega)]
  exact List.getElem_mem _
theorem toS_succ (t : List S50) (i : Nat) (h : i < t.length) : toS t (i + 1) = toS t i ++ (rd_T50 t (i : Int)).f1 := by
  unfold toS
  rw [List.take_succ_eq_append_getElem h, List.flatMap_append, rd_node t i h]
  simp
theorem endS_succ (t : List S50) (i : Nat) (h : i < t.length) : endS t (i + 1) = endS t i ++ (rd_T50 t (i : Int)).f2 := by
  unfold endS
  rw [List.take_succ_eq_append_getElem h, List.flatMap_append, rd_node t i h]
  simp
theorem toS_pre (t : List S50) (i : Nat) (h : i < t.length) : ∃ r, toS t t.length = (toS t i ++ (rd_T50 t (i : Int)).f1) ++ r := by
  rw [← toS_succ t i h]
  refine ⟨(t.drop (i + 1)).flatMap (fun x => x.f1), ?_⟩
  unfold toS
  rw [← List.flatMap_append, List.take_append_drop, List.take_length]
theorem endS_le (t : List S50) (i : Nat) : (endS t i).length ≤ (endS t t.length).length := by
  have e : endS t t.length = endS t i ++ (t.drop i).flatMap (fun x => x.f2) := by
    unfold endS
    rw [← List.flatMap_append, List.take_append_drop, List.take_length]
  rw [e, List.length_append]
  omega
theorem toS_le (t : List S50) (i : Nat) : (toS t i).length ≤ (toS t t.length).length := by
  have e : toS t t.length = toS t i ++ (t.drop i).flatMap (fun x => x.f1) := by
    unfold toS
    rw [← List.flatMap_append, List.take_append_drop, List.take_length]
  rw [e, List.length_append]
  omega
theorem toS_zero (t : List S50) : toS t 0 = [] := rfl
theorem endS_zero (t : List S50) : endS t 0 = [] := rfl
/-- The numbers that are marked. -/
def Marks (r : List Bool) (n : Nat) (T : List Int) : Prop := r.length = n ∧ ∀ m : Int, 0 ≤ m → m < n → (rdOf false r m = true ↔ m ∈ T)
theorem marks_nil (n : Nat) : Marks (List.replicate n false) n [] := by
  refine ⟨List.length_replicate, fun m h0 h1 => ?_⟩
  unfold rdOf
  rw [List.getD_eq_getElem?_getD, List.getElem?_replicate, if_pos (by omega)]
  simp
theorem marks_set {r : List Bool} {n : Nat} {T : List Int} (h : Marks r n T) {v : Int} (h0 : 0 ≤ v) (h1 : v < n) : Marks (r.set v.toNat true) n (T ++ [v]) := by
  refine ⟨by rw [List.length_set]; exact h.1, fun m m0 m1 => ?_⟩
  have hl := h.1
  have hm := h.2 m m0 m1
  unfold rdOf at hm ⊢
  rw [List.getD_eq_getElem?_getD] at hm
  rw [List.getD_eq_getElem?_getD, List.getElem?_set, List.mem_append, List.mem_singleton]
  by_cases e : m = v
  · subst e
    rw [if_pos rfl, if_pos (by omega)]
    exact ⟨fun _ => .inr rfl, fun _ => rfl⟩
  · rw [if_neg (by omega), hm]
    exact ⟨fun h => .inl h, fun h => h.elim id (fun h => absurd h e)⟩
theorem marks_all {r : List Bool} {n : Nat} {T : List Int} (h : Marks r n T) : false ∈ r.drop 1 ↔ ¬ ∀ m : Int, 1 ≤ m → m < n → m ∈ T := by
  have hl := h.1
  constructor
  · intro hf ha
    obtain ⟨k, hk, e⟩ := List.getElem_of_mem hf
    rw [List.length_drop] at hk
    have hm := (h.2 ((1 + k : Nat) : Int) (by omega) (by omega)).2 (ha _ (by omega) (by omega))
    rw [List.getElem_drop] at e
    unfold rdOf at hm
    rw [Int.toNat_natCast, List.getD_eq_getElem?_getD, List.getElem?_eq_getElem (by omega), e] at hm
    cases hm
  · intro ha
    refine Classical.byContradiction (fun hf => ha (fun m m0 m1 => (h.2 m (by omega) m1).1 ?_))
    unfold rdOf
    rw [List.getD_eq_getElem?_getD, List.getElem?_eq_getElem (show m.toNat < r.length by omega)]
    show r[m.toNat]'_ = true
    cases e : r[m.toNat]'(show m.toNat < r.length by omega) with
    | true => rfl
    | false =>
      refine absurd ?_ hf
      rw [← e]
      have : r[m.toNat]'(show m.toNat < r.length by omega) = (r.drop 1)[m.toNat - 1]'(by rw [List.length_drop]; omega) := by
        rw [List.getElem_drop]
        congr 1
        omega
      rw [this]
      exact List.getElem_mem _
def FormedQ (t : List S50) : Prop :=
  t.length ≠ 0 ∧ (endS t t.length).length ≤ 256 ∧ All (NodeR t) 0 t.length ∧ (toS t t.length).Nodup ∧ (∀ m : Int, 1 ≤ m → m < (t.length : Nat) → m ∈ toS t t.length) ∧ (∀ k : Int, 0 ≤ k → k < (endS t t.length).length → k = rd (sorted_ (endS t t.length)) k)
def SmallT (t : List S50) : Prop := t.length ≤ 1073741824 ∧ (∀ x ∈ t, SmallN x) ∧ (endS t t.length).length ≤ 1073741824 ∧ (toS t t.length).length ≤ 1073741824
theorem l2_go (s : List Int) (hl : (s.length : Int) ≤ 1073741824) : ∀ (d : Nat) (i : Int), 0 ≤ i → (s.length : Int) ≤ i + d → Evt (fun k => trie_Formed.l2 k s s.length i) (decide (All (fun k => k = rd s k) i s.length)) := by
  intro d
  induction d with
  | zero =>
    intro i h1 h2
    have hi : ¬ i < (s.length : Int) := by omega
    rw [All.end_ hi]
    exact Evt.done (fun k => by rw [trie_Formed.l2, if_neg hi])
  | succ d ih =>
    intro i h1 h2
    by_cases hi : i < (s.length : Int)
    · have hw2 : wrap64 (i + 1) = i + 1 := w64_ (by omega) (by omega)
      by_cases c : i = rd s i
      · rw [All.step hi c]
        exact Evt.step _ (fun k => by rw [trie_Formed.l2, if_pos hi, if_pos h1, if_pos hi, if_pos c, hw2]) (ih (i + 1) (by omega) (by omega))
      · rw [All.bad hi c]
        exact Evt.done (fun k => by rw [trie_Formed.l2, if_pos hi, if_pos h1, if_pos hi, if_neg c])
    · rw [All.end_ hi]
      exact Evt.done (fun k => by rw [trie_Formed.l2, if_neg hi])
theorem j2_evt (E : List Int) (hl : E.length ≤ 1073741824) : Evt (fun k => trie_Formed.j2 k E false) (decide (∀ k : Int, 0 ≤ k → k < E.length → k = rd (sorted_ E) k)) := by
  have hs : slices_Sort.f E = some (sorted_ E) := by
    unfold slices_Sort.f
    rw [if_pos (by omega)]
  have h := l2_go (sorted_ E) (by rw [sorted_length]; omega) E.length 0 (by decide) (by rw [sorted_length]; omega)
  rw [sorted_length] at h
  exact Evt.step _ (fun k => by rw [trie_Formed.j2, if_neg (by decide), hs, Option.bind_some]) h
theorem j2_true (E : List Int) : Evt (fun k => trie_Formed.j2 k E true) false := Evt.done (fun k => by rw [trie_Formed.j2, if_pos rfl])
theorem index_b (l : List Bool) (hl : (l.length : Int) ≤ 1073741824) : ∀ (d : Nat) (m : Int), 0 ≤ m → (l.length : Int) ≤ m + d → (∀ q : Int, 0 ≤ q → q < m → q < l.length → rdOf false l q = true) →
    ∃ r : Int, Evt (fun k => slices_Index_bool_bool.l0 k l false l.length m) r ∧ (r ≥ 0 ↔ false ∈ l) := by
  have fin : ∀ m : Int, ¬ m < (l.length : Int) → (∀ q : Int, 0 ≤ q → q < m → q < l.length → rdOf false l q = true) → ∃ r : Int, Evt (fun k => slices_Index_bool_bool.l0 k l false l.length m) r ∧ (r ≥ 0 ↔ false ∈ l) := by
    intro m hm hq
    refine ⟨-1, Evt.done (fun k => by rw [slices_Index_bool_bool.l0, if_neg hm]), fun h => absurd h (by decide), fun h => ?_⟩
    obtain ⟨q, h1, h2⟩ := List.getElem_of_mem h
    have := hq (q : Int) (by omega) (by omega) (by omega)
    unfold rdOf at this
    rw [Int.toNat_natCast, List.getD_eq_getElem?_getD, List.getElem?_eq_getElem h1, h2] at this
    cases this
  intro d
  induction d with
  | zero =>
    intro m h0 h1 hq
    exact fin m (by omega) hq
  | succ d ih =>
    intro m h0 h1 hq
    by_cases hm : m < (l.length : Int)
    · have hw2 : wrap64 (m + 1) = m + 1 := w64_ (by omega) (by omega)
      cases e : rdOf false l m with
      | false =>
        refine ⟨m, Evt.done (fun k => by rw [slices_Index_bool_bool.l0, if_pos hm, if_pos h0, if_pos hm, e, if_pos (by decide)]), fun _ => ?_, fun _ => h0⟩
        unfold rdOf at e
        rw [List.getD_eq_getElem?_getD, List.getElem?_eq_getElem (show m.toNat < l.length by omega)] at e
        rw [← show l[m.toNat]'(show m.toNat < l.length by omega) = false from e]
        exact List.getElem_mem _
      | true =>
        obtain ⟨r, hr, hi⟩ := ih (m + 1) (by omega) (by omega) (fun q a b c => by
          by_cases he : q = m
          · rw [he, e]
          · exact hq q a (by omega) c)
        exact ⟨r, Evt.step _ (fun k => by rw [slices_Index_bool_bool.l0, if_pos hm, if_pos h0, if_pos hm, e, if_neg (by decide), hw2]) hr, hi⟩
    · exact fin m hm hq
theorem contains_evt (l : List Bool) (hl : (l.length : Int) ≤ 1073741824) : Evt (fun k => slices_Contains_bool_bool.f k l false) (decide (false ∈ l)) := by
  obtain ⟨r, hr, hi⟩ := index_b l hl l.length 0 (by decide) (by omega) (fun q a b => by omega)
  have hr2 : Evt (fun k => slices_Index_bool_bool.f k l false) r := hr
  rw [show decide (false ∈ l) = decide (r ≥ 0) from decide_eq_decide.2 hi.symm]
  exact Evt.bind hr2 Evt.const
section
variable (t : List S50) (hs : SmallT t)
include hs
theorem l1_go (i : Nat) (hi : i < t.length) (hN : NodeR t i)
    (next : ∀ r, Marks r t.length (toS t (i + 1)) → (toS t (i + 1)).Nodup → Evt (fun k => trie_Formed.l0 k t r (endS t (i + 1)) t.length ((i + 1 : Nat) : Int)) (decide (FormedQ t))) :
    ∀ (d j : Nat) (r : List Bool), (rd_T50 t (i : Int)).f1.length = j + d → Marks r t.length (toS t i ++ (rd_T50 t (i : Int)).f1.take j) → (toS t i ++ (rd_T50 t (i : Int)).f1.take j).Nodup →
    Evt (fun k => trie_Formed.l1 k t r (endS t i) i t.length i (rd_T50 t (i : Int)).f1 (rd_T50 t (i : Int)).f1.length j) (decide (FormedQ t)) := by
  obtain ⟨s0, s1, s2⟩ := hs
  have hx := s1 _ (node_mem t i (by omega) (by omega))
  have hx1 := hx.2.1
  intro d
  induction d with
  | zero =>
    intro j r hj hm hn
    have hjl : ¬ ((j : Nat) : Int) < ((rd_T50 t (i : Int)).f1.length : Int) := by omega
    rw [List.take_of_length_le (by omega), ← toS_succ t i hi] at hm hn
    have h1 := next r hm hn
    have hle := endS_le t (i + 1)
    rw [endS_succ t i hi] at h1 hle
    rw [List.length_append] at hle
    have p0 : (0 : Int) ≤ (i : Int) := by omega
    have p1 : (i : Int) < (t.length : Int) := by omega
    have hw : wrap64 ((i : Int) + 1) = ((i + 1 : Nat) : Int) := by rw [w64_ (by omega) (by omega)]; omega
    exact Evt.step _ (fun k => by rw [trie_Formed.l1, if_neg hjl, if_pos p0, if_pos p1, if_pos (by omega), hw]) h1
  | succ d ih =>
    intro j r hj hm hn
    have hjl : ((j : Nat) : Int) < ((rd_T50 t (i : Int)).f1.length : Int) := by omega
    have hjn : j < (rd_T50 t (i : Int)).f1.length := by omega
    have p0 : (0 : Int) ≤ (j : Int) := by omega
    have hv := hN.2.2.2 (j : Int) p0 (by have := hN.1; omega)
    have hget : rd (rd_T50 t (i : Int)).f1 (j : Int) = (rd_T50 t (i : Int)).f1[j] := by
      unfold rd
      rw [Int.toNat_natCast, List.getD_eq_getElem?_getD, List.getElem?_eq_getElem hjn]
      rfl
    have v0 : 0 ≤ rd (rd_T50 t (i : Int)).f1 (j : Int) := by have := hv.1; omega
    have v1 : rd (rd_T50 t (i : Int)).f1 (j : Int) < (r.length : Int) := by rw [hm.1]; exact hv.2.1
    have v2 : rd (rd_T50 t (i : Int)).f1 (j : Int) < (t.length : Nat) := hv.2.1
    have hw : wrap64 ((j : Int) + 1) = ((j + 1 : Nat) : Int) := by rw [w64_ (by omega) (by omega)]; omega
    have htk : toS t i ++ (rd_T50 t (i : Int)).f1.take (j + 1) = (toS t i ++ (rd_T50 t (i : Int)).f1.take j) ++ [rd (rd_T50 t (i : Int)).f1 (j : Int)] := by
      rw [List.take_succ_eq_append_getElem hjn, List.append_assoc, hget]
    cases e : rdOf false r (rd (rd_T50 t (i : Int)).f1 (j : Int)) with
    | true =>
      have hin := (hm.2 _ v0 v2).1 e
      have hnot : ¬ FormedQ t := by
        intro hF
        obtain ⟨q, hq⟩ := toS_pre t i hi
        have hnd := hF.2.2.2.1
        rw [hq] at hnd
        have e2 : toS t i ++ (rd_T50 t (i : Int)).f1 = (toS t i ++ (rd_T50 t (i : Int)).f1.take (j + 1)) ++ (rd_T50 t (i : Int)).f1.drop (j + 1) := by
          rw [List.append_assoc, List.take_append_drop]
        have h3 := (List.nodup_append.1 hnd).1
        rw [e2] at h3
        have h4 := (List.nodup_append.1 h3).1
        rw [htk] at h4
        exact (List.nodup_append.1 h4).2.2 _ hin _ (List.mem_singleton.2 rfl) rfl
      rw [decide_eq_false hnot]
      exact Evt.done (fun k => by rw [trie_Formed.l1, if_pos hjl, if_pos p0, if_pos hjl, if_pos v0, if_pos v1, if_pos e])
    | false =>
      have hout : rd (rd_T50 t (i : Int)).f1 (j : Int) ∉ toS t i ++ (rd_T50 t (i : Int)).f1.take j := fun h => by
        have := (hm.2 _ v0 v2).2 h
        rw [e] at this
        cases this
      have h2 := ih (j + 1) (r.set (rd (rd_T50 t (i : Int)).f1 (j : Int)).toNat true) (by omega) (by rw [htk]; exact marks_set hm v0 v2)
        (by
          rw [htk]
          exact List.nodup_append.2 ⟨hn, List.nodup_cons.2 ⟨by simp, List.nodup_nil⟩, fun a ha b hb hab => hout (by rw [← List.mem_singleton.1 hb, ← hab]; exact ha)⟩)
      exact Evt.step _ (fun k => by rw [trie_Formed.l1, if_pos hjl, if_pos p0, if_pos hjl, if_pos v0, if_pos v1, if_neg (by rw [e]; decide), hw]) h2
theorem l0_go : ∀ (d i : Nat) (r : List Bool), t.length = i + d → Marks r t.length (toS t i) → (toS t i).Nodup → All (NodeR t) 0 i →
    Evt (fun k => trie_Formed.l0 k t r (endS t i) t.length i) (decide (FormedQ t)) := by
  intro d
  induction d with
  | zero =>
    intro i r hi hm hn hN
    have hi2 : i = t.length := by omega
    subst hi2
    have hil : ¬ ((t.length : Nat) : Int) < ((t.length : Nat) : Int) := by omega
    by_cases c1 : ((t.length : Nat) : Int) = 0
    · rw [decide_eq_false (fun h : FormedQ t => h.1 (by omega))]
      exact Evt.step _ (fun k => by rw [trie_Formed.l0, if_neg hil, if_pos c1]) (j2_true _)
    · by_cases c2 : ((endS t t.length).length : Int) > 256
      · rw [decide_eq_false (fun h : FormedQ t => by have := h.2.1; omega)]
        exact Evt.step _ (fun k => by rw [trie_Formed.l0, if_neg hil, if_neg c1, if_pos c2]) (j2_true _)
      · have hlr := hm.1
        have c3 : 1 ≤ ((r.length : Nat) : Int) := by omega
        have hc := contains_evt (r.drop 1) (by have := hs.1; rw [List.length_drop]; omega)
        refine Evt.step _ (fun k => by rw [trie_Formed.l0, if_neg hil, if_neg c1, if_neg c2, if_pos c3]) (Evt.bind hc ?_)
        by_cases c4 : false ∈ r.drop 1
        · rw [decide_eq_true c4, decide_eq_false (fun h : FormedQ t => (marks_all hm).1 c4 h.2.2.2.2.1)]
          exact j2_true _
        · rw [decide_eq_false c4]
          refine (j2_evt _ (by omega)).cast (decide_eq_decide.2 ⟨fun h => ⟨by omega, by omega, hN, hn, Classical.byContradiction (fun h2 => c4 ((marks_all hm).2 h2)), h⟩, fun h => h.2.2.2.2.2⟩)
  | succ d ih =>
    intro i r hi hm hn hN
    have hil : ((i : Nat) : Int) < ((t.length : Nat) : Int) := by omega
    have p0 : (0 : Int) ≤ (i : Int) := by omega
    have hr := right_evt t i p0 hil (hs.2.1 _ (node_mem t i p0 hil))
    by_cases c1 : NodeR t i
    · rw [decide_eq_true c1] at hr
      have hN2 : All (NodeR t) 0 ((i + 1 : Nat) : Int) := fun m a b => by
        by_cases e : m = i
        · subst e; exact c1
        · exact hN m a (by omega)
      have h1 := l1_go t hs i (by omega) c1 (fun r2 m2 n2 => ih (i + 1) r2 (by omega) m2 n2 hN2) (rd_T50 t (i : Int)).f1.length 0 r (by omega) (by simpa using hm) (by simpa using hn)
      exact Evt.step _ (fun k => by rw [trie_Formed.l0, if_pos hil]) (Evt.bind hr (Evt.eq _ (fun k => by rw [if_pos rfl, if_pos p0, if_pos hil]; rfl) h1))
    · rw [decide_eq_false c1] at hr
      rw [decide_eq_false (fun h : FormedQ t => c1 (h.2.2.1 i p0 hil))]
      exact Evt.step _ (fun k => by rw [trie_Formed.l0, if_pos hil]) (Evt.bind hr (Evt.eq _ (fun k => by rw [if_neg (by decide)]) Evt.const))
theorem trieFormed_evt : Evt (fun k => trie_Formed.f k t) (decide (FormedQ t)) := by
  have h := l0_go t hs t.length 0 (List.replicate t.length false) (by omega) (marks_nil _) List.nodup_nil (fun m a b => by omega)
  have p0 : (0 : Int) ≤ (t.length : Int) := by omega
  have p1 : ((t.length : Int) : Int).toNat ≤ 281474976710656 := by have := hs.1; omega
  exact Evt.eq _ (fun k => by rw [trie_Formed.f, if_pos p0, if_pos p1, Int.toNat_natCast]; rfl) h
end
end Go.Proofs.Ythlneooboiphdaa.PTrieGoes
