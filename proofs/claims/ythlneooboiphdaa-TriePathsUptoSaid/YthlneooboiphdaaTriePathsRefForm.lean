/- Formed of a trie: what the document answers: the same. -/
import Derived.Test.YthlneooboiphdaaTriePathsTrieForm
import Derived.Test.YthlneooboiphdaaPTriePathsx8
set_option linter.unusedVariables false
set_option linter.unusedSimpArgs false
namespace Go.Proofs.Ythlneooboiphdaa.PTriePaths
open Go.RowKit Go.Proofs.Ythlneooboiphdaa Go.Proofs.YthlneooboiphdaaW.PrintWords Go.Proofs.YthlneooboiphdaaW.PrintLast Go.Proofs.YthlneooboiphdaaW.PrintMore
open Classical
theorem count_take (l : List Int) (P : List Int) (v : Int) (j : Nat) (h : j < l.length) : (P ++ l.take (j + 1)).count v = (P ++ l.take j).count v + if rd l (j : Int) = v then 1 else 0 := by
  have hget : rd l (j : Int) = l[j] := by
    unfold rd
    rw [Int.toNat_natCast, List.getD_eq_getElem?_getD, List.getElem?_eq_getElem h]
    rfl
  rw [List.take_succ_eq_append_getElem h, ← List.append_assoc, List.count_append (l₁ := P ++ l.take j), hget, List.count_singleton]
  simp only [beq_iff_eq]
theorem count_len (P l : List Int) (v : Int) (j : Nat) : (P ++ l.take j).count v ≤ P.length + l.length := by
  have h1 := List.count_le_length (a := v) (l := P ++ l.take j)
  rw [List.length_append, List.length_take] at h1
  omega
section
variable (t : List S50) (hs : SmallT t)
include hs
theorem count_go : ∀ (d i : Nat), t.length = i + d → Evt (fun k => quarryref23_Count.l0 k t ((endS t i).length : Nat) i) (((endS t t.length).length : Nat) : Int) := by
  intro d
  induction d with
  | zero =>
    intro i hi
    have e : i = t.length := by omega
    subst e
    have hil : ¬ ((t.length : Nat) : Int) < ((t.length : Nat) : Int) := by omega
    exact Evt.done (fun k => by rw [quarryref23_Count.l0, if_neg hil])
  | succ d ih =>
    intro i hi
    have hil : ((i : Nat) : Int) < ((t.length : Nat) : Int) := by omega
    have p0 : (0 : Int) ≤ (i : Int) := by omega
    have hle := endS_le t (i + 1)
    have h2 := hs.2.2.1
    have h0 := hs.1
    have hl : (endS t (i + 1)).length = (endS t i).length + (rd_T50 t (i : Int)).f2.length := by rw [endS_succ t i (by omega), List.length_append]
    have hw1 : wrap64 (((endS t i).length : Nat) + (((rd_T50 t (i : Int)).f2.length : Nat) : Int)) = (((endS t (i + 1)).length : Nat) : Int) := by rw [w64_ (by omega) (by omega)]; omega
    have hw : wrap64 ((i : Int) + 1) = ((i + 1 : Nat) : Int) := by rw [w64_ (by omega) (by omega)]; omega
    exact Evt.step _ (fun k => by rw [quarryref23_Count.l0, if_pos hil, if_pos p0, hw1, hw]) (ih (i + 1) (by omega))
theorem count_evt : Evt (fun k => quarryref23_Count.f k t) (((endS t t.length).length : Nat) : Int) := count_go t hs t.length 0 (by omega)
theorem times2_go (v : Int) (i : Nat) (hi : i < t.length) (a : Int) (R : Int × Int)
    (next : Evt (fun k => quarryref23_times.l0 k t v a (((endS t (i + 1)).count v : Nat) : Int) ((i + 1 : Nat) : Int)) R) :
    ∀ (d j : Nat), (rd_T50 t (i : Int)).f2.length = j + d → Evt (fun k => quarryref23_times.l2 k t v a (((endS t i ++ (rd_T50 t (i : Int)).f2.take j).count v : Nat) : Int) i j) R := by
  have h0 := hs.1
  have p0 : (0 : Int) ≤ (i : Int) := by omega
  have p1 : (i : Int) < (t.length : Int) := by omega
  have hle := endS_le t (i + 1)
  have h2 := hs.2.2.1
  have hl : (endS t (i + 1)).length = (endS t i).length + (rd_T50 t (i : Int)).f2.length := by rw [endS_succ t i (by omega), List.length_append]
  have hw : wrap64 ((i : Int) + 1) = ((i + 1 : Nat) : Int) := by rw [w64_ (by omega) (by omega)]; omega
  intro d
  induction d with
  | zero =>
    intro j hj
    have hjl : ¬ ((j : Nat) : Int) < (((rd_T50 t (i : Int)).f2.length : Nat) : Int) := by omega
    rw [List.take_of_length_le (by omega), ← endS_succ t i hi]
    exact Evt.step _ (fun k => by rw [quarryref23_times.l2, if_pos p0, if_pos p1, if_neg hjl, hw]) next
  | succ d ih =>
    intro j hj
    have hjl : ((j : Nat) : Int) < (((rd_T50 t (i : Int)).f2.length : Nat) : Int) := by omega
    have q0 : (0 : Int) ≤ (j : Int) := by omega
    have hwj : wrap64 ((j : Int) + 1) = ((j + 1 : Nat) : Int) := by rw [w64_ (by omega) (by omega)]; omega
    have ih1 := ih (j + 1) (by omega)
    have hc := count_take (rd_T50 t (i : Int)).f2 (endS t i) v j (by omega)
    have hcl := count_len (endS t i) (rd_T50 t (i : Int)).f2 v j
    by_cases c : rd (rd_T50 t (i : Int)).f2 (j : Int) = v
    · rw [if_pos c] at hc
      have hw1 : wrap64 ((((endS t i ++ (rd_T50 t (i : Int)).f2.take j).count v : Nat) : Int) + 1) = (((endS t i ++ (rd_T50 t (i : Int)).f2.take (j + 1)).count v : Nat) : Int) := by rw [w64_ (by omega) (by omega)]; omega
      exact Evt.step _ (fun k => by rw [quarryref23_times.l2, if_pos p0, if_pos p1, if_pos hjl, if_pos q0, if_pos c, hw1, hwj]) ih1
    · rw [if_neg c] at hc
      rw [show (endS t i ++ (rd_T50 t (i : Int)).f2.take j).count v = (endS t i ++ (rd_T50 t (i : Int)).f2.take (j + 1)).count v from by omega]
      exact Evt.step _ (fun k => by rw [quarryref23_times.l2, if_pos p0, if_pos p1, if_pos hjl, if_pos q0, if_neg c, hwj]) ih1
theorem times1_go (v : Int) (i : Nat) (hi : i < t.length) (R : Int × Int)
    (next : Evt (fun k => quarryref23_times.l0 k t v (((toS t (i + 1)).count v : Nat) : Int) (((endS t (i + 1)).count v : Nat) : Int) ((i + 1 : Nat) : Int)) R) :
    ∀ (d j : Nat), (rd_T50 t (i : Int)).f1.length = j + d → Evt (fun k => quarryref23_times.l1 k t v (((toS t i ++ (rd_T50 t (i : Int)).f1.take j).count v : Nat) : Int) (((endS t i).count v : Nat) : Int) i j) R := by
  have h0 := hs.1
  have p0 : (0 : Int) ≤ (i : Int) := by omega
  have p1 : (i : Int) < (t.length : Int) := by omega
  have hle := toS_le t (i + 1)
  have h2 := hs.2.2.2
  have hl : (toS t (i + 1)).length = (toS t i).length + (rd_T50 t (i : Int)).f1.length := by rw [toS_succ t i (by omega), List.length_append]
  intro d
  induction d with
  | zero =>
    intro j hj
    have hjl : ¬ ((j : Nat) : Int) < (((rd_T50 t (i : Int)).f1.length : Nat) : Int) := by omega
    rw [List.take_of_length_le (by omega), ← toS_succ t i hi]
    have h3 := times2_go t hs v i hi _ R next (rd_T50 t (i : Int)).f2.length 0 (by omega)
    rw [List.take_zero, List.append_nil] at h3
    exact Evt.step _ (fun k => by rw [quarryref23_times.l1, if_pos p0, if_pos p1, if_neg hjl]; rfl) h3
  | succ d ih =>
    intro j hj
    have hjl : ((j : Nat) : Int) < (((rd_T50 t (i : Int)).f1.length : Nat) : Int) := by omega
    have q0 : (0 : Int) ≤ (j : Int) := by omega
    have hwj : wrap64 ((j : Int) + 1) = ((j + 1 : Nat) : Int) := by rw [w64_ (by omega) (by omega)]; omega
    have ih1 := ih (j + 1) (by omega)
    have hc := count_take (rd_T50 t (i : Int)).f1 (toS t i) v j (by omega)
    have hcl := count_len (toS t i) (rd_T50 t (i : Int)).f1 v j
    by_cases c : rd (rd_T50 t (i : Int)).f1 (j : Int) = v
    · rw [if_pos c] at hc
      have hw1 : wrap64 ((((toS t i ++ (rd_T50 t (i : Int)).f1.take j).count v : Nat) : Int) + 1) = (((toS t i ++ (rd_T50 t (i : Int)).f1.take (j + 1)).count v : Nat) : Int) := by rw [w64_ (by omega) (by omega)]; omega
      exact Evt.step _ (fun k => by rw [quarryref23_times.l1, if_pos p0, if_pos p1, if_pos hjl, if_pos q0, if_pos c, hw1, hwj]) ih1
    · rw [if_neg c] at hc
      rw [show (toS t i ++ (rd_T50 t (i : Int)).f1.take j).count v = (toS t i ++ (rd_T50 t (i : Int)).f1.take (j + 1)).count v from by omega]
      exact Evt.step _ (fun k => by rw [quarryref23_times.l1, if_pos p0, if_pos p1, if_pos hjl, if_pos q0, if_neg c, hwj]) ih1
theorem times_go (v : Int) : ∀ (d i : Nat), t.length = i + d → Evt (fun k => quarryref23_times.l0 k t v (((toS t i).count v : Nat) : Int) (((endS t i).count v : Nat) : Int) i) ((((toS t t.length).count v : Nat) : Int), (((endS t t.length).count v : Nat) : Int)) := by
  intro d
  induction d with
  | zero =>
    intro i hi
    have e : i = t.length := by omega
    subst e
    have hil : ¬ ((t.length : Nat) : Int) < ((t.length : Nat) : Int) := by omega
    exact Evt.done (fun k => by rw [quarryref23_times.l0, if_neg hil])
  | succ d ih =>
    intro i hi
    have hil : ((i : Nat) : Int) < ((t.length : Nat) : Int) := by omega
    have h1 := times1_go t hs v i (by omega) _ (ih (i + 1) (by omega)) (rd_T50 t (i : Int)).f1.length 0 (by omega)
    rw [List.take_zero, List.append_nil] at h1
    exact Evt.step _ (fun k => by rw [quarryref23_times.l0, if_pos hil]; rfl) h1
theorem times_evt (v : Int) : Evt (fun k => quarryref23_times.f k t v) ((((toS t t.length).count v : Nat) : Int), (((endS t t.length).count v : Nat) : Int)) := times_go t hs v t.length 0 (by omega)
theorem ref1_go : ∀ (d : Nat) (i : Int), 0 ≤ i → (((endS t t.length).length : Nat) : Int) ≤ i + d → Evt (fun k => quarryref23_Formed.l1 k t i) (decide (All (fun k => (endS t t.length).count k = 1) i ((endS t t.length).length : Nat))) := by
  have hcnt := count_evt t hs
  have h2 := hs.2.2.1
  have fin : ∀ i : Int, ¬ i < (((endS t t.length).length : Nat) : Int) → Evt (fun k => quarryref23_Formed.l1 k t i) (decide (All (fun k => (endS t t.length).count k = 1) i ((endS t t.length).length : Nat))) := by
    intro i hi
    rw [All.end_ hi]
    exact Evt.step _ (fun k => by rw [quarryref23_Formed.l1]) (Evt.bind hcnt (Evt.eq _ (fun k => by rw [if_neg hi]) Evt.const))
  intro d
  induction d with
  | zero => exact fun i h0 h1 => fin i (by omega)
  | succ d ih =>
    intro i h0 h1
    by_cases hi : i < (((endS t t.length).length : Nat) : Int)
    · have hw : wrap64 (i + 1) = i + 1 := w64_ (by omega) (by omega)
      refine Evt.step _ (fun k => by rw [quarryref23_Formed.l1]) (Evt.bind hcnt (Evt.eq _ (fun k => by rw [if_pos hi]) (Evt.bind (times_evt t hs i) ?_)))
      by_cases c : (endS t t.length).count i = 1
      · rw [All.step hi c]
        exact Evt.eq _ (fun k => by rw [if_pos (show (((endS t t.length).count i : Nat) : Int) = 1 by omega), hw]) (ih (i + 1) (by omega) (by omega))
      · rw [All.bad hi c]
        exact Evt.eq _ (fun k => by rw [if_neg (show ¬ (((endS t t.length).count i : Nat) : Int) = 1 by omega)]) Evt.const
    · exact fin i hi
def NodeT (t : List S50) (i : Int) : Prop := NodeR t i ∧ (i > 0 → (toS t t.length).count i = 1)
theorem ref0_go : ∀ (d : Nat) (i : Int), 0 ≤ i → ((t.length : Nat) : Int) ≤ i + d → Evt (fun k => quarryref23_Formed.l0 k t i) (decide (All (NodeT t) i (t.length : Nat)) && decide (All (fun k => (endS t t.length).count k = 1) 0 ((endS t t.length).length : Nat))) := by
  have h0' := hs.1
  have fin : ∀ i : Int, ¬ i < ((t.length : Nat) : Int) → Evt (fun k => quarryref23_Formed.l0 k t i) (decide (All (NodeT t) i (t.length : Nat)) && decide (All (fun k => (endS t t.length).count k = 1) 0 ((endS t t.length).length : Nat))) := by
    intro i hi
    rw [All.end_ hi, Bool.true_and]
    exact Evt.step _ (fun k => by rw [quarryref23_Formed.l0, if_neg hi]) (ref1_go t hs (endS t t.length).length 0 (by decide) (by omega))
  intro d
  induction d with
  | zero => exact fun i h0 h1 => fin i (by omega)
  | succ d ih =>
    intro i h0 h1
    by_cases hi : i < ((t.length : Nat) : Int)
    · have hw : wrap64 (i + 1) = i + 1 := w64_ (by omega) (by omega)
      have hr := node_evt t i h0 hi (hs.2.1 _ (node_mem t i h0 hi))
      have ih1 := ih (i + 1) (by omega) (by omega)
      by_cases c1 : NodeR t i
      · rw [decide_eq_true c1] at hr
        refine Evt.step _ (fun k => by rw [quarryref23_Formed.l0, if_pos hi]) (Evt.bind hr (Evt.eq _ (fun k => by rw [if_pos rfl]) (Evt.bind (times_evt t hs i) ?_)))
        by_cases c2 : i > 0
        · by_cases c3 : (toS t t.length).count i = 1
          · rw [All.step hi ⟨c1, fun _ => c3⟩]
            exact Evt.eq _ (fun k => by rw [if_pos c2, if_pos (show (((toS t t.length).count i : Nat) : Int) = 1 by omega), hw]) ih1
          · rw [All.bad hi (fun h => c3 (h.2 c2)), Bool.false_and]
            exact Evt.eq _ (fun k => by rw [if_pos c2, if_neg (show ¬ (((toS t t.length).count i : Nat) : Int) = 1 by omega)]) Evt.const
        · rw [All.step hi ⟨c1, fun h => absurd h c2⟩]
          exact Evt.eq _ (fun k => by rw [if_neg c2, hw]) ih1
      · rw [decide_eq_false c1] at hr
        rw [All.bad hi (fun h => c1 h.1), Bool.false_and]
        exact Evt.step _ (fun k => by rw [quarryref23_Formed.l0, if_pos hi]) (Evt.bind hr (Evt.eq _ (fun k => by rw [if_neg (by decide)]) Evt.const))
    · exact fin i hi
omit hs in
theorem mem_toS {v : Int} (hN : All (NodeR t) 0 (t.length : Nat)) (h : v ∈ toS t t.length) : 0 < v ∧ v < (t.length : Nat) := by
  unfold toS at h
  rw [List.take_length, List.mem_flatMap] at h
  obtain ⟨x, hx, hv⟩ := h
  obtain ⟨i, hi, rfl⟩ := List.getElem_of_mem hx
  rw [rd_node t i hi] at hv
  obtain ⟨j, hj, e⟩ := List.getElem_of_mem hv
  have hn := hN (i : Int) (by omega) (by omega)
  have hst := hn.2.2.2 (j : Int) (by omega) (by have := hn.1; omega)
  have hget : rd (rd_T50 t (i : Int)).f1 (j : Int) = v := by
    unfold rd
    rw [Int.toNat_natCast, List.getD_eq_getElem?_getD, List.getElem?_eq_getElem hj]
    exact e
  have a := hst.1
  have b := hst.2.1
  rw [hget] at a b
  exact ⟨by omega, b⟩
omit hs in
theorem formed_iff : FormedQ t ↔ (t.length ≠ 0 ∧ (endS t t.length).length ≤ 256 ∧ All (NodeT t) 0 (t.length : Nat) ∧ All (fun k => (endS t t.length).count k = 1) 0 ((endS t t.length).length : Nat)) := by
  constructor
  · rintro ⟨h1, h2, h3, h4, h5, h6⟩
    refine ⟨h1, h2, fun i a b => ⟨h3 i a b, fun hi => ?_⟩, fun k a b => count_iff.1 h6 k a b⟩
    rw [h4.count, if_pos (h5 i (by omega) b)]
  · rintro ⟨h1, h2, h3, h4⟩
    have h3' : All (NodeR t) 0 (t.length : Nat) := fun i a b => (h3 i a b).1
    refine ⟨h1, h2, h3', List.nodup_iff_count.2 (fun v => ?_), fun m a b => ?_, count_iff.2 (fun k a b => h4 k a b)⟩
    · by_cases hv : v ∈ toS t t.length
      · obtain ⟨a, b⟩ := mem_toS t h3' hv
        rw [(h3 v (by omega) b).2 a]
        exact Nat.le_refl _
      · rw [List.count_eq_zero.2 hv]
        decide
    · exact List.count_pos_iff.1 (by rw [(h3 m (by omega) b).2 (by omega)]; decide)
theorem refFormed_evt : Evt (fun k => quarryref23_Formed.f k t) (decide (FormedQ t)) := by
  by_cases c1 : ((t.length : Nat) : Int) = 0
  · rw [decide_eq_false (fun h : FormedQ t => h.1 (by omega))]
    exact Evt.eq _ (fun k => by rw [quarryref23_Formed.f, if_pos c1]) (Evt.done (fun k => by rw [quarryref23_Formed.j0, if_pos rfl]))
  · refine Evt.eq _ (fun k => by rw [quarryref23_Formed.f, if_neg c1]) (Evt.bind (count_evt t hs) ?_)
    by_cases c2 : (((endS t t.length).length : Nat) : Int) > 256
    · rw [decide_eq_false (fun h : FormedQ t => by have := h.2.1; omega)]
      exact Evt.done (fun k => by rw [quarryref23_Formed.j0, if_pos (decide_eq_true c2)])
    · refine (Evt.step _ (fun k => by rw [quarryref23_Formed.j0, if_neg (by rw [decide_eq_false c2]; decide)]) (ref0_go t hs t.length 0 (by decide) (by omega))).cast ?_
      rw [Bool.eq_iff_iff, Bool.and_eq_true, decide_eq_true_iff, decide_eq_true_iff, decide_eq_true_iff, formed_iff]
      exact ⟨fun h => ⟨by omega, by omega, h.1, h.2⟩, fun h => ⟨h.2.2.1, h.2.2.2⟩⟩
end
end Go.Proofs.Ythlneooboiphdaa.PTriePaths
