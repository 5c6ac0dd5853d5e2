/- Go of a trie: the program's and the document's answer are one. -/
import Derived.Test.YthlneooboiphdaaTrieGoesRefForm
import Derived.Test.YthlneooboiphdaaPTrieGoesx4
import Derived.Test.YthlneooboiphdaaPTrieGoesx8
set_option linter.unusedVariables false
set_option linter.unusedSimpArgs false
namespace Go.Proofs.Ythlneooboiphdaa.PTrieGoes
open Go.RowKit Go.Proofs.Ythlneooboiphdaa Go.Proofs.YthlneooboiphdaaW.PrintWords Go.Proofs.YthlneooboiphdaaW.PrintLast Go.Proofs.YthlneooboiphdaaW.PrintMore
open Classical
def takesB (s : S53) (nm : ByteArray) (pl : Int) (ob : Bool) : Bool := if s.f0 = 1 then (if ob = true then (s.f1.toList == nm.toList) else false) else (if s.f0 = 2 then (if ob = true then false else (s.f2 == pl)) else (s.f0 == 3))
theorem takes_f (s : S53) (nm : ByteArray) (pl : Int) (ob : Bool) : path_Takes.f s.f0 s.f1 s.f2 nm pl ob = some (takesB s nm pl ob) := by
  unfold path_Takes.f takesB
  split
  · split <;> rfl
  · split
    · split <;> rfl
    · rfl
theorem refTakes_f (s : S53) (nm : ByteArray) (pl : Int) (ob : Bool) : quarryref22_Takes.f s.f0 s.f1 s.f2 nm pl ob = some (takesB s nm pl ob) := by
  unfold quarryref22_Takes.f takesB
  split
  · split <;> rfl
  · split
    · split <;> rfl
    · split
      · rename_i h
        rw [h]
        rfl
      · rename_i h
        rw [show (s.f0 == 3) = false from by simpa using h]
def selOut (s : List S53) (u : List Int) (p : S53 → Bool) : Nat → List Int
  | 0 => []
  | j + 1 => selOut s u p j ++ if p (rd_T53 s (j : Int)) = true then [rd u (j : Int)] else []
def refIn (s : List S53) (u : List Int) (p : S53 → Bool) (v : Int) : Nat → List Int
  | 0 => []
  | j + 1 => refIn s u p v j ++ if rd u (j : Int) = v ∧ p (rd_T53 s (j : Int)) = true then [v] else []
def refOut (s : List S53) (u : List Int) (p : S53 → Bool) : Nat → List Int
  | 0 => []
  | m + 1 => refOut s u p m ++ refIn s u p (m : Int) u.length
theorem selOut_succ (s : List S53) (u : List Int) (p : S53 → Bool) (j : Nat) : selOut s u p (j + 1) = selOut s u p j ++ if p (rd_T53 s (j : Int)) = true then [rd u (j : Int)] else [] := rfl
theorem refIn_succ (s : List S53) (u : List Int) (p : S53 → Bool) (v : Int) (j : Nat) : refIn s u p v (j + 1) = refIn s u p v j ++ if rd u (j : Int) = v ∧ p (rd_T53 s (j : Int)) = true then [v] else [] := rfl
theorem selOut_len (s : List S53) (u : List Int) (p : S53 → Bool) : ∀ j, (selOut s u p j).length ≤ j
  | 0 => Nat.le_refl _
  | j + 1 => by
    have := selOut_len s u p j
    unfold selOut
    split <;> simp <;> omega
theorem refIn_count (s : List S53) (u : List Int) (p : S53 → Bool) (v x : Int) : ∀ j, (refIn s u p v j).count x = if x = v then (selOut s u p j).count x else 0
  | 0 => by simp [refIn, selOut]
  | j + 1 => by
    have ih := refIn_count s u p v x j
    unfold refIn selOut
    rw [List.count_append, List.count_append, ih]
    by_cases hx : x = v
    · subst hx
      rw [if_pos rfl, if_pos rfl]
      congr 1
      by_cases h1 : p (rd_T53 s (j : Int)) = true
      · rw [if_pos h1]
        by_cases h2 : rd u (j : Int) = x
        · rw [if_pos ⟨h2, h1⟩, h2]
        · rw [if_neg (fun h => h2 h.1)]
          simp [h2]
      · rw [if_neg h1, if_neg (fun h => h1 h.2)]
    · rw [if_neg hx, if_neg hx]
      split
      · have hv : ¬ v = x := fun h => hx h.symm
        simp [hv]
      · rfl
theorem refOut_count (s : List S53) (u : List Int) (p : S53 → Bool) (x : Int) : ∀ m : Nat, (refOut s u p m).count x = if 0 ≤ x ∧ x < m then (selOut s u p u.length).count x else 0
  | 0 => by
    rw [if_neg (by omega)]
    rfl
  | m + 1 => by
    have ih := refOut_count s u p x m
    unfold refOut
    rw [List.count_append, ih, refIn_count]
    by_cases hx : x = (m : Int)
    · rw [if_pos hx, if_neg (by omega), if_pos (by omega)]
      omega
    · rw [if_neg hx]
      by_cases h2 : 0 ≤ x ∧ x < (m : Int)
      · rw [if_pos h2, if_pos (by omega)]
        rfl
      · rw [if_neg h2, if_neg (by omega)]
theorem refIn_mem (s : List S53) (u : List Int) (p : S53 → Bool) (v x : Int) (j : Nat) (h : x ∈ refIn s u p v j) : x = v := by
  refine Classical.byContradiction (fun hx => ?_)
  have h1 := List.count_pos_iff.2 h
  rw [refIn_count, if_neg hx] at h1
  omega
theorem refOut_mem (s : List S53) (u : List Int) (p : S53 → Bool) (x : Int) (m : Nat) (h : x ∈ refOut s u p m) : x < m := by
  refine Classical.byContradiction (fun hx => ?_)
  have h1 := List.count_pos_iff.2 h
  rw [refOut_count, if_neg (by omega)] at h1
  omega
theorem refOut_pw (s : List S53) (u : List Int) (p : S53 → Bool) : ∀ m : Nat, (refOut s u p m).Pairwise (· ≤ ·)
  | 0 => List.Pairwise.nil
  | m + 1 => by
    unfold refOut
    refine List.pairwise_append.2 ⟨refOut_pw s u p m, ?_, fun a ha b hb => ?_⟩
    · refine List.pairwise_of_forall_mem_list (fun a ha b hb => ?_)
      rw [refIn_mem _ _ _ _ _ _ ha, refIn_mem _ _ _ _ _ _ hb]
      exact Int.le_refl _
    · rw [refIn_mem _ _ _ _ _ _ hb]
      exact Int.le_of_lt (refOut_mem _ _ _ _ _ ha)
theorem sel_mem (s : List S53) (u : List Int) (p : S53 → Bool) (x : Int) : ∀ j, x ∈ selOut s u p j → ∃ q : Int, 0 ≤ q ∧ q < j ∧ rd u q = x
  | 0, h => by cases h
  | j + 1, h => by
    unfold selOut at h
    rcases List.mem_append.1 h with h | h
    · obtain ⟨q, a, b, c⟩ := sel_mem s u p x j h
      exact ⟨q, a, by omega, c⟩
    · split at h
      · exact ⟨(j : Int), by omega, by omega, (List.mem_singleton.1 h).symm⟩
      · cases h
theorem sorted_sel (s : List S53) (u : List Int) (p : S53 → Bool) (n : Nat) (hu : ∀ q : Int, 0 ≤ q → q < u.length → 0 ≤ rd u q ∧ rd u q < n) : sorted_ (selOut s u p u.length) = refOut s u p n := by
  refine sorted_unique (List.perm_iff_count.2 (fun x => ?_)) (refOut_pw s u p n)
  rw [refOut_count]
  by_cases h : 0 ≤ x ∧ x < (n : Int)
  · rw [if_pos h]
  · rw [if_neg h, List.count_eq_zero]
    intro hm
    obtain ⟨q, a, b, c⟩ := sel_mem s u p x _ hm
    have := hu q a b
    rw [c] at this
    exact h this
section
variable (t : List S50) (hs : SmallT t) (at_ : Int) (nm : ByteArray) (pl : Int) (ob : Bool)
include hs
theorem go_loop (h0 : 0 ≤ at_) (h1 : at_ < (t.length : Int)) (hlen : (rd_T50 t at_).f0.length = (rd_T50 t at_).f1.length) : ∀ (d j : Nat), (rd_T50 t at_).f0.length = j + d →
    Evt (fun k => trie_Go.l0 k t at_ nm pl ob (selOut (rd_T50 t at_).f0 (rd_T50 t at_).f1 (fun s => takesB s nm pl ob) j) (rd_T50 t at_).f0 (rd_T50 t at_).f0.length j)
      (sorted_ (selOut (rd_T50 t at_).f0 (rd_T50 t at_).f1 (fun s => takesB s nm pl ob) (rd_T50 t at_).f1.length), 0) := by
  have hx := hs.2.1 _ (node_mem t at_ h0 h1)
  have hx0 := hx.1
  intro d
  induction d with
  | zero =>
    intro j hj
    have hjl : ¬ ((j : Nat) : Int) < (((rd_T50 t at_).f0.length : Nat) : Int) := by omega
    rw [show j = (rd_T50 t at_).f1.length by omega] at hjl ⊢
    have hl := selOut_len (rd_T50 t at_).f0 (rd_T50 t at_).f1 (fun s => takesB s nm pl ob) (rd_T50 t at_).f1.length
    have hso : slices_Sort.f (selOut (rd_T50 t at_).f0 (rd_T50 t at_).f1 (fun s => takesB s nm pl ob) (rd_T50 t at_).f1.length) = some (sorted_ (selOut (rd_T50 t at_).f0 (rd_T50 t at_).f1 (fun s => takesB s nm pl ob) (rd_T50 t at_).f1.length)) := by
      unfold slices_Sort.f
      rw [if_pos (by omega)]
    exact Evt.done (fun k => by rw [trie_Go.l0, if_neg hjl, hso, Option.bind_some])
  | succ d ih =>
    intro j hj
    have hjl : ((j : Nat) : Int) < (((rd_T50 t at_).f0.length : Nat) : Int) := by omega
    have hjl1 : ((j : Nat) : Int) < (((rd_T50 t at_).f1.length : Nat) : Int) := by omega
    have q0 : (0 : Int) ≤ (j : Int) := by omega
    have hwj : wrap64 ((j : Int) + 1) = ((j + 1 : Nat) : Int) := by rw [w64_ (by omega) (by omega)]; omega
    have ih1 := ih (j + 1) (by omega)
    have hl := selOut_len (rd_T50 t at_).f0 (rd_T50 t at_).f1 (fun s => takesB s nm pl ob) j
    have p3 : (selOut (rd_T50 t at_).f0 (rd_T50 t at_).f1 (fun s => takesB s nm pl ob) j).length < 17592186044416 := by omega
    have ht := takes_f (rd_T53 (rd_T50 t at_).f0 (j : Int)) nm pl ob
    rw [selOut_succ] at ih1
    cases e : takesB (rd_T53 (rd_T50 t at_).f0 (j : Int)) nm pl ob with
    | true =>
      rw [e] at ht
      rw [if_pos e] at ih1
      exact Evt.step _ (fun k => by rw [trie_Go.l0, if_pos hjl, if_pos q0, if_pos hjl, ht, Option.bind_some, if_pos rfl, if_pos h0, if_pos h1, if_pos hjl1, if_pos p3, hwj]) ih1
    | false =>
      rw [e] at ht
      rw [if_neg (by rw [e]; decide), List.append_nil] at ih1
      exact Evt.step _ (fun k => by rw [trie_Go.l0, if_pos hjl, if_pos q0, if_pos hjl, ht, Option.bind_some, if_neg (by decide), hwj]) ih1
/-- What Go answers. -/
noncomputable def goB (t : List S50) (at_ : Int) (nm : ByteArray) (pl : Int) (ob : Bool) : List Int × Int :=
  if FormedQ t then (if at_ < 0 ∨ at_ ≥ (t.length : Nat) then ([], 2) else (refOut (rd_T50 t at_).f0 (rd_T50 t at_).f1 (fun s => takesB s nm pl ob) t.length, 0)) else ([], 1)
theorem go_evt : Evt (fun k => trie_Go.f k t at_ nm pl ob) (goB t at_ nm pl ob) := by
  have hf := trieFormed_evt t hs
  refine Evt.eq _ (fun k => by rw [trie_Go.f]) (Evt.bind hf ?_)
  unfold goB
  by_cases c : FormedQ t
  · rw [decide_eq_true c, if_pos c]
    by_cases c1 : at_ < 0
    · rw [if_pos (.inl c1)]
      exact Evt.eq _ (fun k => by rw [if_pos rfl, if_pos c1]) Evt.const
    · by_cases c2 : at_ ≥ (t.length : Nat)
      · rw [if_pos (.inr c2)]
        exact Evt.eq _ (fun k => by rw [if_pos rfl, if_neg c1, if_pos c2]) Evt.const
      · rw [if_neg (by omega)]
        have p0 : 0 ≤ at_ := by omega
        have p1 : at_ < (t.length : Int) := by omega
        have hN := c.2.2.1 at_ p0 p1
        have h := go_loop t hs at_ nm pl ob p0 p1 hN.1 (rd_T50 t at_).f0.length 0 (by omega)
        rw [sorted_sel _ _ _ t.length (fun q a b => by
          have hst := hN.2.2.2 q a (by have := hN.1; omega)
          have x1 := hst.1
          have x2 := hst.2.1
          exact ⟨by omega, x2⟩)] at h
        exact Evt.eq _ (fun k => by rw [if_pos rfl, if_neg c1, if_neg c2, if_pos p0, if_pos p1]; rfl) h
  · rw [decide_eq_false c, if_neg c]
    exact Evt.eq _ (fun k => by rw [if_neg (by decide)]) Evt.const
theorem refIn_loop (h0 : 0 ≤ at_) (h1 : at_ < (t.length : Int)) (hlen : (rd_T50 t at_).f0.length = (rd_T50 t at_).f1.length) (v : Nat) (hv : v ≤ t.length) (acc : List Int) (R : List Int × Int)
    (next : Evt (fun k => quarryref23_Go.l0 k t at_ nm pl ob (acc ++ refIn (rd_T50 t at_).f0 (rd_T50 t at_).f1 (fun s => takesB s nm pl ob) v (rd_T50 t at_).f1.length) ((v + 1 : Nat) : Int)) R) :
    ∀ (d j : Nat), (rd_T50 t at_).f1.length = j + d → acc.length + (rd_T50 t at_).f1.length < 17592186044416 →
    Evt (fun k => quarryref23_Go.l1 k t at_ nm pl ob (acc ++ refIn (rd_T50 t at_).f0 (rd_T50 t at_).f1 (fun s => takesB s nm pl ob) v j) v j) R := by
  have hx := hs.2.1 _ (node_mem t at_ h0 h1)
  have hx0 := hx.2.1
  have hT := hs.1
  have hwv : wrap64 ((v : Int) + 1) = ((v + 1 : Nat) : Int) := by rw [w64_ (by omega) (by omega)]; omega
  have hil : ∀ j, (refIn (rd_T50 t at_).f0 (rd_T50 t at_).f1 (fun s => takesB s nm pl ob) v j).length ≤ j := by
    intro j
    induction j with
    | zero => exact Nat.le_refl _
    | succ j ih =>
      unfold refIn
      split <;> simp <;> omega
  intro d
  induction d with
  | zero =>
    intro j hj hb
    have hjl : ¬ ((j : Nat) : Int) < (((rd_T50 t at_).f1.length : Nat) : Int) := by omega
    rw [show j = (rd_T50 t at_).f1.length by omega] at hjl ⊢
    exact Evt.step _ (fun k => by rw [quarryref23_Go.l1, if_pos h0, if_pos h1, if_neg hjl, hwv]) next
  | succ d ih =>
    intro j hj hb
    have hjl : ((j : Nat) : Int) < (((rd_T50 t at_).f1.length : Nat) : Int) := by omega
    have hjl1 : ((j : Nat) : Int) < (((rd_T50 t at_).f0.length : Nat) : Int) := by omega
    have q0 : (0 : Int) ≤ (j : Int) := by omega
    have hwj : wrap64 ((j : Int) + 1) = ((j + 1 : Nat) : Int) := by rw [w64_ (by omega) (by omega)]; omega
    have ih1 := ih (j + 1) (by omega) hb
    have hl := hil j
    have p3 : (acc ++ refIn (rd_T50 t at_).f0 (rd_T50 t at_).f1 (fun s => takesB s nm pl ob) v j).length < 17592186044416 := by rw [List.length_append]; omega
    have ht := refTakes_f (rd_T53 (rd_T50 t at_).f0 (j : Int)) nm pl ob
    rw [refIn_succ] at ih1
    by_cases c : rd (rd_T50 t at_).f1 (j : Int) = (v : Int)
    · cases e : takesB (rd_T53 (rd_T50 t at_).f0 (j : Int)) nm pl ob with
      | true =>
        rw [e] at ht
        rw [if_pos ⟨c, e⟩, ← List.append_assoc] at ih1
        exact Evt.step _ (fun k => by rw [quarryref23_Go.l1, if_pos h0, if_pos h1, if_pos hjl, if_pos q0, if_pos c, if_pos hjl1, ht, Option.bind_some, if_pos rfl, if_pos p3, hwj]) ih1
      | false =>
        rw [e] at ht
        rw [if_neg (fun h => by rw [e] at h; cases h.2), List.append_nil] at ih1
        exact Evt.step _ (fun k => by rw [quarryref23_Go.l1, if_pos h0, if_pos h1, if_pos hjl, if_pos q0, if_pos c, if_pos hjl1, ht, Option.bind_some, if_neg (by decide), hwj]) ih1
    · rw [if_neg (fun h => c h.1), List.append_nil] at ih1
      exact Evt.step _ (fun k => by rw [quarryref23_Go.l1, if_pos h0, if_pos h1, if_pos hjl, if_pos q0, if_neg c, hwj]) ih1
theorem refGo_loop (h0 : 0 ≤ at_) (h1 : at_ < (t.length : Int)) (hlen : (rd_T50 t at_).f0.length = (rd_T50 t at_).f1.length) (hr : (refOut (rd_T50 t at_).f0 (rd_T50 t at_).f1 (fun s => takesB s nm pl ob) t.length).length ≤ 1073741824) : ∀ (d i : Nat), t.length = i + d →
    Evt (fun k => quarryref23_Go.l0 k t at_ nm pl ob (refOut (rd_T50 t at_).f0 (rd_T50 t at_).f1 (fun s => takesB s nm pl ob) i) i) (refOut (rd_T50 t at_).f0 (rd_T50 t at_).f1 (fun s => takesB s nm pl ob) t.length, 0) := by
  have hx := hs.2.1 _ (node_mem t at_ h0 h1)
  have hx0 := hx.2.1
  have mono : ∀ d i : Nat, (refOut (rd_T50 t at_).f0 (rd_T50 t at_).f1 (fun s => takesB s nm pl ob) i).length ≤ (refOut (rd_T50 t at_).f0 (rd_T50 t at_).f1 (fun s => takesB s nm pl ob) (i + d)).length := by
    intro d
    induction d with
    | zero => exact fun i => Nat.le_refl _
    | succ d ih =>
      intro i
      rw [← Nat.add_assoc]
      refine Nat.le_trans (ih i) ?_
      rw [refOut, List.length_append]
      exact Nat.le_add_right _ _
  intro d
  induction d with
  | zero =>
    intro i hi
    rw [show i = t.length by omega]
    have hil : ¬ ((t.length : Nat) : Int) < ((t.length : Nat) : Int) := by omega
    exact Evt.done (fun k => by rw [quarryref23_Go.l0, if_neg hil])
  | succ d ih =>
    intro i hi
    have hil : ((i : Nat) : Int) < ((t.length : Nat) : Int) := by omega
    have hm := mono (d + 1) i
    rw [← hi] at hm
    have h2 := refIn_loop t hs at_ nm pl ob h0 h1 hlen i (by omega) _ _ (ih (i + 1) (by omega)) (rd_T50 t at_).f1.length 0 (by omega) (by omega)
    rw [show refIn (rd_T50 t at_).f0 (rd_T50 t at_).f1 (fun s => takesB s nm pl ob) (i : Int) 0 = [] from rfl, List.append_nil] at h2
    exact Evt.step _ (fun k => by rw [quarryref23_Go.l0, if_pos hil]; rfl) h2
theorem goB_len : (goB t at_ nm pl ob).1.length ≤ 4611686018427387904 := by
  unfold goB
  by_cases c : FormedQ t
  · rw [if_pos c]
    by_cases c1 : at_ < 0 ∨ at_ ≥ (t.length : Nat)
    · rw [if_pos c1]
      decide
    · rw [if_neg c1]
      have p0 : 0 ≤ at_ := by omega
      have p1 : at_ < (t.length : Int) := by omega
      have hN := c.2.2.1 at_ p0 p1
      have hx := hs.2.1 _ (node_mem t at_ p0 p1)
      have hso := sorted_sel (rd_T50 t at_).f0 (rd_T50 t at_).f1 (fun s => takesB s nm pl ob) t.length (fun q a b => by
        have hst := hN.2.2.2 q a (by have := hN.1; omega)
        have x1 := hst.1
        have x2 := hst.2.1
        exact ⟨by omega, x2⟩)
      show (refOut _ _ _ _).length ≤ _
      rw [← hso, sorted_length]
      exact Nat.le_trans (selOut_len _ _ _ _) (Nat.le_trans hx.2.1 (by decide))
  · rw [if_neg c]
    decide
theorem refGo_evt : Evt (fun k => quarryref23_Go.f k t at_ nm pl ob) (goB t at_ nm pl ob) := by
  have hf := refFormed_evt t hs
  refine Evt.eq _ (fun k => by rw [quarryref23_Go.f]) (Evt.bind hf ?_)
  unfold goB
  by_cases c : FormedQ t
  · rw [decide_eq_true c, if_pos c]
    by_cases c1 : at_ < 0
    · rw [if_pos (.inl c1)]
      exact Evt.eq _ (fun k => by rw [if_pos rfl, if_pos c1]) (Evt.done (fun k => by rw [quarryref23_Go.j0, if_pos rfl]))
    · by_cases c2 : at_ ≥ (t.length : Nat)
      · rw [if_pos (.inr c2)]
        exact Evt.eq _ (fun k => by rw [if_pos rfl, if_neg c1]) (Evt.done (fun k => by rw [quarryref23_Go.j0, if_pos (decide_eq_true c2)]))
      · rw [if_neg (by omega)]
        have p0 : 0 ≤ at_ := by omega
        have p1 : at_ < (t.length : Int) := by omega
        have hN := c.2.2.1 at_ p0 p1
        have hx := hs.2.1 _ (node_mem t at_ p0 p1)
        have hso := sorted_sel (rd_T50 t at_).f0 (rd_T50 t at_).f1 (fun s => takesB s nm pl ob) t.length (fun q a b => by
          have hst := hN.2.2.2 q a (by have := hN.1; omega)
          have x1 := hst.1
          have x2 := hst.2.1
          exact ⟨by omega, x2⟩)
        have hle : (refOut (rd_T50 t at_).f0 (rd_T50 t at_).f1 (fun s => takesB s nm pl ob) t.length).length ≤ 1073741824 := by
          rw [← hso, sorted_length]
          exact Nat.le_trans (selOut_len _ _ _ _) hx.2.1
        have h := refGo_loop t hs at_ nm pl ob p0 p1 hN.1 hle t.length 0 (by omega)
        exact Evt.eq _ (fun k => by rw [if_pos rfl, if_neg c1, decide_eq_false c2]) (Evt.step _ (fun k => by rw [quarryref23_Go.j0, if_neg (by decide)]; rfl) h)
  · rw [decide_eq_false c, if_neg c]
    exact Evt.eq _ (fun k => by rw [if_neg (by decide)]) Evt.const
end
end Go.Proofs.Ythlneooboiphdaa.PTrieGoes
