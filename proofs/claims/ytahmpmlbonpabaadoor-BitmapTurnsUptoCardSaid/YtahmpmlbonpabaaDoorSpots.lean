/- Places where something holds, their number below a place, and the place of a rank: for whatever predicate; then for a row of words. Plain Lean, no program. -/
import Derived.Test.YtahmpmlbonpabaaDoorSelect2
namespace Go.Proofs.YtahmpmlbonpabaaDoor.Ones
open Go.Proofs.YtahmpmlbonpabaaDoor

def cnt (p : Nat → Bool) (n : Nat) : Nat := (List.range n).countP p
def spots (p : Nat → Bool) (n : Nat) : List Nat := (List.range n).filter p
def sel (p : Nat → Bool) (n : Nat) (k : Int) : Int := if 0 ≤ k then (match (spots p n)[k.toNat]? with | some i => (i : Int) | none => -1) else -1
theorem cnt_zero (p : Nat → Bool) : cnt p 0 = 0 := rfl
theorem cnt_succ (p : Nat → Bool) (i : Nat) : cnt p (i + 1) = cnt p i + (if p i then 1 else 0) := by
  unfold cnt
  rw [List.range_succ, List.countP_append]
  simp [List.countP_cons]
theorem cnt_add (p : Nat → Bool) (a m : Nat) : cnt p (a + m) = cnt p a + cnt (fun i => p (a + i)) m := by
  unfold cnt
  rw [List.range_add, List.countP_append, List.countP_map]
  rfl
theorem cnt_le (p : Nat → Bool) {a b : Nat} (h : a ≤ b) : cnt p a ≤ cnt p b := by
  obtain ⟨m, rfl⟩ : ∃ m, b = a + m := ⟨b - a, by omega⟩
  rw [cnt_add]
  omega
theorem cnt_le_n (p : Nat → Bool) (n : Nat) : cnt p n ≤ n := by
  have := List.countP_le_length (p := p) (l := List.range n)
  simpa [cnt] using this
theorem spots_len (p : Nat → Bool) (n : Nat) : (spots p n).length = cnt p n := List.countP_eq_length_filter.symm
theorem spots_at (p : Nat → Bool) (n i : Nat) (hi : i < n) (hb : p i = true) : (spots p n)[cnt p i]? = some i := by
  unfold spots
  obtain ⟨d, rfl⟩ : ∃ d, n = i + (d + 1) := ⟨n - i - 1, by omega⟩
  rw [List.range_add, List.filter_append, ← spots_len]
  unfold spots
  rw [List.getElem?_append_right (Nat.le_refl _), Nat.sub_self, List.range_succ_eq_map]
  simp [hb]
theorem spots_rank {p : Nat → Bool} {n j i : Nat} (h : (spots p n)[j]? = some i) : i < n ∧ p i = true ∧ cnt p i = j := by
  have hm := List.mem_filter.1 (List.mem_of_getElem? h)
  have hi := List.mem_range.1 hm.1
  have h2 := spots_at p n i hi hm.2
  refine ⟨hi, hm.2, ?_⟩
  have hnd : (spots p n).Nodup := List.Pairwise.filter _ List.nodup_range
  obtain ⟨l1, e1⟩ := List.getElem?_eq_some_iff.1 h
  obtain ⟨l2, e2⟩ := List.getElem?_eq_some_iff.1 h2
  exact (List.getElem_inj hnd).1 (e2.trans e1.symm)
theorem sel_ge {p : Nat → Bool} {n : Nat} {k : Int} (h : 0 ≤ sel p n k) : ∃ i : Nat, sel p n k = (i : Int) ∧ i < n ∧ p i = true ∧ ((cnt p i : Nat) : Int) = k ∧ 0 ≤ k ∧ k < (cnt p n : Nat) := by
  unfold sel at h ⊢
  by_cases h0 : 0 ≤ k
  · rw [if_pos h0] at h ⊢
    cases hg : (spots p n)[k.toNat]? with
    | none => rw [hg] at h; exact absurd h (by decide)
    | some i =>
      obtain ⟨g1, g2, g3⟩ := spots_rank hg
      have hl := (List.getElem?_eq_some_iff.1 hg).1
      rw [spots_len] at hl
      exact ⟨i, rfl, g1, g2, by omega, h0, by omega⟩
  · rw [if_neg h0] at h
    exact absurd h (by decide)
theorem sel_lt {p : Nat → Bool} {n : Nat} {k : Int} (h : sel p n k < 0) : sel p n k = -1 ∧ (k < 0 ∨ (cnt p n : Nat) ≤ k) := by
  unfold sel at h ⊢
  by_cases h0 : 0 ≤ k
  · rw [if_pos h0] at h ⊢
    cases hg : (spots p n)[k.toNat]? with
    | none =>
      have := List.getElem?_eq_none_iff.1 hg
      rw [spots_len] at this
      exact ⟨rfl, .inr (by omega)⟩
    | some i => rw [hg] at h; exact absurd h (by simp)
  · rw [if_neg h0]
    exact ⟨rfl, .inl (by omega)⟩
theorem sel_at (p : Nat → Bool) (n i : Nat) (hi : i < n) (hb : p i = true) : sel p n ((cnt p i : Nat) : Int) = (i : Int) := by
  unfold sel
  rw [if_pos (by omega), Int.toNat_natCast, spots_at p n i hi hb]
theorem sel_none {p : Nat → Bool} {n : Nat} {k : Int} (h : k < 0 ∨ (cnt p n : Nat) ≤ k) : sel p n k = -1 := by
  by_cases g : 0 ≤ sel p n k
  · obtain ⟨i, _, _, _, _, h5, h6⟩ := sel_ge g
    omega
  · exact (sel_lt (by omega)).1
theorem sel_eq {p : Nat → Bool} {n i : Nat} {k : Int} (hi : i < n) (hb : p i = true) (hk : k = (cnt p i : Nat)) : sel p n k = (i : Int) := by
  rw [hk, sel_at p n i hi hb]

/-- A row of words: is a place set? -/
def wbit (ws : List Nat) (i : Nat) : Bool := (ws.getD (i / 64) 0).testBit (i % 64)
theorem wbit_at (ws : List Nat) (q i : Nat) (hi : i < 64) : wbit ws (64 * q + i) = (ws.getD q 0).testBit i := by
  unfold wbit
  have e1 : (64 * q + i) / 64 = q := by omega
  have e2 : (64 * q + i) % 64 = i := by omega
  rw [e1, e2]
theorem wcnt (ws : List Nat) (q r : Nat) (hr : r ≤ 64) : cnt (wbit ws) (64 * q + r) = cnt (wbit ws) (64 * q) + count (ws.getD q 0) r := by
  rw [cnt_add]
  congr 1
  unfold cnt count
  apply List.countP_congr
  intro i hi
  rw [wbit_at ws q i (by have := List.mem_range.1 hi; omega)]
theorem wcnt_word (ws : List Nat) (q : Nat) : cnt (wbit ws) (64 * (q + 1)) = cnt (wbit ws) (64 * q) + count (ws.getD q 0) 64 := by
  rw [show 64 * (q + 1) = 64 * q + 64 from by omega, wcnt ws q 64 (Nat.le_refl _)]
end Go.Proofs.YtahmpmlbonpabaaDoor.Ones
