/- Ranks and places against one another: the bit of a rank has that rank; a set bit is the bit of its rank. Plain Lean, no program. -/
import Derived.Test.YtahmpmlbonpabaaDoorCount
import Derived.Test.YtahmpmlbonpabaaDoorSelect
namespace Go.Proofs.YtahmpmlbonpabaaDoor.Ones
open Go.Proofs.YtahmpmlbonpabaaDoor

theorem places_at (x i : Nat) (hi : i < 64) (hb : x.testBit i = true) : (places x)[count x i]? = some i := by
  unfold places placesTo
  obtain ⟨d, hd⟩ : ∃ d, 64 = i + (1 + d) := ⟨63 - i, by omega⟩
  rw [hd, List.range_add, List.filter_append, count_len]
  unfold placesTo
  rw [List.getElem?_append_right (Nat.le_refl _), Nat.sub_self, Nat.add_comm 1 d, List.range_succ_eq_map]
  simp [hb]
theorem places_rank {x j i : Nat} (h : (places x)[j]? = some i) : i < 64 ∧ x.testBit i = true ∧ count x i = j := by
  have hm := places_lt (List.mem_of_getElem? h)
  have h2 := places_at x i hm.1 hm.2
  refine ⟨hm.1, hm.2, ?_⟩
  have hnd : (places x).Nodup := List.Pairwise.filter _ List.nodup_range
  obtain ⟨l1, e1⟩ := List.getElem?_eq_some_iff.1 h
  obtain ⟨l2, e2⟩ := List.getElem?_eq_some_iff.1 h2
  exact (List.getElem_inj hnd).1 (e2.trans e1.symm)
theorem places_len (x : Nat) : (places x).length = count x 64 := (count_len x 64).symm

theorem select_ge {x : Nat} {k : Int} (h : 0 ≤ selectOf x k) : ∃ i : Nat, selectOf x k = (i : Int) ∧ i < 64 ∧ x.testBit i = true ∧ ((count x i : Nat) : Int) = k ∧ 0 ≤ k ∧ k < (count x 64 : Nat) := by
  unfold selectOf at h ⊢
  by_cases h0 : 0 ≤ k
  · rw [if_pos h0] at h ⊢
    cases hg : (places x)[k.toNat]? with
    | none => rw [hg] at h; exact absurd h (by decide)
    | some i =>
      obtain ⟨g1, g2, g3⟩ := places_rank hg
      have hl := (List.getElem?_eq_some_iff.1 hg).1
      rw [places_len] at hl
      exact ⟨i, rfl, g1, g2, by omega, h0, by omega⟩
  · rw [if_neg h0] at h
    exact absurd h (by decide)
theorem select_lt {x : Nat} {k : Int} (h : selectOf x k < 0) : selectOf x k = -1 ∧ (k < 0 ∨ (count x 64 : Nat) ≤ k) := by
  unfold selectOf at h ⊢
  by_cases h0 : 0 ≤ k
  · rw [if_pos h0] at h ⊢
    cases hg : (places x)[k.toNat]? with
    | none =>
      have := List.getElem?_eq_none_iff.1 hg
      rw [places_len] at this
      exact ⟨rfl, .inr (by omega)⟩
    | some i => rw [hg] at h; exact absurd h (by simp)
  · rw [if_neg h0]
    exact ⟨rfl, .inl (by omega)⟩
theorem select_at (x i : Nat) (hi : i < 64) (hb : x.testBit i = true) : selectOf x ((count x i : Nat) : Int) = (i : Int) := by
  unfold selectOf
  rw [if_pos (by omega), Int.toNat_natCast, places_at x i hi hb]
end Go.Proofs.YtahmpmlbonpabaaDoor.Ones
