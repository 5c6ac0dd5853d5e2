/- Rows of numbers: sorted; each number below their length once. -/
import Derived.Test.YthlneooboiphdaaSortI
set_option linter.unusedVariables false
set_option linter.unusedSimpArgs false
namespace Go.Proofs.Ythlneooboiphdaa
open Go.RowKit Go.Proofs.YthlneooboiphdaaW.PrintWords Go.Proofs.YthlneooboiphdaaW.PrintLast Go.Proofs.YthlneooboiphdaaW.PrintMore
def iota (n : Nat) : List Int := (List.range n).map fun (k : Nat) => (k : Int)
theorem iota_length (n : Nat) : (iota n).length = n := by simp [iota]
theorem mem_iota {n : Nat} {x : Int} : x ∈ iota n ↔ 0 ≤ x ∧ x < n := by
  unfold iota
  rw [List.mem_map]
  constructor
  · rintro ⟨k, hk, rfl⟩
    have := List.mem_range.1 hk
    omega
  · rintro ⟨h0, h1⟩
    exact ⟨x.toNat, List.mem_range.2 (by omega), by omega⟩
theorem iota_lt (n : Nat) : (iota n).Pairwise (· < ·) := by
  unfold iota
  rw [List.pairwise_map]
  exact List.pairwise_lt_range.imp (fun h => by omega)
theorem iota_nodup (n : Nat) : (iota n).Nodup := (iota_lt n).imp (fun h => by omega)
theorem iota_le (n : Nat) : (iota n).Pairwise (· ≤ ·) := (iota_lt n).imp (fun h => by omega)
theorem rd_iota {n : Nat} {k : Int} (h0 : 0 ≤ k) (h1 : k < n) : rd (iota n) k = k := by
  unfold rd iota
  rw [List.getD_eq_getElem?_getD, List.getElem?_map, List.getElem?_range (by omega)]
  show ((k.toNat : Nat) : Int) = k
  omega
theorem sorted_perm (l : List Int) : (sorted_ l).Perm l := List.mergeSort_perm _ _
theorem sorted_pw (l : List Int) : (sorted_ l).Pairwise (· ≤ ·) :=
  (List.pairwise_mergeSort (le := fun x y => decide (x ≤ y)) (fun a b c h1 h2 => by simp at h1 h2 ⊢; omega) (fun a b => by simp; omega) l).imp (fun h => by simpa using h)
theorem sorted_unique {l l' : List Int} (hp : l.Perm l') (hs : l'.Pairwise (· ≤ ·)) : sorted_ l = l' :=
  List.Perm.eq_of_pairwise (le := (· ≤ ·)) (fun a b _ _ h1 h2 => by omega) (sorted_pw l) hs ((sorted_perm l).trans hp)
theorem nodup_perm : ∀ {R l : List Int}, R.Nodup → (∀ x ∈ R, x ∈ l) → l.length ≤ R.length → l.Perm R
  | [], l, _, _, hl => by
    have : l = [] := List.length_eq_zero_iff.1 (by simpa using hl)
    subst this
    exact List.Perm.refl _
  | a :: R, l, hn, hm, hl => by
    have ha := hm a List.mem_cons_self
    obtain ⟨hna, hn2⟩ := List.nodup_cons.1 hn
    have p := List.perm_cons_erase ha
    have hlen : (l.erase a).length = l.length - 1 := List.length_erase_of_mem ha
    refine p.trans (List.Perm.cons a (nodup_perm hn2 (fun x hx => ?_) (by simp at hl; omega)))
    have hx2 := p.mem_iff.1 (hm x (List.mem_cons_of_mem _ hx))
    rcases List.mem_cons.1 hx2 with rfl | h
    · exact absurd hx hna
    · exact h
theorem sorted_iota {E : List Int} (h : ∀ k : Int, 0 ≤ k → k < E.length → k = rd (sorted_ E) k) : sorted_ E = iota E.length := by
  apply List.ext_getElem (by rw [sorted_length, iota_length])
  intro k h1 h2
  rw [sorted_length] at h1
  have a := h (k : Int) (by omega) (by omega)
  have b := rd_iota (n := E.length) (k := (k : Int)) (by omega) (by omega)
  unfold rd at a b
  rw [Int.toNat_natCast, List.getD_eq_getElem?_getD, List.getElem?_eq_getElem (by rw [sorted_length]; exact h1)] at a
  rw [Int.toNat_natCast, List.getD_eq_getElem?_getD, List.getElem?_eq_getElem h2] at b
  exact a.symm.trans b.symm
theorem count_iff {E : List Int} : (∀ k : Int, 0 ≤ k → k < E.length → k = rd (sorted_ E) k) ↔ ∀ k : Int, 0 ≤ k → k < E.length → E.count k = 1 := by
  constructor
  · intro h k h0 h1
    have e := sorted_iota h
    rw [← (sorted_perm E).count_eq k, e, (iota_nodup _).count, if_pos (mem_iota.2 ⟨h0, h1⟩)]
  · intro h k h0 h1
    have p : E.Perm (iota E.length) := nodup_perm (iota_nodup _) (fun x hx => by
      obtain ⟨a, b⟩ := mem_iota.1 hx
      exact List.count_pos_iff.1 (by rw [h x a b]; decide)) (by rw [iota_length]; exact Nat.le_refl _)
    rw [sorted_unique p (iota_le _), rd_iota h0 h1]
end Go.Proofs.Ythlneooboiphdaa
