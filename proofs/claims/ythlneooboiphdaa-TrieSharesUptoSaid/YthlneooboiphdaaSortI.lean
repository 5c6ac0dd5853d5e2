/- slices.Sort of whole numbers, of a row that is the call's own: the library's contract in the print's form. -/
import Derived.Test.YthlneooboiphdaaShelf
import Derived.Sort.OwnSortedInts
import Derived.Test.YthlneooboiphdaaWKept
import Derived.Test.YthlneooboiphdaaWMore
set_option linter.unusedVariables false
set_option linter.unusedSimpArgs false
namespace Go.Proofs.Ythlneooboiphdaa
open Go.RowKit Go.Sort Go.Proofs.YthlneooboiphdaaW.PrintWords Go.Proofs.YthlneooboiphdaaW.PrintLast Go.Proofs.YthlneooboiphdaaW.PrintMore
def sorted_ (l : List Int) : List Int := l.mergeSort fun x y => decide (x ≤ y)
theorem sorted_length (l : List Int) : (sorted_ l).length = l.length := List.length_mergeSort l
def slices_Sort.f (l : List Int) : Option (List Int) := if l.length < 4611686018427387904 then some (sorted_ l) else none
theorem slices_Sort.calls (P0_ : Nat → Prop) (u9000_ : Value) (l0 : List Int) (r : List Int) (w0 w : World) (hB : Below w0.heap.size w0 w) (ho0 : Kd.R (Kd.int .i64) 3 w w0.heap.size P0_ u9000_ l0) (h : slices_Sort.f l0 = some r) :
    Calls Try.prog 44 #[u9000_] w fun e w' => e = .returned (.tuple #[]) ∧ Kd.R (Kd.int .i64) 3 w' w0.heap.size (fun k_ => (P0_ k_ ∨ w.heap.size ≤ k_)) u9000_ r ∧ Below w0.heap.size w0 w' ∧ Kept w w' (fun k_ => P0_ k_) := by
  unfold slices_Sort.f at h
  split at h
  case isFalse => cases h
  rename_i hsz
  obtain rfl := Option.some.inj h
  have hok := ho0.1
  have own := Kd.own_of_R ho0
  rcases own.2 with ⟨h0, hn⟩ | ⟨g, cap, cur, hv, hg, hh, hn, hcap, hsize, htake⟩
  · subst h0
    have hl : l0 = [] := List.length_eq_zero_iff.1 hn
    subst hl
    refine (Try.slices_Sort_int_none none 0 w).mono ?_
    rintro e w' ⟨rfl, rfl⟩
    have e0 : sorted_ [] = [] := by simp [sorted_]
    rw [e0]
    exact ⟨rfl, Kd.R_nil _ _ _ _ _, hB, Kept.refl _ _⟩
  · subst hv
    have htake2 : cur.toList.take l0.length = l0.map (Value.int .i64) := by rw [← Nat.mul_one l0.length]; exact htake
    have hH := holds_of_blockI hh htake2
    have hgl : g < w.heap.size := (Array.getElem?_eq_some_iff.1 hh).1
    refine (Try.slices_Sort_int g 0 cap l0 w hH hgl hsz).mono ?_
    rintro e w' ⟨rfl, n, os, rfl⟩
    have hP : P0_ g := hok g rfl
    have hgr := grownBy_sortedI (w := w) (g := g) (n := n) (os := os) (sorted_ l0).toArray
    have hrow := ownsRow_sortedI (n := n) (os := os) (sorted_length l0) hg hh hn hcap hsize
    refine ⟨rfl, Kd.R_of_own ?_ ?_, hB.grown hgr hB.size (fun j hj => ?_), Kept.of_grown hgr (Kept.refl _ _) (fun k hk => ?_)⟩
    · rw [sorted_length]
      exact hrow
    · intro k hk
      exact .inl (hok k hk)
    · injection hj with hj
      subst hj
      exact hg
    · injection hk with hk
      subst hk
      exact .inl hP
end Go.Proofs.Ythlneooboiphdaa
