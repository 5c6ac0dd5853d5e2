/- A reading's bulk is no less than the length of a slice in it. -/
import Derived.Test.YtahmpmlbonpabaaDoorRows
import Derived.Test.YtahmpmlbonpabaaDoorOp
namespace Go.Proofs.YtahmpmlbonpabaaDoor
open Go.RowKit Go.Proofs.YtahmpmlbonpabaaDoorW.PrintWords
theorem bulk_one {H : Type} (d : DataW H) : 1 ≤ Rows.uptoBulk d := by
  cases d <;> (try simp [Rows.uptoBulk])
  rename_i l
  cases l <;> simp [Rows.uptoBulk]
theorem bulk_all {H : Type} (l : List (DataW H)) : l.length ≤ Rows.uptoBulkAll l := by
  induction l with
  | nil => exact Nat.zero_le _
  | cons d l ih =>
    have := bulk_one d
    rw [Rows.uptoBulkAll, List.length_cons]
    omega
theorem bulk_slice {P : Program} {t e : TypeId} (ht : P.underlying t = some (.slice e)) {H : Type} {enc : TypeId × Value → H} {w : World} {base : Nat} {spare : Nat → Bool} {fuel : Nat} {A : Option Addr} {n c : Nat} {y : DataW H × List MemPlace}
    (h : DataW.trod enc P w base spare true fuel t [.slice A n c] = some y) : n ≤ Rows.uptoBulk y.1 := by
  cases fuel with
  | zero => simp [DataW.trod] at h
  | succ fuel =>
    have key : n = 0 ∨ ∃ a, A = some a := by
      cases A with
      | some a => exact .inr ⟨a, rfl⟩
      | none =>
        left
        unfold DataW.trod at h
        rw [ht] at h
        split at h <;> simp_all
    rcases key with rfl | ⟨a, rfl⟩
    · exact Nat.zero_le _
    · unfold DataW.trod at h
      simp only [ht] at h
      split at h
      · cases hm : (List.range n).mapM (fun i => (w.cells? base (a.add (i * P.cellsOf e)) (P.cellsOf e)).bind (DataW.trod enc P w base spare true fuel e)) with
        | none => rw [hm] at h; cases h
        | some elems =>
          rw [hm] at h
          simp only [Option.bind_some] at h
          obtain ⟨rest, hrest, rfl⟩ := Option.map_eq_some_iff.1 h
          obtain ⟨h1, h2⟩ := mapM_each hm
          rw [List.length_range] at h1
          have := bulk_all (elems.map (·.1))
          rw [List.length_map] at this
          simp only [Rows.uptoBulk]
          omega
      · cases h
end Go.Proofs.YtahmpmlbonpabaaDoor
