/- DecimalIs: for every text Of tells what the document says; and 0.5 is 5e-1. No condition. -/
import Derived.Test.YtplokhniibdniaaDoorDecimalIsRefRead2
import Derived.Test.YtplokhniibdniaaDoorDecMore
namespace Go.Proofs.YtplokhniibdniaaDoor.Pure
open Go.RowKit Go.Proofs.YtplokhniibdniaaDoor.PDecimalIs Go.Proofs.YtplokhniibdniaaDoorW.PrintWords Go.Proofs.YtplokhniibdniaaDoorW.PrintLast Go.Proofs.YtplokhniibdniaaDoorW.PrintMore Go.Proofs.YtplokhniibdniaaDoor.Dec Go.Proofs.YtplokhniibdniaaDoor.Reader

theorem read_zero (s : ByteArray) (hs : s.size ≤ 140737488355328) : decimal_Read.f s 0 = some (readOf s 0) := by
  unfold decimal_Read.f
  rw [if_neg (by omega), if_pos ⟨by omega, by omega⟩]
  rfl
theorem of_same (s : ByteArray) (hs : s.size ≤ 140737488355328) (k : Nat) (hk : 3 * s.size + 20 < k) : quarryref11_Of.f k s = decimal_Of.f s ∧ ∃ r, decimal_Of.f s = some r := by
  unfold quarryref11_Of.f decimal_Of.f
  rw [ref_read_is s 0 hs k hk, read_zero s hs, Option.bind_some, Option.bind_some]
  by_cases h1 : (readOf s 0).2.2.2.2 = 110
  · rw [if_pos h1, if_pos h1]
    exact ⟨rfl, _, rfl⟩
  · have hf : (readOf s 0).2.2.2.1 ≤ (s.size : Int) := by
      have h := parts_fin s (startOf s 0) (start_le s 0 (Nat.zero_le _))
      rcases readOf_cases s 0 (Nat.zero_le _) with ⟨h2, _⟩ | ⟨h2, _⟩ | ⟨n, l, d, e, h2, _⟩
      · rw [h2] at h1
        exact absurd rfl h1
      · rw [h2]
        show ((partsOf s (startOf s 0)).fin : Int) ≤ _
        omega
      · rw [h2]
        show ((partsOf s (startOf s 0)).fin : Int) ≤ _
        omega
    rw [if_neg h1, if_neg h1]
    by_cases h2 : (readOf s 0).2.2.2.1 = (s.size : Int)
    · rw [if_pos h2, if_neg (by omega)]
      exact ⟨rfl, _, rfl⟩
    · rw [if_neg h2, if_pos (by omega)]
      exact ⟨rfl, _, rfl⟩
/- ∀ (a0 : ByteArray), .. → ∃ k, quarrylaw11_DecimalIs.f k a0 = some true -/
theorem DecimalIs : quarrylaw11_DecimalIs.Pure := by
  intro s hs
  refine ⟨3 * s.size + 30, ?_⟩
  have h1 : decimal_Of.f (⟨#[48, 46, 53]⟩ : ByteArray) = some (false, ⟨#[53]⟩, -1, 0) := by
    unfold decimal_Of.f
    rw [read_zero _ (by decide), Option.bind_some]
    have : readOf (⟨#[48, 46, 53]⟩ : ByteArray) 0 = (false, ⟨#[53]⟩, -1, 3, 0) := by decide +kernel
    rw [this]
    rw [if_neg (by decide), if_neg (by decide)]
  have ht : (⟨#[53]⟩ : ByteArray).toList = [53] := by
    rw [ByteArray.toList_eq]
  obtain ⟨k, hk⟩ : ∃ k, 3 * s.size + 30 = k + 1 := ⟨_, rfl⟩
  obtain ⟨h2, r, hr⟩ := of_same s (by omega) k (by omega)
  unfold quarrylaw11_DecimalIs.f
  rw [h1, Option.bind_some]
  simp only
  rw [ht, if_neg (by decide), hk, quarrylaw11_DecimalIs.j0, if_neg (by decide), h2, hr]
  simp
end Go.Proofs.YtplokhniibdniaaDoor.Pure
