/- DecimalReads: for every text and place Read tells what the document says; and -12.50e3, as it stands in a text, is -125e2 up to its end. No condition. -/
import Derived.Test.YtplokhniibdniaaDoorDecimalReadsRefRead2
namespace Go.Proofs.YtplokhniibdniaaDoor.Pure
open Go.RowKit Go.Proofs.YtplokhniibdniaaDoor.PDecimalReads Go.Proofs.YtplokhniibdniaaDoorW.PrintWords Go.Proofs.YtplokhniibdniaaDoorW.PrintLast Go.Proofs.YtplokhniibdniaaDoorW.PrintMore Go.Proofs.YtplokhniibdniaaDoor.Dec Go.Proofs.YtplokhniibdniaaDoor.Reader

/- ∀ (a0 : ByteArray) (a1 : Int), .. → ∃ k, quarrylaw11_DecimalReads.f k a0 a1 = some true -/
theorem DecimalReads : quarrylaw11_DecimalReads.Pure := by
  intro s i hs _
  refine ⟨3 * s.size + 30, ?_⟩
  have h1 : decimal_Read.f (⟨#[120, 45, 49, 50, 46, 53, 48, 101, 51, 44]⟩ : ByteArray) 1 = some (true, ⟨#[49, 50, 53]⟩, 2, 9, 0) := by
    unfold decimal_Read.f
    rw [if_neg (by decide), if_pos (by decide)]
    have : readOf (⟨#[120, 45, 49, 50, 46, 53, 48, 101, 51, 44]⟩ : ByteArray) (1 : Int).toNat = (true, ⟨#[49, 50, 53]⟩, 2, 9, 0) := by decide +kernel
    rw [this]
  have ht : (⟨#[49, 50, 53]⟩ : ByteArray).toList = [49, 50, 53] := by
    rw [ByteArray.toList_eq]
  obtain ⟨r, hr⟩ := read_some s i (by omega)
  obtain ⟨k, hk⟩ : ∃ k, 3 * s.size + 30 = k + 1 := ⟨_, rfl⟩
  unfold quarrylaw11_DecimalReads.f
  rw [h1, Option.bind_some]
  simp only
  rw [ht, if_neg (by decide), if_pos trivial, hk, quarrylaw11_DecimalReads.j0, if_neg (by decide), ref_read_is s i (by omega) k (by omega), hr]
  simp
end Go.Proofs.YtplokhniibdniaaDoor.Pure
