/- DecimalBack: what is written of a well shaped decimal is read as it, and what isn't well shaped is not written. No condition. -/
import Derived.Test.YtplokhniibdniaaDoorDecimalBackOfIs
import Derived.Test.YtplokhniibdniaaDoorDecimalBackTextIs
import Derived.Test.YtplokhniibdniaaDoorDecimalBackCmpIs
import Derived.Test.YtplokhniibdniaaDoorDecWrite
namespace Go.Proofs.YtplokhniibdniaaDoor.Pure
open Go.RowKit Go.Proofs.YtplokhniibdniaaDoor.PDecimalBack Go.Proofs.YtplokhniibdniaaDoorW.PrintWords Go.Proofs.YtplokhniibdniaaDoorW.PrintLast Go.Proofs.YtplokhniibdniaaDoorW.PrintMore Go.Proofs.YtplokhniibdniaaDoor.Dec Go.Proofs.YtplokhniibdniaaDoor.Reader

/- ∀ (a0_0 : Bool) (a0_1 : ByteArray) (a0_2 : Int), .. → ∃ k, quarrylaw11_DecimalBack.f k a0_0 a0_1 a0_2 = some true -/
theorem DecimalBack : quarrylaw11_DecimalBack.Pure := by
  intro n s e hs hw
  have hw' := hw
  simp [Lit.wf, IntKind.min, IntKind.max, IntKind.bits, IntKind.signed] at hw'
  refine ⟨s.size + s.size + 20, ?_⟩
  unfold quarrylaw11_DecimalBack.f
  rw [awake_is, Option.bind_some, if_pos rfl, text_is n s e hs (by omega) (by omega) _ (by omega), Option.bind_some]
  cases hf : fm s e
  · have ht : textOf n s e = (⟨#[]⟩, 1) := by
      unfold textOf
      rw [hf, if_pos rfl]
    have hn : (⟨#[]⟩ : ByteArray).toList = [] := by rw [ByteArray.toList_eq]
    rw [ht]
    simp only
    rw [if_neg (by decide), if_pos trivial, if_pos hn, formed_is n s e hs _ (by omega), Option.bind_some, hf]
    rfl
  · have ht : textOf n s e = (signed n s ++ expText e, 0) := by
      unfold textOf
      rw [hf, if_neg (by decide)]
    have hsz : (signed n s ++ expText e).size ≤ 140737488355328 := by
      have h1 := shown_size s
      have h2 := itoa_size e (by omega) (by omega)
      have h3 : (signed n s).size ≤ s.size + 2 := by
        unfold signed
        split
        · rw [app_size, one_size]
          omega
        · omega
      have h4 : (expText e).size ≤ 22 := by
        unfold expText
        split
        · exact Nat.zero_le _
        · rw [app_size, one_size]
          omega
      rw [app_size]
      omega
    have hof := of_is (signed n s ++ expText e) hsz
    rw [text_read n s e hf] at hof
    have ho : ofR (n, s, e, ((signed n s ++ expText e).size : Int), 0) (signed n s ++ expText e).size = (n, s, e, 0) := by
      unfold ofR
      rw [if_neg (show ¬ (0 : Int) = 110 from by decide), if_neg (by simp)]
    rw [ho] at hof
    rw [ht]
    simp only
    rw [if_pos trivial, hof, Option.bind_some, cmp_is n s e n s e hs hs _ (by omega), Option.bind_some, cmp_self n s e hf]
    simp only
    rw [if_pos trivial, if_pos (by simp), if_pos trivial, if_pos trivial, formed_is n s e hs _ (by omega), Option.bind_some, hf]
end Go.Proofs.YtplokhniibdniaaDoor.Pure
