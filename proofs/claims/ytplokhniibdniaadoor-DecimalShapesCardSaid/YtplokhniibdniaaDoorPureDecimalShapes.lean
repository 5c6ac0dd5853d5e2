/- DecimalShapes: for every decimal Formed, Text and Whole tell what the document says; and -12e-3 is written so. No condition. -/
import Derived.Test.YtplokhniibdniaaDoorDecimalShapesTextIs
import Derived.Test.YtplokhniibdniaaDoorDecimalShapesRefFormed
namespace Go.Proofs.YtplokhniibdniaaDoor.Pure
open Go.RowKit Go.Proofs.YtplokhniibdniaaDoor.PDecimalShapes Go.Proofs.YtplokhniibdniaaDoorW.PrintWords Go.Proofs.YtplokhniibdniaaDoorW.PrintLast Go.Proofs.YtplokhniibdniaaDoorW.PrintMore Go.Proofs.YtplokhniibdniaaDoor.Dec

theorem ref_j0 (n : Bool) (s : ByteArray) (e : Int) (hs : s.size ≤ 140737488351232) (h0 : -9223372036854775808 ≤ e) (h1 : e ≤ 9223372036854775807) (k : Nat) : quarryref11_Text.j0 (k + 1) (shown s) n s e = some (signed n s ++ expText e, 0) := by
  have h3 := shown_size s
  have h4 := itoa_size e h0 h1
  rw [quarryref11_Text.j0, itoa_some e h0 h1]
  unfold signed expText
  cases n
  · rw [if_neg Bool.false_ne_true, if_neg Bool.false_ne_true]
    by_cases he : e = 0
    · rw [if_pos he, if_pos he, app_nil]
    · rw [if_neg he, if_neg he, if_pos (by omega), Option.bind_some, if_pos (by rw [app_size, one_size]; omega), app_assoc]
  · rw [if_pos (Eq.refl true), if_pos (Eq.refl true), if_pos (by omega)]
    by_cases he : e = 0
    · rw [if_pos he, if_pos he, app_nil]
    · rw [if_neg he, if_neg he, if_pos (by rw [app_size, one_size]; omega), Option.bind_some, if_pos (by rw [app_size, app_size, one_size, one_size]; omega), app_assoc]
theorem ref_text_is (n : Bool) (s : ByteArray) (e : Int) (hs : s.size ≤ 140737488351232) (h0 : -9223372036854775808 ≤ e) (h1 : e ≤ 9223372036854775807) (k : Nat) (hk : s.size + 4 < k) : quarryref11_Text.f k n s e = some (textOf n s e) := by
  obtain ⟨k, rfl⟩ : ∃ m, k = m + 1 := ⟨k - 1, by omega⟩
  unfold quarryref11_Text.f
  rw [ref_formed_is n s e hs _ (by omega), Option.bind_some]
  cases hf : fm s e
  · rw [if_neg (by decide)]
    unfold textOf
    rw [hf, if_pos rfl]
  · rw [if_pos rfl]
    have hj := ref_j0 n s e hs h0 h1 k
    have ht : textOf n s e = (signed n s ++ expText e, 0) := by
      unfold textOf
      rw [hf, if_neg (by decide)]
    rw [ht]
    by_cases hz : s.size = 0
    · have : shown s = ⟨#[48]⟩ := by
        unfold shown
        rw [if_pos hz]
      rw [if_pos ((toList_nil s).2 hz), ← this]
      exact hj
    · have : shown s = s := by
        unfold shown
        rw [if_neg hz]
      rw [if_neg (fun h => hz ((toList_nil s).1 h))]
      rw [this] at hj
      exact hj
theorem whole_is (n : Bool) (s : ByteArray) (e : Int) (hs : s.size ≤ 140737488351232) (k : Nat) (hk : s.size + 4 < k) : decimal_Whole.f k n s e = some (fm s e && decide (e ≥ 0)) := by
  unfold decimal_Whole.f
  rw [formed_is n s e hs _ (by omega), Option.bind_some]
  cases fm s e <;> rfl
theorem ref_whole_is (n : Bool) (s : ByteArray) (e : Int) (hs : s.size ≤ 140737488351232) (k : Nat) (hk : s.size + 4 < k) : quarryref11_Whole.f k n s e = some (fm s e && decide (e ≥ 0)) := by
  unfold quarryref11_Whole.f
  rw [ref_formed_is n s e hs _ (by omega), Option.bind_some]
  cases fm s e <;> rfl
/- ∀ (a0_0 : Bool) (a0_1 : ByteArray) (a0_2 : Int), .. → ∃ k, quarrylaw11_DecimalShapes.f k a0_0 a0_1 a0_2 = some true -/
theorem DecimalShapes : quarrylaw11_DecimalShapes.Pure := by
  intro n s e hs hw
  have hw' := hw
  simp [Lit.wf, IntKind.min, IntKind.max, IntKind.bits, IntKind.signed] at hw'
  have h0 : -9223372036854775808 ≤ e := by omega
  have h1 : e ≤ 9223372036854775807 := by omega
  refine ⟨s.size + 20, ?_⟩
  have hi : Lib.itoa (-3) = [45, 51] := by
    unfold Lib.itoa
    rw [if_pos (by decide)]
    show 45 :: Lib.decDigits 3 = _
    rw [Lib.decDigits, dif_pos (by decide)]
    rfl
  have ht : textOf true (⟨#[49, 50]⟩ : ByteArray) (-3) = (⟨#[45, 49, 50, 101, 45, 51]⟩, 0) := by
    unfold textOf signed expText
    rw [hi]
    decide +kernel
  have hl : (⟨#[45, 49, 50, 101, 45, 51]⟩ : ByteArray).toList = [45, 49, 50, 101, 45, 51] := by rw [ByteArray.toList_eq]
  obtain ⟨k, hk⟩ : ∃ k, s.size + 20 = k + 1 := ⟨_, rfl⟩
  unfold quarrylaw11_DecimalShapes.f
  rw [text_is true _ (-3) (by decide) (by decide) (by decide) _ (by show 2 + 4 < _; omega), Option.bind_some, ht, formed_is false _ 0 (by decide) _ (by show 1 < _; omega), Option.bind_some, if_pos (by decide)]
  simp only
  rw [if_pos hl, if_pos trivial, whole_is false _ 0 (by decide) _ (by show 1 + 4 < _; omega), Option.bind_some, show (!(fm (⟨#[49]⟩ : ByteArray) 0 && decide ((0 : Int) ≥ 0))) = false from by decide, hk,
    quarrylaw11_DecimalShapes.j0, if_neg (by decide), text_is n s e hs h0 h1 k (by omega), Option.bind_some, ref_text_is n s e hs h0 h1 k (by omega), Option.bind_some, if_pos rfl, if_pos rfl,
    formed_is n s e hs k (by omega), Option.bind_some, ref_formed_is n s e hs k (by omega), Option.bind_some, if_pos (beq_self_eq_true _), whole_is n s e hs k (by omega), Option.bind_some, ref_whole_is n s e hs k (by omega), Option.bind_some, beq_self_eq_true]
end Go.Proofs.YtplokhniibdniaaDoor.Pure
