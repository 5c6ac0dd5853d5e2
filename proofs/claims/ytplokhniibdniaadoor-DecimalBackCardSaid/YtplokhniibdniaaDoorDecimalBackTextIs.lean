/- decimal.Text, as it is printed. -/
import Derived.Test.YtplokhniibdniaaDoorDecimalBackFormed
import Derived.Test.YtplokhniibdniaaDoorTxDef
namespace Go.Proofs.YtplokhniibdniaaDoor.PDecimalBack
open Go.RowKit Go.Proofs.YtplokhniibdniaaDoorW.PrintWords Go.Proofs.YtplokhniibdniaaDoorW.PrintLast Go.Proofs.YtplokhniibdniaaDoorW.PrintMore Go.Proofs.YtplokhniibdniaaDoor.Dec

theorem or_str (a b : ByteArray) (hb : b.size ≠ 0) (k : Nat) (hk : 3 < k) : cmp_Or_string.f k [a, b] = some (if a.size = 0 then b else a) := by
  obtain ⟨k, rfl⟩ : ∃ m, k = m + 1 + 1 + 1 := ⟨k - 3, by omega⟩
  have w1 : wrap64 (0 + 1) = 1 := by unfold wrap64; omega
  have r0 : rdOf ByteArray.empty [a, b] 0 = a := rfl
  have r1 : rdOf ByteArray.empty [a, b] 1 = b := rfl
  have hl : (([a, b] : List ByteArray).length : Int) = 2 := rfl
  have he : (⟨#[]⟩ : ByteArray).toList = [] := by rw [ByteArray.toList_eq]
  unfold cmp_Or_string.f
  rw [hl, cmp_Or_string.l0, if_pos (by decide), if_pos (by decide), if_pos (by rw [hl]; decide), r0, w1, he]
  by_cases ha : a.size = 0
  · rw [if_pos ((toList_nil a).2 ha), if_pos ha, cmp_Or_string.l0, if_pos (by decide), if_pos (by decide), if_pos (by rw [hl]; decide), r1, he, if_neg (fun h => hb ((toList_nil b).1 h))]
  · rw [if_neg (fun h => ha ((toList_nil a).1 h)), if_neg ha]
theorem itoa_some (e : Int) (h0 : -9223372036854775808 ≤ e) (h1 : e ≤ 9223372036854775807) : strconv_Itoa.f e = some ⟨(Lib.itoa e).toArray⟩ := by
  unfold strconv_Itoa.f
  rw [if_pos ⟨h0, h1⟩]
theorem text_is (n : Bool) (s : ByteArray) (e : Int) (hs : s.size ≤ 140737488351232) (h0 : -9223372036854775808 ≤ e) (h1 : e ≤ 9223372036854775807) (k : Nat) (hk : s.size + 4 < k) : decimal_Text.f k n s e = some (textOf n s e) := by
  unfold decimal_Text.f
  rw [formed_is n s e hs k (by omega), Option.bind_some]
  cases hf : fm s e
  · rw [if_neg (by decide)]
    unfold textOf
    rw [hf, if_pos rfl]
  · have h2 : (if s.size = 0 then (⟨#[48]⟩ : ByteArray) else s) = shown s := rfl
    have h3 := shown_size s
    have h4 := itoa_size e h0 h1
    rw [if_pos rfl, or_str s ⟨#[48]⟩ (by decide) k (by omega), Option.bind_some, h2]
    have ht : textOf n s e = (signed n s ++ expText e, 0) := by
      unfold textOf
      rw [hf, if_neg (by decide)]
    rw [ht, itoa_some e h0 h1]
    unfold signed expText
    cases n
    · rw [if_neg Bool.false_ne_true, if_neg Bool.false_ne_true]
      by_cases he : e = 0
      · rw [if_pos he, if_pos he, app_nil]
      · rw [if_neg he, if_neg he, Option.bind_some, if_pos (by omega), if_pos (by rw [app_size, one_size]; omega)]
    · rw [if_pos (Eq.refl true), if_pos (Eq.refl true), if_pos (by omega)]
      by_cases he : e = 0
      · rw [if_pos he, if_pos he, app_nil]
      · rw [if_neg he, if_neg he, Option.bind_some, if_pos (by omega), if_pos (by rw [app_size, app_size, one_size, one_size]; omega)]
end Go.Proofs.YtplokhniibdniaaDoor.PDecimalBack
