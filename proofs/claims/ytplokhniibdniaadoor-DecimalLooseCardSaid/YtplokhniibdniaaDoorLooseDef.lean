/- A decimal written loosely. Plain Lean. -/
import Derived.Test.YtplokhniibdniaaDoorDecWrite
namespace Go.Proofs.YtplokhniibdniaaDoor.Dec
open Go.RowKit Go.Proofs.YtplokhniibdniaaDoorW.PrintWords Go.Proofs.YtplokhniibdniaaDoorW.PrintLast Go.Proofs.YtplokhniibdniaaDoorW.PrintMore Go.Proofs.YtplokhniibdniaaDoor.Reader

theorem noughts_digits (n : Nat) : Digits (List.replicate n 48) := by
  intro c hc
  rw [List.eq_of_mem_replicate hc]
  decide
theorem digits_app {a b : List UInt8} (ha : Digits a) (hb : Digits b) : Digits (a ++ b) := by
  intro c hc
  rcases List.mem_append.1 hc with h | h
  · exact ha c h
  · exact hb c h
theorem digits_nought : Digits [48] := by
  intro c hc
  rw [List.mem_singleton] at hc
  rw [hc]
  decide
theorem sat_nought (l : List UInt8) : sat (48 :: l) 0 = sat l 0 := by
  have h : (10 * 0 + (((48 : UInt8).toNat : Int) - 48) : Int) = 0 := by decide
  conv => lhs; unfold sat
  rw [if_pos (by decide)]
  exact congrArg (sat l) h
theorem sat_noughts (l : List UInt8) : ∀ n, sat (List.replicate n 48 ++ l) 0 = sat l 0
  | 0 => rfl
  | n + 1 => by
    rw [List.replicate_succ, List.cons_append, sat_nought]
    exact sat_noughts l n
/-- The digits of the exponent; none of nought. -/
def tens (u : Nat) : List UInt8 := if u = 0 then [] else Lib.decDigits u
theorem tens_step (u : Nat) (h : u ≠ 0) : tens u = tens (u / 10) ++ [UInt8.ofNat (48 + u % 10)] := by
  unfold tens
  rw [if_neg h, Lib.decDigits]
  by_cases h10 : u < 10
  · rw [dif_pos h10, if_pos (by omega), Nat.mod_eq_of_lt h10]
    rfl
  · rw [dif_neg h10, if_neg (by omega)]
theorem tens_digits (u : Nat) : Digits (tens u) := by
  unfold tens
  split
  · intro c hc
    cases hc
  · exact (dec_digits u u (Nat.le_refl _)).1
theorem tens_sat (u : Nat) (h : u ≤ 1000000000000000) : sat (tens u) 0 = (u : Int) := by
  unfold tens
  split
  · rename_i h0
    rw [h0]
    rfl
  · exact sat_dec u u (Nat.le_refl _) h
theorem drop_noughts (l : List UInt8) : ∀ n, (List.replicate n 48 ++ l).dropWhile (· == (48 : UInt8)) = l.dropWhile (· == 48)
  | 0 => rfl
  | n + 1 => by
    rw [List.replicate_succ, List.cons_append, List.dropWhile_cons, if_pos (by decide)]
    exact drop_noughts l n
theorem trim_noughts {s : ByteArray} (hne : s.data.toList ≠ []) (h1 : ∀ c, s.data.toList.head? = some c → c ≠ 48) (h2 : ∀ c, s.data.toList.getLast? = some c → c ≠ 48) (n : Nat) :
    trimA (s.data.toList ++ List.replicate n 48) = ⟨(s.data.toList ++ List.replicate n 48).toArray⟩ ∧ trimB (s.data.toList ++ List.replicate n 48) = s := by
  have hh : (s.data.toList ++ List.replicate n 48).head? = s.data.toList.head? := by
    cases hl : s.data.toList with
    | nil => exact absurd hl hne
    | cons x r => rfl
  have e1 : Lib.trimLeftB (s.data.toList ++ List.replicate n 48) 48 = s.data.toList ++ List.replicate n 48 := dropWhile_none (fun c hc => by
    rw [hh] at hc
    simpa using h1 c hc)
  have e2 : Lib.trimRightB (s.data.toList ++ List.replicate n 48) 48 = s.data.toList := by
    unfold Lib.trimRightB
    rw [List.reverse_append, List.reverse_replicate, drop_noughts, dropWhile_none (fun c hc => by rw [List.head?_reverse] at hc; simpa using h2 c hc), List.reverse_reverse]
  constructor
  · unfold trimA
    rw [e1]
  · unfold trimB
    rw [e1, e2]
theorem num_loose {s : ByteArray} {e : Int} (h : fm s e = true) (hz : s.size ≠ 0) (neg : Bool) (n d : Nat) : numOf neg (s.data.toList ++ List.replicate n 48) d (e - (n : Int) + (d : Int)) = (neg, s, e, true) := by
  obtain ⟨_, h2, h3⟩ := fm_parts h hz
  have hne : s.data.toList ≠ [] := by
    intro h0
    apply hz
    show s.data.toList.length = 0
    rw [h0]
    rfl
  obtain ⟨hA, hB⟩ := trim_noughts hne h2 h3 n
  have hr := fm_exp h
  have hl : (⟨(s.data.toList ++ List.replicate n 48).toArray⟩ : ByteArray).size = s.size + n := by
    show (s.data.toList ++ List.replicate n 48).toArray.size = s.size + n
    rw [List.size_toArray, List.length_append, List.length_replicate]
    rfl
  have hE : expOf (s.data.toList ++ List.replicate n 48) d (e - (n : Int) + (d : Int)) = e := by
    unfold expOf
    rw [hA, hB, hl]
    omega
  unfold numOf
  rw [hB, hE, if_neg hne, if_neg (by omega)]
/-- The text reads as the number. -/
theorem loose_read {neg : Bool} {s t : ByteArray} {e x : Int} {W F B sx T : List UInt8} {c : UInt8} {tu : Bool} {n : Nat}
    (ht : t.data.toList = (if neg = true then [45] else []) ++ (W ++ (F ++ (c :: (sx ++ (List.replicate n 48 ++ 48 :: T))))))
    (hW : Digits W) (hW0 : W ≠ []) (hWn : W = [48] ∨ W.head? ≠ some 48) (hF : FracForm F B) (hc : c = 101 ∨ c = 69)
    (hsx : (sx = [] ∧ tu = false) ∨ (sx = [43] ∧ tu = false) ∨ (sx = [45] ∧ tu = true)) (hT : Digits T)
    (hx : (if tu = true then -sat T 0 else sat T 0) = x) (hn : numOf neg (W ++ B) B.length x = (neg, s, e, true)) :
    readOf t 0 = (neg, s, e, (t.size : Int), 0) := by
  have hE : Digits (List.replicate n 48 ++ 48 :: T) := digits_app (noughts_digits n) (digits_app (a := [48]) digits_nought hT)
  have hX : ExpForm (c :: (sx ++ (List.replicate n 48 ++ 48 :: T))) (List.replicate n 48 ++ 48 :: T) tu := .inr ⟨c, sx, hc, rfl, hsx, by simp, hE⟩
  have hp := parse_text (neg := neg) ht hW hW0 hWn hF hX
  rw [sat_noughts, sat_nought, hx, hn, if_pos rfl] at hp
  exact hp
end Go.Proofs.YtplokhniibdniaaDoor.Dec
