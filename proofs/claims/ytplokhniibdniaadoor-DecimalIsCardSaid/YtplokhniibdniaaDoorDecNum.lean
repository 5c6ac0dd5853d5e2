/- Two ways to cap an exponent come to the same number. Plain Lean. -/
import Derived.Test.YtplokhniibdniaaDoorNumWalk
namespace Go.Proofs.YtplokhniibdniaaDoor.Dec
open Go.RowKit Go.Proofs.YtplokhniibdniaaDoorW.PrintWords Go.Proofs.YtplokhniibdniaaDoorW.PrintLast Go.Proofs.YtplokhniibdniaaDoorW.PrintMore Go.Proofs.YtplokhniibdniaaDoor.Reader

/-- The exponent's worth, as far as the document goes on with it. -/
def satB : List UInt8 → Int → Int
  | [], n => n
  | c :: l, n => satB l (if n ≤ 1000000000000000 then n * 10 + ((c.toNat : Int) - 48) else n)
/-- The same, or both beyond. -/
def Rel (x n : Int) : Prop := (x = n ∧ n ≤ 1000000000000000) ∨ (1000000000000000 < n ∧ 1000000000000000 < x)
theorem rel_to : ∀ (l : List UInt8) (x n : Int), Digits l → 0 ≤ x → Rel x n → Rel (sat l x) (satB l n)
  | [], _, _, _, _, h => h
  | c :: l, x, n, hl, h0, h => by
    have hc := hl c (List.mem_cons_self)
    have hl' : Digits l := fun y hy => hl y (List.mem_cons_of_mem _ hy)
    unfold sat satB
    refine rel_to l _ _ hl' ?_ ?_
    · split <;> omega
    · unfold Rel at h ⊢
      split <;> split <;> omega
theorem satB_range : ∀ (l : List UInt8) (n : Int), Digits l → 0 ≤ n → n ≤ 10000000000000009 → 0 ≤ satB l n ∧ satB l n ≤ 10000000000000009
  | [], n, _, h0, h1 => ⟨h0, h1⟩
  | c :: l, n, hl, h0, h1 => by
    have hc := hl c (List.mem_cons_self)
    unfold satB
    split
    · exact satB_range l _ (fun y hy => hl y (List.mem_cons_of_mem _ hy)) (by omega) (by omega)
    · exact satB_range l _ (fun y hy => hl y (List.mem_cons_of_mem _ hy)) h0 h1
/-- What the document takes beyond the bound. -/
def capB (n : Int) : Int := if n > 1000000000000000 then 1000000000000001 else n
theorem rel_cap {l : List UInt8} (hl : Digits l) : (sat l 0 = capB (satB l 0) ∨ (1000000000000000 < sat l 0 ∧ 1000000000000000 < capB (satB l 0))) := by
  have h := rel_to l 0 0 hl (by decide) (.inl ⟨rfl, by decide⟩)
  unfold capB
  unfold Rel at h
  split <;> omega
theorem num_same (neg : Bool) (l : List UInt8) (d : Nat) (x y : Int) (hl : l.length ≤ 140737488355328) (hd : d ≤ 140737488355328)
    (h : x = y ∨ (1000000000000000 < x ∧ 1000000000000000 < y) ∨ (x < -1000000000000000 ∧ y < -1000000000000000)) : numOf neg l d x = numOf neg l d y := by
  have hA := trimA_size l
  have hB := trimB_size l
  rcases h with rfl | ⟨h1, h2⟩ | ⟨h1, h2⟩
  · rfl
  · unfold numOf
    split
    · rfl
    · rw [if_pos (.inl (by unfold expOf; omega)), if_pos (.inl (by unfold expOf; omega))]
  · unfold numOf
    split
    · rfl
    · rw [if_pos (.inr (by unfold expOf; omega)), if_pos (.inr (by unfold expOf; omega))]
/-- With the sign of the exponent. -/
theorem num_sign (neg t : Bool) (l e : List UInt8) (d : Nat) (hl : l.length ≤ 140737488355328) (hd : d ≤ 140737488355328) (he : Digits e) :
    numOf neg l d (if t = true then -capB (satB e 0) else capB (satB e 0)) = numOf neg l d (if t = true then -sat e 0 else sat e 0) := by
  have h := rel_cap he
  refine num_same neg l d _ _ hl hd ?_
  cases t
  · simp only [Bool.false_eq_true, if_false]
    omega
  · simp only [if_true]
    omega
theorem num_shift (neg : Bool) (l : List UInt8) (d : Nat) (e : Int) : numOf neg l 0 (e - (d : Int)) = numOf neg l d e := by
  have : expOf l 0 (e - (d : Int)) = expOf l d e := by
    unfold expOf
    omega
  unfold numOf
  rw [this]
end Go.Proofs.YtplokhniibdniaaDoor.Dec
