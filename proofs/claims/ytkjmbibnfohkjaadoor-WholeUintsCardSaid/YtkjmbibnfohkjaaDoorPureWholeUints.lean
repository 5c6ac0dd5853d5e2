/- Joined texts of one law. -/
import Derived.Test.YtkjmbibnfohkjaaDoorNumWalk
import Derived.Test.YtkjmbibnfohkjaaDoorStatWholeUints
import Derived.Test.YtkjmbibnfohkjaaDoorReadIs
import Derived.Lib.Strings
import Derived.Test.YtkjmbibnfohkjaaDoorWholeCmp
/- Two ways to cap an exponent come to the same number. Plain Lean. -/
namespace Go.Proofs.YtkjmbibnfohkjaaDoor.Dec
open Go.RowKit Go.Proofs.YtkjmbibnfohkjaaDoorW.PrintWords Go.Proofs.YtkjmbibnfohkjaaDoorW.PrintLast Go.Proofs.YtkjmbibnfohkjaaDoorW.PrintMore Go.Proofs.YtkjmbibnfohkjaaDoor.Reader

/-- The exponent's worth, as far as the document goes on with it. -/
def satB : List UInt8 → Int → Int
  | [], n => n
  | c :: l, n => satB l (if n ≤ 1000000000000000 then n * 10 + ((c.toNat : Int) - 48) else n)
/-- The same, or both beyond. -/
def Rel (x n : Int) : Prop := (x = n ∧ n ≤ 1000000000000000) ∨ (1000000000000000 < n ∧ 1000000000000000 < x)
theorem rel_to : ∀ (l : List UInt8) (x n : Int), Digits l → 0 ≤ x → Rel x n → Rel (sat l x) (satB l n)
  | [], _, _, _, _, h => h
  | c :: l, x, n, hl, h0, h => by
    have hc := hl c (List.mem_cons_self)
    have hl' : Digits l := fun y hy => hl y (List.mem_cons_of_mem _ hy)
    unfold sat satB
    refine rel_to l _ _ hl' ?_ ?_
    · split <;> omega
    · unfold Rel at h ⊢
      split <;> split <;> omega
theorem satB_range : ∀ (l : List UInt8) (n : Int), Digits l → 0 ≤ n → n ≤ 10000000000000009 → 0 ≤ satB l n ∧ satB l n ≤ 10000000000000009
  | [], n, _, h0, h1 => ⟨h0, h1⟩
  | c :: l, n, hl, h0, h1 => by
    have hc := hl c (List.mem_cons_self)
    unfold satB
    split
    · exact satB_range l _ (fun y hy => hl y (List.mem_cons_of_mem _ hy)) (by omega) (by omega)
    · exact satB_range l _ (fun y hy => hl y (List.mem_cons_of_mem _ hy)) h0 h1
/-- What the document takes beyond the bound. -/
def capB (n : Int) : Int := if n > 1000000000000000 then 1000000000000001 else n
theorem rel_cap {l : List UInt8} (hl : Digits l) : (sat l 0 = capB (satB l 0) ∨ (1000000000000000 < sat l 0 ∧ 1000000000000000 < capB (satB l 0))) := by
  have h := rel_to l 0 0 hl (by decide) (.inl ⟨rfl, by decide⟩)
  unfold capB
  unfold Rel at h
  split <;> omega
theorem num_same (neg : Bool) (l : List UInt8) (d : Nat) (x y : Int) (hl : l.length ≤ 140737488355328) (hd : d ≤ 140737488355328)
    (h : x = y ∨ (1000000000000000 < x ∧ 1000000000000000 < y) ∨ (x < -1000000000000000 ∧ y < -1000000000000000)) : numOf neg l d x = numOf neg l d y := by
  have hA := trimA_size l
  have hB := trimB_size l
  rcases h with rfl | ⟨h1, h2⟩ | ⟨h1, h2⟩
  · rfl
  · unfold numOf
    split
    · rfl
    · rw [if_pos (.inl (by unfold expOf; omega)), if_pos (.inl (by unfold expOf; omega))]
  · unfold numOf
    split
    · rfl
    · rw [if_pos (.inr (by unfold expOf; omega)), if_pos (.inr (by unfold expOf; omega))]
/-- With the sign of the exponent. -/
theorem num_sign (neg t : Bool) (l e : List UInt8) (d : Nat) (hl : l.length ≤ 140737488355328) (hd : d ≤ 140737488355328) (he : Digits e) :
    numOf neg l d (if t = true then -capB (satB e 0) else capB (satB e 0)) = numOf neg l d (if t = true then -sat e 0 else sat e 0) := by
  have h := rel_cap he
  refine num_same neg l d _ _ hl hd ?_
  cases t
  · simp only [Bool.false_eq_true, if_false]
    omega
  · simp only [if_true]
    omega
theorem num_shift (neg : Bool) (l : List UInt8) (d : Nat) (e : Int) : numOf neg l 0 (e - (d : Int)) = numOf neg l d e := by
  have : expOf l 0 (e - (d : Int)) = expOf l d e := by
    unfold expOf
    omega
  unfold numOf
  rw [this]
end Go.Proofs.YtkjmbibnfohkjaaDoor.Dec

/- The document's Read, as it is printed, is what decimal.Read tells. Plain Lean over the printed functions. -/
namespace Go.Proofs.YtkjmbibnfohkjaaDoor.PWholeUints
open Go.RowKit Go.Proofs.YtkjmbibnfohkjaaDoorW.PrintWords Go.Proofs.YtkjmbibnfohkjaaDoorW.PrintLast Go.Proofs.YtkjmbibnfohkjaaDoorW.PrintMore Go.Proofs.YtkjmbibnfohkjaaDoor.Dec Go.Proofs.YtkjmbibnfohkjaaDoor.Reader

theorem w_succ {n : Nat} (h : n ≤ 1152921504606846980) : wrap64 ((n : Int) + 1) = ((n + 1 : Nat) : Int) := by
  unfold wrap64
  omega
theorem ref_digit (s : ByteArray) (i : Nat) : quarryref11_digit.f s (i : Int) = some (dg s i) := by
  unfold quarryref11_digit.f dg isDig
  by_cases h : i < s.size
  · rw [if_pos (by omega), if_pos (by omega), decide_eq_true h, Bool.true_and]
    by_cases h2 : 48 ≤ bt s (i : Int)
    · rw [if_pos h2, decide_eq_true h2, Bool.true_and]
    · rw [if_neg h2, decide_eq_false h2, Bool.false_and]
  · rw [if_neg (by omega), decide_eq_false h, Bool.false_and]
theorem ref_is (s : ByteArray) (i : Nat) (x y : Int) : quarryref11_is.f s (i : Int) x y = some (isAt s i x y) := by
  unfold quarryref11_is.f isAt
  by_cases h : i < s.size
  · rw [if_pos (by omega), if_pos (by omega), decide_eq_true h, Bool.true_and]
    by_cases h2 : bt s (i : Int) = x
    · rw [if_pos h2, decide_eq_true h2, Bool.true_or]
    · rw [if_neg h2, decide_eq_false h2, Bool.false_or]
      congr 1
  · rw [if_neg (by omega), decide_eq_false h, Bool.false_and]
theorem ref_digits (s : ByteArray) (hs : s.size ≤ 1152921504606846976) (n : Nat) : ∀ (k i : Nat), s.size - i = n → i ≤ s.size + 2 → n + 1 < k → quarryref11_digits.f k s (i : Int) = some ((dEnd s i : Nat) : Int) := by
  induction n with
  | zero =>
    intro k i hn hi hk
    obtain ⟨k, rfl⟩ : ∃ m, k = m + 1 := ⟨k - 1, by omega⟩
    have hd : dg s i = false := by
      unfold dg
      rw [decide_eq_false (by omega)]
      rfl
    unfold quarryref11_digits.f
    rw [quarryref11_digits.l0, ref_digit, Option.bind_some, hd, if_neg (by decide), dEnd_stop hd]
  | succ n ih =>
    intro k i hn hi hk
    obtain ⟨k, rfl⟩ : ∃ m, k = m + 1 := ⟨k - 1, by omega⟩
    unfold quarryref11_digits.f
    rw [quarryref11_digits.l0, ref_digit, Option.bind_some]
    by_cases hd : dg s i = true
    · rw [hd, if_pos rfl, w_succ (by omega), dEnd_step hd]
      exact ih k (i + 1) (by omega) (by omega) (by omega)
    · have hd' : dg s i = false := by simpa using hd
      rw [hd', if_neg (by decide), dEnd_stop hd']
theorem dEnd_same {s : ByteArray} {i : Nat} (h : dg s i = true) : dEnd s i ≠ i := by
  rw [dEnd_step h]
  have := dEnd_ge s (i + 1)
  omega
theorem all_dEnd (s : ByteArray) (i : Nat) : AllDg s i (dEnd s i) := fun _ h1 h2 => dEnd_dg h1 h2

/-- What the exponent's text holds. -/
def ExpText (s : ByteArray) (p : Parts) (X : ByteArray) : Prop := ∃ sg : List UInt8, X.data.toList = sg ++ piece s p.ea p.fin ∧ ((p.turned = true ∧ sg = [45]) ∨ (p.turned = false ∧ (sg = [] ∨ sg = [43]))) ∧ AllDg s p.ea p.fin
theorem piece_cons (s : ByteArray) {a b : Nat} (h : a < b) (hb : b ≤ s.size) : piece s a b = s.data.toList.getD a 0 :: piece s (a + 1) b := by
  rw [← piece_join s (show a ≤ a + 1 by omega) (show a + 1 ≤ b by omega), piece_snoc s (Nat.le_refl a) (by omega), piece_self]
  rfl
theorem byte_eq {s : ByteArray} {j : Nat} (hj : j < s.size) (c : UInt8) (h : bt s (j : Int) = (c.toNat : Int)) : s.data.toList.getD j 0 = c := by
  have := byte_bt s hj
  rw [h] at this
  exact UInt8.toNat_inj.1 (by omega)

theorem scan_j2 (s : ByteArray) (hs : s.size ≤ 1152921504606846976) (k bb : Nat) (hbb : bb ≤ s.size) (hk : s.size + 3 < k) (n : Bool) (W B : ByteArray) (wb ba : Nat) :
    ∃ X, quarryref11_scan.j2 k s (bb : Int) n W B ⟨#[]⟩ = some (n, W, B, X, ((expo s wb ba bb).fin : Int), (expo s wb ba bb).ok) ∧ ((expo s wb ba bb).ok = true → ExpText s (expo s wb ba bb) X) := by
  obtain ⟨k, rfl⟩ : ∃ m, k = m + 1 := ⟨k - 1, by omega⟩
  rw [quarryref11_scan.j2, ref_is, Option.bind_some]
  by_cases he : isAt s bb 101 69 = true
  · have hlt : bb < s.size := by
      unfold isAt at he
      simp at he
      exact he.1
    rw [he, if_pos rfl, w_succ (by omega), ref_is, Option.bind_some]
    by_cases ht : isAt s (bb + 1) 43 45 = true
    · have hlt2 : bb + 1 < s.size := by
        unfold isAt at ht
        simp at ht
        exact ht.1
      rw [ht, if_pos rfl, w_succ (by omega), show bb + 1 + 1 = bb + 2 from rfl, ref_digits s hs _ k (bb + 2) rfl (by omega) (by omega), Option.bind_some]
      have hge := dEnd_ge s (bb + 2)
      have hle := dEnd_le s (i := bb + 2) (by omega)
      by_cases hd : dg s (bb + 2) = true
      · have hne := dEnd_same hd
        rw [if_neg (by omega), if_pos (by omega), if_pos (by omega), if_pos (by omega)]
        obtain ⟨tu, htu⟩ : ∃ tu, Ea s bb (bb + 2) tu := ⟨_, by rw [if_pos ht], rfl⟩
        rw [expo_to he htu hd]
        refine ⟨_, by rw [← dEnd_step hd], fun _ => ?_⟩
        refine ⟨[s.data.toList.getD (bb + 1) 0], ?_, ?_, ?_⟩
        · simp only
          rw [Lib.extract_data]
          show piece s ((bb + 1 : Nat) : Int).toNat ((dEnd s (bb + 2) : Nat) : Int).toNat = _
          rw [Int.toNat_natCast, Int.toNat_natCast, ← dEnd_step hd, piece_cons s (by omega) hle]
          rfl
        · have h2 := htu.2
          rw [ht, Bool.true_and] at h2
          unfold isAt at ht
          rw [decide_eq_true hlt2, Bool.true_and, Bool.or_eq_true] at ht
          by_cases hm : bt s ((bb + 1 : Nat) : Int) = 45
          · left
            rw [decide_eq_true hm] at h2
            exact ⟨h2, by rw [byte_eq hlt2 45 hm]⟩
          · right
            rw [decide_eq_false hm] at h2
            have hp : bt s ((bb + 1 : Nat) : Int) = 43 := by
              rcases ht with h | h
              · exact of_decide_eq_true h
              · exact absurd (of_decide_eq_true h) hm
            exact ⟨h2, .inr (by rw [byte_eq hlt2 43 hp])⟩
        · simp only
          rw [← dEnd_step hd]
          exact all_dEnd s _
      · have hd' : dg s (bb + 2) = false := by simpa using hd
        have e := dEnd_stop hd'
        rw [if_pos (by rw [e])]
        obtain ⟨tu, htu⟩ : ∃ tu, Ea s bb (bb + 2) tu := ⟨_, by rw [if_pos ht], rfl⟩
        rw [expo_no he htu hd']
        exact ⟨_, by rw [e], fun h => by cases h⟩
    · have ht' : isAt s (bb + 1) 43 45 = false := by simpa using ht
      rw [ht', if_neg (by decide), ref_digits s hs _ k (bb + 1) rfl (by omega) (by omega), Option.bind_some]
      have hge := dEnd_ge s (bb + 1)
      have hle := dEnd_le s (i := bb + 1) (by omega)
      by_cases hd : dg s (bb + 1) = true
      · have hne := dEnd_same hd
        rw [if_neg (by omega), if_pos (by omega), if_pos (by omega), if_pos (by omega), expo_to he (ea_none ht') hd]
        refine ⟨_, by rw [← dEnd_step hd], fun _ => ?_⟩
        refine ⟨[], ?_, .inr ⟨rfl, .inl rfl⟩, ?_⟩
        · simp only
          rw [Lib.extract_data]
          show piece s ((bb + 1 : Nat) : Int).toNat ((dEnd s (bb + 1) : Nat) : Int).toNat = _
          rw [Int.toNat_natCast, Int.toNat_natCast, ← dEnd_step hd]
          rfl
        · simp only
          rw [← dEnd_step hd]
          exact all_dEnd s _
      · have hd' : dg s (bb + 1) = false := by simpa using hd
        have e := dEnd_stop hd'
        rw [if_pos (by rw [e]), expo_no he (ea_none ht') hd']
        exact ⟨_, by rw [e], fun h => by cases h⟩
  · have he' : isAt s bb 101 69 = false := by simpa using he
    rw [he', if_neg (by decide), expo_none he']
    exact ⟨_, rfl, fun _ => ⟨[], by rw [piece_self]; rfl, .inr ⟨rfl, .inl rfl⟩, AllDg.nil s _⟩⟩

theorem expo_parts_wb (s : ByteArray) (wb ba bb : Nat) : (expo s wb ba bb).wb = wb ∧ (expo s wb ba bb).ba = ba ∧ (expo s wb ba bb).bb = bb := expo_parts s wb ba bb

theorem scan_j1 (s : ByteArray) (hs : s.size ≤ 1152921504606846976) (k a wb : Nat) (ha : a ≤ wb) (hwb : wb ≤ s.size) (hk : s.size + 4 < k) (n : Bool) :
    ∃ W B X, quarryref11_scan.j1 k s (a : Int) (wb : Int) n ⟨#[]⟩ ⟨#[]⟩ ⟨#[]⟩ = some (n, W, B, X, ((point s wb).fin : Int), (point s wb).ok) ∧
      ((point s wb).ok = true → W.data.toList = piece s a (point s wb).wb ∧ B.data.toList = piece s (point s wb).ba (point s wb).bb ∧ ExpText s (point s wb) X) := by
  obtain ⟨k, rfl⟩ : ∃ m, k = m + 1 := ⟨k - 1, by omega⟩
  rw [quarryref11_scan.j1, if_pos (by omega), if_pos (by omega), if_pos (by omega), ref_is, Option.bind_some]
  have hW : (s.extract (a : Int).toNat (wb : Int).toNat).data.toList = piece s a wb := by
    rw [Lib.extract_data, Int.toNat_natCast, Int.toNat_natCast]
    rfl
  by_cases he : isAt s wb 46 46 = true
  · have hlt : wb < s.size := by
      unfold isAt at he
      simp at he
      exact he.1
    rw [he, if_pos rfl, w_succ (by omega), ref_digits s hs _ k (wb + 1) rfl (by omega) (by omega), Option.bind_some]
    have hge := dEnd_ge s (wb + 1)
    have hle := dEnd_le s (i := wb + 1) (by omega)
    by_cases hd : dg s (wb + 1) = true
    · have hne := dEnd_same hd
      rw [if_neg (by omega), if_pos (by omega), if_pos (by omega), if_pos (by omega)]
      have hp : point s wb = expo s wb (wb + 1) (dEnd s (wb + 1)) := by
        unfold point
        rw [if_pos he, if_pos hd, dEnd_step hd]
      rw [hp]
      obtain ⟨X, hX, hE⟩ := scan_j2 s hs k (dEnd s (wb + 1)) hle (by omega) n (s.extract (a : Int).toNat (wb : Int).toNat) (s.extract ((wb + 1 : Nat) : Int).toNat ((dEnd s (wb + 1) : Nat) : Int).toNat) wb (wb + 1)
      refine ⟨_, _, X, hX, fun hok => ⟨?_, ?_, hE hok⟩⟩
      · rw [(expo_parts s _ _ _).1]; exact hW
      · rw [(expo_parts s _ _ _).2.1, (expo_parts s _ _ _).2.2, Lib.extract_data, Int.toNat_natCast, Int.toNat_natCast]
        rfl
    · have hd' : dg s (wb + 1) = false := by simpa using hd
      have e := dEnd_stop hd'
      rw [if_pos (by rw [e])]
      have hp : point s wb = ⟨false, wb + 1, wb, wb + 1, wb + 1, wb + 1, false⟩ := by
        unfold point
        rw [if_pos he, if_neg hd]
      rw [hp]
      exact ⟨_, _, _, by rw [e], fun h => by cases h⟩
  · have he' : isAt s wb 46 46 = false := by simpa using he
    rw [he', if_neg (by decide)]
    have hp : point s wb = expo s wb wb wb := by
      unfold point
      rw [if_neg he]
    rw [hp]
    obtain ⟨X, hX, hE⟩ := scan_j2 s hs k wb hwb (by omega) n (s.extract (a : Int).toNat (wb : Int).toNat) ⟨#[]⟩ wb wb
    refine ⟨_, _, X, hX, fun hok => ⟨?_, ?_, hE hok⟩⟩
    · rw [(expo_parts s _ _ _).1]; exact hW
    · rw [(expo_parts s _ _ _).2.1, (expo_parts s _ _ _).2.2, piece_self]

theorem scan_j0 (s : ByteArray) (hs : s.size ≤ 1152921504606846976) (k a : Nat) (ha : a ≤ s.size + 1) (hk : s.size + 5 < k) (n : Bool) :
    ∃ W B X, quarryref11_scan.j0 k s (a : Int) n ⟨#[]⟩ ⟨#[]⟩ ⟨#[]⟩ = some (n, W, B, X, ((partsOf s a).fin : Int), (partsOf s a).ok) ∧
      ((partsOf s a).ok = true → W.data.toList = piece s a (partsOf s a).wb ∧ B.data.toList = piece s (partsOf s a).ba (partsOf s a).bb ∧ ExpText s (partsOf s a) X) := by
  obtain ⟨k, rfl⟩ : ∃ m, k = m + 1 := ⟨k - 1, by omega⟩
  rw [quarryref11_scan.j0, ref_digit, Option.bind_some]
  by_cases hd : dg s a = true
  · have hlt := dg_lt hd
    rw [hd, if_pos rfl, ref_digits s hs _ k a rfl (by omega) (by omega), Option.bind_some, if_pos (by omega), if_pos (by omega)]
    by_cases h48 : bt s (a : Int) = 48
    · have hp : partsOf s a = point s (a + 1) := by
        unfold partsOf
        rw [if_pos hd, if_pos h48]
      rw [if_pos h48, hp, w_succ (by omega)]
      exact scan_j1 s hs k a (a + 1) (by omega) (by omega) (by omega) n
    · have hp : partsOf s a = point s (dEnd s a) := by
        unfold partsOf
        rw [if_pos hd, if_neg h48, dEnd_step hd]
      rw [if_neg h48, hp]
      exact scan_j1 s hs k a (dEnd s a) (dEnd_ge s a) (dEnd_le s (by omega)) (by omega) n
  · have hd' : dg s a = false := by simpa using hd
    have hp : partsOf s a = ⟨false, a, a, a, a, a, false⟩ := by
      unfold partsOf
      rw [if_neg hd]
    rw [hd', if_neg (by decide), hp]
    exact ⟨_, _, _, rfl, fun h => by cases h⟩
theorem scan_is (s : ByteArray) (hs : s.size ≤ 1152921504606846976) (k i : Nat) (hi : i ≤ s.size) (hk : s.size + 5 < k) :
    ∃ W B X, quarryref11_scan.f k s (i : Int) = some (isAt s i 45 45, W, B, X, ((partsOf s (startOf s i)).fin : Int), (partsOf s (startOf s i)).ok) ∧
      ((partsOf s (startOf s i)).ok = true → W.data.toList = piece s (startOf s i) (partsOf s (startOf s i)).wb ∧ B.data.toList = piece s (partsOf s (startOf s i)).ba (partsOf s (startOf s i)).bb ∧ ExpText s (partsOf s (startOf s i)) X) := by
  unfold quarryref11_scan.f
  rw [ref_is, Option.bind_some]
  by_cases h : isAt s i 45 45 = true
  · have e : startOf s i = i + 1 := by
      unfold startOf
      rw [if_pos h]
    rw [h, if_pos rfl, w_succ (by omega), e]
    exact scan_j0 s hs k (i + 1) (by omega) hk true
  · have h' : isAt s i 45 45 = false := by simpa using h
    have e : startOf s i = i := by
      unfold startOf
      rw [if_neg h]
    rw [h', if_neg (by decide), e]
    exact scan_j0 s hs k i (by omega) hk false
end Go.Proofs.YtkjmbibnfohkjaaDoor.PWholeUints

/- The document's Read: the exponent's worth, the digits in their one form, and all of it together. -/
namespace Go.Proofs.YtkjmbibnfohkjaaDoor.PWholeUints
open Go.RowKit Go.Proofs.YtkjmbibnfohkjaaDoorW.PrintWords Go.Proofs.YtkjmbibnfohkjaaDoorW.PrintLast Go.Proofs.YtkjmbibnfohkjaaDoorW.PrintMore Go.Proofs.YtkjmbibnfohkjaaDoor.Dec Go.Proofs.YtkjmbibnfohkjaaDoor.Reader

def finB (neg : Bool) (m : Int) : Int := if neg = true then -capB m else capB m
theorem number_end (x : ByteArray) (neg : Bool) (n : Int) (h0 : 0 ≤ n) (h1 : n ≤ 10000000000000009) (i : Int) (hi : ¬ i < (x.size : Int)) (k : Nat) : quarryref11_number.l0 (k + 1) x 1000000000000000 neg n i = some (finB neg n) := by
  rw [quarryref11_number.l0, if_neg hi]
  unfold finB capB
  have w1 : wrap64 ((1000000000000000 : Int) + 1) = 1000000000000001 := by unfold wrap64; omega
  have w2 : wrap64 (-(1000000000000001 : Int)) = -1000000000000001 := by unfold wrap64; omega
  have w3 : wrap64 (-n) = -n := by unfold wrap64; omega
  rw [w1, w2, w3]
  by_cases h : n > 1000000000000000
  · rw [if_pos h, if_pos h]
    cases neg <;> rfl
  · rw [if_neg h, if_neg h]
    cases neg <;> rfl
theorem number_digits (x : ByteArray) (hx : x.size ≤ 1152921504606846976) (neg : Bool) (d : Nat) : ∀ (i k : Nat) (n : Int), i + d = x.size → d < k → (∀ j, i ≤ j → j < x.size → 48 ≤ bt x (j : Int) ∧ bt x (j : Int) ≤ 57) → 0 ≤ n → n ≤ 10000000000000009 →
    quarryref11_number.l0 k x 1000000000000000 neg n (i : Int) = some (finB neg (satB (piece x i x.size) n)) := by
  induction d with
  | zero =>
    intro i k n hi hk _ h0 h1
    obtain ⟨k, rfl⟩ : ∃ m, k = m + 1 := ⟨k - 1, by omega⟩
    rw [number_end x neg n h0 h1 _ (by omega), show i = x.size from by omega, piece_self]
    rfl
  | succ d ih =>
    intro i k n hi hk hd h0 h1
    obtain ⟨k, rfl⟩ : ∃ m, k = m + 1 := ⟨k - 1, by omega⟩
    obtain ⟨b1, b2⟩ := hd i (Nat.le_refl _) (by omega)
    have hc := byte_bt x (j := i) (by omega)
    rw [quarryref11_number.l0, if_pos (by omega), if_pos (by omega), if_neg (by omega), if_pos (by omega), if_pos (by omega), w_succ (by omega), piece_cons x (by omega) (Nat.le_refl _), satB, hc]
    by_cases hn : n ≤ 1000000000000000
    · have w1 : wrap64 (wrap64 (wrap64 (n * 10) + wrap64 (bt x (i : Int))) - 48) = n * 10 + (bt x (i : Int) - 48) := by
        unfold wrap64
        omega
      rw [if_pos hn, if_pos hn, w1]
      exact ih (i + 1) k _ (by omega) (by omega) (fun j h2 h3 => hd j (by omega) h3) (by omega) (by omega)
    · rw [if_neg hn, if_neg hn]
      exact ih (i + 1) k _ (by omega) (by omega) (fun j h2 h3 => hd j (by omega) h3) h0 h1
theorem text_digits {X : ByteArray} {sg D : List UInt8} (h : X.data.toList = sg ++ D) (hD : Digits D) : ∀ j, sg.length ≤ j → j < X.size → 48 ≤ bt X (j : Int) ∧ bt X (j : Int) ≤ 57 := by
  intro j h1 h2
  rw [← byte_bt X h2, h]
  have hl : (sg ++ D).length = X.size := by rw [← h]; rfl
  rw [List.length_append] at hl
  have : (sg ++ D).getD j 0 ∈ D := by
    rw [List.getD_eq_getElem?_getD, List.getElem?_append_right h1, List.getElem?_eq_getElem (by omega)]
    exact List.getElem_mem _
  exact hD _ this
theorem text_piece {X : ByteArray} {sg D : List UInt8} (h : X.data.toList = sg ++ D) : piece X sg.length X.size = D := by
  unfold piece
  have hl : (sg ++ D).length = X.size := by rw [← h]; rfl
  rw [List.length_append] at hl
  rw [h, List.drop_left, List.take_of_length_le (by omega)]
theorem text_first {X : ByteArray} {c : UInt8} {D : List UInt8} (h : X.data.toList = [c] ++ D) : 0 < X.size ∧ bt X 0 = (c.toNat : Int) := by
  have hl : ([c] ++ D).length = X.size := by rw [← h]; rfl
  rw [List.length_append, List.length_singleton] at hl
  have h0 : 0 < X.size := by omega
  refine ⟨h0, ?_⟩
  have := byte_bt X h0
  rw [h] at this
  exact this.symm
theorem number_is {s : ByteArray} {p : Parts} {X : ByteArray} (hE : ExpText s p X) (hX : X.size ≤ 1152921504606846976) (k : Nat) (hk : X.size + 1 < k) :
    quarryref11_number.f k X 1000000000000000 = some (if p.turned = true then -capB (satB (piece s p.ea p.fin) 0) else capB (satB (piece s p.ea p.fin) 0)) := by
  obtain ⟨sg, hX1, hs, hall⟩ := hE
  have hD := hall.digits
  have hd := text_digits hX1 hD
  have hp := text_piece hX1
  have hl : (sg ++ piece s p.ea p.fin).length = X.size := by rw [← hX1]; rfl
  rw [List.length_append] at hl
  unfold quarryref11_number.f
  rcases hs with ⟨ht, rfl⟩ | ⟨ht, rfl | rfl⟩
  · obtain ⟨h0, hb⟩ := text_first hX1
    obtain ⟨k, rfl⟩ : ∃ m, k = m + 1 := ⟨k - 1, by omega⟩
    have hb' : bt X 0 = 45 := hb
    rw [quarryref11_number.l0, if_pos (by omega), if_pos (by decide), if_pos hb', if_neg (by omega), show wrap64 ((0 : Int) + 1) = ((1 : Nat) : Int) from by unfold wrap64; omega,
      number_digits X hX true (X.size - 1) 1 k 0 (by omega) (by omega) hd (by decide) (by decide)]
    rw [show ([45] : List UInt8).length = 1 from rfl] at hp
    rw [hp, ht]
    rfl
  · have := number_digits X hX false X.size 0 k 0 (by omega) (by omega) hd (by decide) (by decide)
    rw [show ([] : List UInt8).length = 0 from rfl] at hp
    rw [hp] at this
    rw [ht]
    exact this
  · obtain ⟨h0, hb⟩ := text_first hX1
    obtain ⟨k, rfl⟩ : ∃ m, k = m + 1 := ⟨k - 1, by omega⟩
    have hb' : bt X 0 = 43 := hb
    rw [quarryref11_number.l0, if_pos (by omega), if_pos (by decide), if_neg (by omega), if_neg (by omega), show wrap64 ((0 : Int) + 1) = ((1 : Nat) : Int) from by unfold wrap64; omega,
      number_digits X hX false (X.size - 1) 1 k 0 (by omega) (by omega) hd (by decide) (by decide)]
    rw [show ([43] : List UInt8).length = 1 from rfl] at hp
    rw [hp, ht]
    rfl

/-! ### Make -/
/-- Where the noughts ahead end; where those behind begin. -/
def front (x : ByteArray) : Nat → Nat → Nat
  | 0, i => i
  | d + 1, i => if bt x (i : Int) = 48 then front x d (i + 1) else i
def back (x : ByteArray) (a : Nat) : Nat → Nat
  | 0 => a
  | d + 1 => if bt x ((a + d : Nat) : Int) = 48 then back x a d else a + d + 1
theorem front_spec (x : ByteArray) : ∀ d i, i + d = x.size → i ≤ front x d i ∧ front x d i ≤ x.size ∧ (∀ j, i ≤ j → j < front x d i → bt x (j : Int) = 48) ∧ (front x d i < x.size → bt x ((front x d i : Nat) : Int) ≠ 48)
  | 0, i, h => by
    unfold front
    exact ⟨Nat.le_refl _, by omega, fun j h1 h2 => by omega, fun h1 => by omega⟩
  | d + 1, i, h => by
    unfold front
    by_cases hb : bt x (i : Int) = 48
    · rw [if_pos hb]
      obtain ⟨h1, h2, h3, h4⟩ := front_spec x d (i + 1) (by omega)
      refine ⟨by omega, h2, fun j g1 g2 => ?_, h4⟩
      by_cases e : j = i
      · rw [e]; exact hb
      · exact h3 j (by omega) g2
    · rw [if_neg hb]
      exact ⟨Nat.le_refl _, by omega, fun j h1 h2 => by omega, fun _ => hb⟩
theorem back_spec (x : ByteArray) (a : Nat) : ∀ d, a ≤ back x a d ∧ back x a d ≤ a + d ∧ (∀ j, back x a d ≤ j → j < a + d → bt x (j : Int) = 48) ∧ (a < back x a d → bt x ((back x a d - 1 : Nat) : Int) ≠ 48)
  | 0 => by
    unfold back
    exact ⟨Nat.le_refl _, Nat.le_refl _, fun j h1 h2 => by omega, fun h1 => by omega⟩
  | d + 1 => by
    unfold back
    by_cases hb : bt x ((a + d : Nat) : Int) = 48
    · rw [if_pos hb]
      obtain ⟨h1, h2, h3, h4⟩ := back_spec x a d
      refine ⟨h1, by omega, fun j g1 g2 => ?_, h4⟩
      by_cases e : j = a + d
      · rw [e]; exact hb
      · exact h3 j g1 (by omega)
    · rw [if_neg hb]
      exact ⟨by omega, by omega, fun j h1 h2 => by omega, fun _ => by rw [Nat.add_sub_cancel]; exact hb⟩
theorem get_byte {x : ByteArray} {j : Nat} {b : UInt8} (h : x.data.toList[j]? = some b) : j < x.size ∧ bt x (j : Int) = (b.toNat : Int) := by
  obtain ⟨hj, hb⟩ := List.getElem?_eq_some_iff.1 h
  have hj' : j < x.size := hj
  refine ⟨hj', ?_⟩
  rw [← byte_bt x hj', List.getD_eq_getElem?_getD, h]
  rfl
theorem is48 (b : UInt8) : (b.toNat : Int) = 48 ↔ b = 48 := by
  rw [← UInt8.toNat_inj]
  show (b.toNat : Int) = 48 ↔ b.toNat = 48
  omega
theorem trimA_is (x : ByteArray) : (trimA x.data.toList).data.toList = x.data.toList.drop (front x x.size 0) := by
  obtain ⟨_, h2, h3, h4⟩ := front_spec x x.size 0 (by omega)
  show Lib.trimLeftB x.data.toList 48 = _
  refine Lib.trimLeftB_drop _ _ _ h2 ?_ ?_
  · intro j b hj hb
    obtain ⟨_, e⟩ := get_byte hb
    exact (is48 b).1 (by rw [← e]; exact h3 j (Nat.zero_le _) hj)
  · intro b hb hb48
    obtain ⟨g1, e⟩ := get_byte hb
    exact h4 g1 (by rw [e, hb48]; rfl)
theorem trimB_is (x : ByteArray) : (trimB x.data.toList).data.toList = (x.data.toList.drop (front x x.size 0)).take (back x (front x x.size 0) (x.size - front x x.size 0) - front x x.size 0) := by
  have hA := trimA_is x
  obtain ⟨_, h2, _, _⟩ := front_spec x x.size 0 (by omega)
  generalize front x x.size 0 = a at *
  obtain ⟨g1, g2, g3, g4⟩ := back_spec x a (x.size - a)
  generalize back x a (x.size - a) = b at *
  have hA' : Lib.trimLeftB x.data.toList 48 = x.data.toList.drop a := hA
  show Lib.trimRightB (Lib.trimLeftB x.data.toList 48) 48 = _
  rw [hA']
  refine Lib.trimRightB_take _ _ _ (by rw [List.length_drop]; show b - a ≤ x.size - a; omega) ?_ ?_
  · intro j c hj hc
    rw [List.getElem?_drop] at hc
    obtain ⟨k1, e⟩ := get_byte hc
    exact (is48 c).1 (by rw [← e]; exact g3 (a + j) (by omega) (by omega))
  · intro c h0 hc hc48
    rw [List.getElem?_drop] at hc
    obtain ⟨k1, e⟩ := get_byte hc
    refine g4 (by omega) ?_
    rw [show b - 1 = a + (b - a - 1) from by omega, e, hc48]
    rfl
theorem make_j3 (k : Nat) (neg : Bool) (x : ByteArray) (e : Int) (a b : Nat) (hab : a ≤ b) (hb : b ≤ x.size) :
    quarryref11_Make.j3 (k + 1) neg x e (a : Int) (b : Int) = some (if a = b then (neg, ⟨#[]⟩, 0, true) else if e > 1073741824 ∨ e < -1073741824 then (false, ⟨#[]⟩, 0, false) else (neg, x.extract a b, e, true)) := by
  rw [quarryref11_Make.j3]
  by_cases h : a = b
  · rw [if_pos (by omega), if_pos h]
  · rw [if_neg (by omega), if_neg h]
    by_cases h1 : e > 1073741824
    · rw [if_pos h1, if_pos (.inl h1)]
    · rw [if_neg h1]
      by_cases h2 : e < -1073741824
      · rw [if_pos h2, if_pos (.inr h2)]
      · rw [if_neg h2, if_pos (by omega), if_pos (by omega), if_pos (by omega), if_neg (by omega), Int.toNat_natCast, Int.toNat_natCast]
theorem make_l1 (neg : Bool) (x : ByteArray) (hx : x.size ≤ 1152921504606846976) (a : Nat) (d : Nat) : ∀ (k : Nat) (e : Int), a + d ≤ x.size → d + 1 < k → -2305843009213693952 + (d : Int) ≤ e → e + (d : Int) ≤ 2305843009213693952 →
    quarryref11_Make.l1 k neg x e (a : Int) ((a + d : Nat) : Int) = some (if a = back x a d then (neg, ⟨#[]⟩, 0, true) else if e + ((a + d - back x a d : Nat) : Int) > 1073741824 ∨ e + ((a + d - back x a d : Nat) : Int) < -1073741824 then (false, ⟨#[]⟩, 0, false) else (neg, x.extract a (back x a d), e + ((a + d - back x a d : Nat) : Int), true)) := by
  induction d with
  | zero =>
    intro k e hd hk _ _
    obtain ⟨k, rfl⟩ : ∃ m, k = m + 1 + 1 := ⟨k - 2, by omega⟩
    rw [quarryref11_Make.l1, if_neg (by omega), make_j3 k neg x e a (a + 0) (by omega) hd]
    rw [if_pos (by omega), if_pos (by unfold back; rfl)]
  | succ d ih =>
    intro k e hd hk h0 h1
    obtain ⟨k, rfl⟩ : ∃ m, k = m + 1 + 1 := ⟨k - 2, by omega⟩
    have w1 : wrap64 (((a + (d + 1) : Nat) : Int) - 1) = ((a + d : Nat) : Int) := by
      unfold wrap64
      omega
    rw [quarryref11_Make.l1, if_pos (by omega), w1, if_pos (by omega), if_pos (by omega)]
    by_cases hb : bt x ((a + d : Nat) : Int) = 48
    · have w2 : wrap64 (e + 1) = e + 1 := by
        unfold wrap64
        omega
      have hbk : back x a (d + 1) = back x a d := by
        rw [back, if_pos hb]
      have hle := (back_spec x a d).2.1
      have e1 : e + 1 + ((a + d - back x a d : Nat) : Int) = e + ((a + (d + 1) - back x a d : Nat) : Int) := by omega
      rw [if_pos hb, w2, ih (k + 1) (e + 1) (by omega) (by omega) (by omega) (by omega), hbk, e1]
    · have hbk : back x a (d + 1) = a + (d + 1) := by
        rw [back, if_neg hb]
        rfl
      rw [if_neg hb, make_j3 k neg x e a (a + (d + 1)) (by omega) hd, hbk, Nat.sub_self]
      simp
theorem make_l0 (neg : Bool) (x : ByteArray) (hx : x.size ≤ 1152921504606846976) (e : Int) (d : Nat) : ∀ (k a : Nat), a + d = x.size → x.size + d + 3 < k → -1152921504606846976 ≤ e → e ≤ 1152921504606846976 →
    quarryref11_Make.l0 k neg x e (a : Int) = some (if front x d a = back x (front x d a) (x.size - front x d a) then (neg, ⟨#[]⟩, 0, true) else if e + ((x.size - back x (front x d a) (x.size - front x d a) : Nat) : Int) > 1073741824 ∨ e + ((x.size - back x (front x d a) (x.size - front x d a) : Nat) : Int) < -1073741824 then (false, ⟨#[]⟩, 0, false)
      else (neg, x.extract (front x d a) (back x (front x d a) (x.size - front x d a)), e + ((x.size - back x (front x d a) (x.size - front x d a) : Nat) : Int), true)) := by
  induction d with
  | zero =>
    intro k a ha hk h0 h1
    obtain ⟨k, rfl⟩ : ∃ m, k = m + 1 + 1 := ⟨k - 2, by omega⟩
    rw [quarryref11_Make.l0, if_neg (by omega), quarryref11_Make.j1]
    have := make_l1 neg x hx a 0 k e (by omega) (by omega) (by omega) (by omega)
    have ea : a = x.size := by omega
    subst ea
    unfold front
    rw [Nat.sub_self]
    rw [Nat.add_zero] at this
    exact this
  | succ d ih =>
    intro k a ha hk h0 h1
    obtain ⟨k, rfl⟩ : ∃ m, k = m + 1 + 1 := ⟨k - 2, by omega⟩
    rw [quarryref11_Make.l0, if_pos (by omega), if_pos (by omega)]
    by_cases hb : bt x (a : Int) = 48
    · have hf : front x (d + 1) a = front x d (a + 1) := by
        rw [front, if_pos hb]
      rw [if_pos hb, w_succ (by omega), hf]
      exact ih (k + 1) (a + 1) (by omega) (by omega) h0 h1
    · have hf : front x (d + 1) a = a := by
        rw [front, if_neg hb]
      rw [if_neg hb, quarryref11_Make.j1, hf]
      have := make_l1 neg x hx a (x.size - a) k e (by omega) (by omega) (by omega) (by omega)
      rw [show a + (x.size - a) = x.size from by omega] at this
      exact this
theorem make_is (neg : Bool) (x : ByteArray) (hx : x.size ≤ 1152921504606846976) (e : Int) (h0 : -1152921504606846976 ≤ e) (h1 : e ≤ 1152921504606846976) (k : Nat) (hk : 2 * x.size + 3 < k) :
    quarryref11_Make.f k neg x e = some (numOf neg x.data.toList 0 e) := by
  unfold quarryref11_Make.f
  have h := make_l0 neg x hx e x.size k 0 (by omega) (by omega) h0 h1
  rw [show ((0 : Nat) : Int) = 0 from rfl] at h
  rw [h]
  have hA := trimA_is x
  have hB := trimB_is x
  obtain ⟨_, f2, _, _⟩ := front_spec x x.size 0 (by omega)
  generalize front x x.size 0 = a at *
  obtain ⟨g1, g2, _, _⟩ := back_spec x a (x.size - a)
  generalize back x a (x.size - a) = b at *
  have hxl : x.data.toList.length = x.size := rfl
  have hAs : (trimA x.data.toList).size = x.size - a := by
    show (trimA x.data.toList).data.toList.length = _
    rw [hA, List.length_drop, hxl]
  have hBs : (trimB x.data.toList).size = b - a := by
    show (trimB x.data.toList).data.toList.length = _
    rw [hB, List.length_take, List.length_drop, hxl]
    omega
  have hXe : x.extract a b = trimB x.data.toList := by
    apply ByteArray.ext
    apply Array.toList_inj.1
    rw [Lib.extract_data, hB]
  have hE : expOf x.data.toList 0 e = e + ((x.size - b : Nat) : Int) := by
    unfold expOf
    rw [hAs, hBs]
    omega
  congr 1
  unfold numOf
  rw [hE, hXe]
  by_cases hz : a = b
  · have h' : (trimB x.data.toList).data.toList = [] := by
      apply List.eq_nil_of_length_eq_zero
      show (trimB x.data.toList).size = 0
      omega
    rw [if_pos hz, if_pos h']
  · have h' : ¬ (trimB x.data.toList).data.toList = [] := by
      intro h'
      have : (trimB x.data.toList).size = 0 := by
        show (trimB x.data.toList).data.toList.length = 0
        rw [h']
        rfl
      omega
    rw [if_neg hz, if_neg h']

/-! ### Read -/
theorem ref_read_out (s : ByteArray) (i : Int) (k : Nat) (h : i < 0 ∨ i > (s.size : Int)) : quarryref11_Read.f (k + 1) s i = some (false, ⟨#[]⟩, 0, 0, 2) := by
  unfold quarryref11_Read.f
  by_cases h0 : i < 0
  · rw [if_pos h0, quarryref11_Read.j0, if_pos rfl]
  · rw [if_neg h0, decide_eq_true (by omega), quarryref11_Read.j0, if_pos rfl]
theorem ref_read_in (s : ByteArray) (i : Nat) (hi : i ≤ s.size) (hs : s.size ≤ 140737488355328) (k : Nat) (hk : 3 * s.size + 20 < k) : quarryref11_Read.f k s (i : Int) = some (readOf s i) := by
  obtain ⟨k, rfl⟩ : ∃ m, k = m + 1 := ⟨k - 1, by omega⟩
  unfold quarryref11_Read.f
  rw [if_neg (by omega), decide_eq_false (by omega), quarryref11_Read.j0, if_neg (by decide)]
  obtain ⟨W, B, X, hsc, hok⟩ := scan_is s (by omega) k i hi (by omega)
  rw [hsc, Option.bind_some]
  by_cases ho : (partsOf s (startOf s i)).ok = true
  · obtain ⟨hW, hB, hX⟩ := hok ho
    have hlen := pieces_len s i (by omega) ho
    have hall : AllDg s (partsOf s (startOf s i)).ea (partsOf s (startOf s i)).fin := by
      obtain ⟨_, _, _, h⟩ := hX
      exact h
    have hXs : X.size ≤ 140737488355330 := by
      obtain ⟨sg, h1, h2, _⟩ := hX
      show X.data.toList.length ≤ _
      have e1 := piece_len_le s (partsOf s (startOf s i)).ea (partsOf s (startOf s i)).fin
      have e2 : (piece s (partsOf s (startOf s i)).ea (partsOf s (startOf s i)).fin).length ≤ s.size := by
        unfold piece
        rw [List.length_take, List.length_drop]
        have : s.data.toList.length = s.size := rfl
        omega
      rw [h1, List.length_append]
      have e3 : sg.length ≤ 1 := by
        rcases h2 with ⟨_, rfl⟩ | ⟨_, rfl | rfl⟩ <;> simp
      omega
    have hXk : X.size + 1 < k := by
      obtain ⟨sg, h1, h2, _⟩ := hX
      have e2 : (piece s (partsOf s (startOf s i)).ea (partsOf s (startOf s i)).fin).length ≤ s.size := by
        unfold piece
        rw [List.length_take, List.length_drop]
        have : s.data.toList.length = s.size := rfl
        omega
      have e3 : sg.length ≤ 1 := by
        rcases h2 with ⟨_, rfl⟩ | ⟨_, rfl | rfl⟩ <;> simp
      have e4 : X.size = sg.length + (piece s (partsOf s (startOf s i)).ea (partsOf s (startOf s i)).fin).length := by
        show X.data.toList.length = _
        rw [h1, List.length_append]
      omega
    have hnum := number_is hX (by omega) k hXk
    have hwl : W.size + B.size = (piece s (startOf s i) (partsOf s (startOf s i)).wb ++ piece s (partsOf s (startOf s i)).ba (partsOf s (startOf s i)).bb).length := by
      rw [List.length_append, ← hW, ← hB]
      rfl
    have hbs : B.size = (partsOf s (startOf s i)).bb - (partsOf s (startOf s i)).ba := by
      show B.data.toList.length = _
      rw [hB, piece_length s (parts_bounds s _ ho).2.2.1]
    have hws : W.size + B.size ≤ s.size := by
      have e1 := piece_len_le s (startOf s i) (partsOf s (startOf s i)).wb
      have e2 := piece_len_le s (partsOf s (startOf s i)).ba (partsOf s (startOf s i)).bb
      obtain ⟨b1, b2, b3, b4⟩ := parts_bounds s _ ho
      rw [hwl, List.length_append]
      omega
    have hcat : (W ++ B).data.toList = piece s (startOf s i) (partsOf s (startOf s i)).wb ++ piece s (partsOf s (startOf s i)).ba (partsOf s (startOf s i)).bb := by
      rw [← hW, ← hB]
      simp
    have hcs : (W ++ B).size = W.size + B.size := by
      show (W ++ B).data.toList.length = W.data.toList.length + B.data.toList.length
      rw [hcat, hW, hB, List.length_append]
    have hr := satB_range (piece s (partsOf s (startOf s i)).ea (partsOf s (startOf s i)).fin) 0 hall.digits (by decide) (by decide)
    have hcap : 0 ≤ capB (satB (piece s (partsOf s (startOf s i)).ea (partsOf s (startOf s i)).fin) 0) ∧ capB (satB (piece s (partsOf s (startOf s i)).ea (partsOf s (startOf s i)).fin) 0) ≤ 1000000000000001 := by
      unfold capB
      split <;> omega
    have hyes := readOf_yes (s := s) (i := i) rfl ho rfl rfl rfl rfl
    simp only
    rw [ho, if_pos rfl, hnum, Option.bind_some, if_pos (by omega)]
    have hwr : ∀ E : Int, -1000000000000001 ≤ E → E ≤ 1000000000000001 → wrap64 (E - (B.size : Int)) = E - (B.size : Int) := by
      intro E h1 h2
      unfold wrap64
      omega
    have hE : -1000000000000001 ≤ (if (partsOf s (startOf s i)).turned = true then -capB (satB (piece s (partsOf s (startOf s i)).ea (partsOf s (startOf s i)).fin) 0) else capB (satB (piece s (partsOf s (startOf s i)).ea (partsOf s (startOf s i)).fin) 0)) ∧ (if (partsOf s (startOf s i)).turned = true then -capB (satB (piece s (partsOf s (startOf s i)).ea (partsOf s (startOf s i)).fin) 0) else capB (satB (piece s (partsOf s (startOf s i)).ea (partsOf s (startOf s i)).fin) 0)) ≤ 1000000000000001 := by
      split <;> omega
    rw [hwr _ hE.1 hE.2, make_is _ (W ++ B) (by omega) _ (by omega) (by omega) k (by omega), Option.bind_some, hcat, num_shift, hbs, num_sign _ _ _ _ _ hlen.1 hlen.2 hall.digits, hyes]
    exact (apply_ite some _ _ _).symm
  · have ho' : (partsOf s (startOf s i)).ok = false := by simpa using ho
    have hno := readOf_no (s := s) (i := i) rfl ho'
    simp only
    rw [ho', if_neg (by decide), hno]
theorem ref_read_is (s : ByteArray) (i : Int) (hs : s.size ≤ 140737488355328) (k : Nat) (hk : 3 * s.size + 20 < k) : quarryref11_Read.f k s i = decimal_Read.f s i := by
  unfold decimal_Read.f
  by_cases h : i < 0 ∨ i > (s.size : Int)
  · obtain ⟨k, rfl⟩ : ∃ m, k = m + 1 := ⟨k - 1, by omega⟩
    rw [if_pos h, ref_read_out s i k h]
  · obtain ⟨n, rfl⟩ := Int.eq_ofNat_of_zero_le (show 0 ≤ i by omega)
    rw [if_neg h, if_pos ⟨by omega, by omega⟩]
    rw [ref_read_in s n (by omega) hs k hk]
    rfl
theorem read_some (s : ByteArray) (i : Int) (hs : s.size ≤ 140737488355328) : ∃ r, decimal_Read.f s i = some r := by
  unfold decimal_Read.f
  by_cases h : i < 0 ∨ i > (s.size : Int)
  · rw [if_pos h]
    exact ⟨_, rfl⟩
  · rw [if_neg h, if_pos ⟨by omega, by omega⟩]
    exact ⟨_, rfl⟩
end Go.Proofs.YtkjmbibnfohkjaaDoor.PWholeUints

/- The document's Int and Uint, as they are printed, are what the program's tell. Plain Lean over the printed functions. -/
namespace Go.Proofs.YtkjmbibnfohkjaaDoor.PWholeUints
open Go.RowKit Go.Proofs.YtkjmbibnfohkjaaDoorW.PrintWords Go.Proofs.YtkjmbibnfohkjaaDoorW.PrintLast Go.Proofs.YtkjmbibnfohkjaaDoorW.PrintMore Go.Proofs.YtkjmbibnfohkjaaDoor.Dec Go.Proofs.YtkjmbibnfohkjaaDoor.Reader Go.Proofs.YtkjmbibnfohkjaaDoor.Whole

theorem ref_of (s : ByteArray) (hs : s.size ≤ 140737488355328) (k : Nat) (hk : 3 * s.size + 20 < k) : quarryref11_Of.f k s = some (ofR (readOf s 0) s.size) := by
  have hz : decimal_Read.f s 0 = some (readOf s 0) := by
    unfold decimal_Read.f
    rw [if_neg (by omega), if_pos ⟨by omega, by omega⟩]
    rfl
  unfold quarryref11_Of.f ofR
  rw [ref_read_is s 0 hs k hk, hz, Option.bind_some]
  by_cases h1 : (readOf s 0).2.2.2.2 = 110
  · rw [if_pos h1, if_pos h1]
  · have hf : (readOf s 0).2.2.2.1 ≤ (s.size : Int) := by
      have h := parts_fin s (startOf s 0) (start_le s 0 (Nat.zero_le _))
      rcases readOf_cases s 0 (Nat.zero_le _) with ⟨h2, _⟩ | ⟨h2, _⟩ | ⟨n, l, d, e, h2, _⟩
      · rw [h2] at h1
        exact absurd rfl h1
      · rw [h2]
        show ((partsOf s (startOf s 0)).fin : Int) ≤ _
        omega
      · rw [h2]
        show ((partsOf s (startOf s 0)).fin : Int) ≤ _
        omega
    rw [if_neg h1, if_neg h1]
    by_cases h2 : (readOf s 0).2.2.2.1 = (s.size : Int)
    · rw [if_pos h2, if_neg (by omega)]
    · rw [if_neg h2, if_pos (by omega)]
/-- What Plain says behind its loop. -/
def plainEnd (s : ByteArray) : Option (ByteArray × Bool × Int) := if 0 < (s.size : Int) then (if bt s 0 = 45 then (if 1 ≤ (s.size : Int) then some (s.extract 1 s.size, true, 0) else none) else some (s, false, 0)) else none
theorem plain_no (s : ByteArray) (hs : s.size ≤ 1152921504606846976) (hm : Lib.containsAny s.data.toList [46, 101, 69] = false) (d : Nat) : ∀ (i k : Nat), i + d = s.size → d < k → quarryref12_Plain.l0 k s (i : Int) = plainEnd s := by
  induction d with
  | zero =>
    intro i k hi hk
    obtain ⟨k, rfl⟩ : ∃ m, k = m + 1 := ⟨k - 1, by omega⟩
    rw [quarryref12_Plain.l0, if_neg (by omega)]
    rfl
  | succ d ih =>
    intro i k hi hk
    obtain ⟨k, rfl⟩ : ∃ m, k = m + 1 := ⟨k - 1, by omega⟩
    obtain ⟨h1, h2, h3⟩ := no_mark hm i (by omega)
    rw [quarryref12_Plain.l0, if_pos (by omega), if_pos (by omega), if_neg h1, if_neg h2, if_neg h3, w_succ (by omega)]
    exact ih (i + 1) k (by omega) (by omega)
theorem a_mark {s : ByteArray} (hm : Lib.containsAny s.data.toList [46, 101, 69] = true) : ∃ j, j < s.size ∧ (bt s (j : Int) = 46 ∨ bt s (j : Int) = 101 ∨ bt s (j : Int) = 69) := by
  apply Classical.byContradiction
  intro hn
  have hno : Lib.NoAny s.data.toList [46, 101, 69] s.data.toList.length := by
    intro j b hj hb
    cases hc : ([46, 101, 69] : List UInt8).contains b with
    | false => rfl
    | true =>
      exfalso
      obtain ⟨hl, hbt⟩ := Whole.byte_at hb
      apply hn
      refine ⟨j, hl, ?_⟩
      rw [← hbt]
      simp at hc
      rcases hc with rfl | rfl | rfl
      · exact .inl rfl
      · exact .inr (.inl rfl)
      · exact .inr (.inr rfl)
  unfold Lib.containsAny at hm
  rw [Lib.indexAny_none hno] at hm
  exact absurd hm (by decide)
theorem plain_yes (s : ByteArray) (hs : s.size ≤ 1152921504606846976) (j : Nat) (hj : j < s.size) (hb : bt s (j : Int) = 46 ∨ bt s (j : Int) = 101 ∨ bt s (j : Int) = 69) (d : Nat) : ∀ (i k : Nat), i + d = j → d < k → quarryref12_Plain.l0 k s (i : Int) = some (⟨#[]⟩, false, 120) := by
  induction d with
  | zero =>
    intro i k hi hk
    obtain ⟨k, rfl⟩ : ∃ m, k = m + 1 := ⟨k - 1, by omega⟩
    obtain rfl : i = j := by omega
    rw [quarryref12_Plain.l0, if_pos (by omega), if_pos (by omega)]
    by_cases h1 : bt s (i : Int) = 46
    · rw [if_pos h1]
    · rw [if_neg h1]
      by_cases h2 : bt s (i : Int) = 101
      · rw [if_pos h2]
      · rw [if_neg h2, if_pos (by rcases hb with h | h | h <;> first | exact absurd h h1 | exact absurd h h2 | exact h)]
  | succ d ih =>
    intro i k hi hk
    obtain ⟨k, rfl⟩ : ∃ m, k = m + 1 := ⟨k - 1, by omega⟩
    have hn := ih (i + 1) k (by omega) (by omega)
    rw [quarryref12_Plain.l0, if_pos (by omega), if_pos (by omega), w_succ (by omega), hn]
    split
    · rfl
    · split
      · rfl
      · split <;> rfl
theorem plain_end (s : ByteArray) (hc : Canon (digitsOf s)) : ∃ X : ByteArray, plainEnd s = some (X, minus s, 0) ∧ X.data.toList = digitsOf s := by
  have hpos : 0 < s.size := by
    have h := hc.2.1
    unfold digitsOf at h
    have : s.data.toList ≠ [] := by
      intro e
      rw [e] at h
      simp at h
    exact List.length_pos_iff.2 this
  unfold plainEnd
  rw [if_pos (by omega)]
  unfold digitsOf startOf minus isAt
  rw [decide_eq_true hpos, Bool.true_and, Bool.or_self]
  by_cases h : bt s 0 = 45
  · rw [if_pos h, if_pos (by omega)]
    refine ⟨_, by rw [show ((0 : Nat) : Int) = 0 from rfl, decide_eq_true h], ?_⟩
    rw [show ((0 : Nat) : Int) = 0 from rfl, decide_eq_true h, if_pos rfl, Lib.extract_data]
    exact List.take_of_length_le (by rw [List.length_drop]; exact Nat.le_refl _)
  · rw [if_neg h]
    refine ⟨_, by rw [show ((0 : Nat) : Int) = 0 from rfl, decide_eq_false h], ?_⟩
    rw [show ((0 : Nat) : Int) = 0 from rfl, decide_eq_false h, if_neg (by decide), List.drop_zero]
theorem worth_l0 (X : ByteArray) (hX : X.size ≤ 1152921504606846976) (hd : Dgs X.data.toList) (d : Nat) : ∀ (i k : Nat) (n : Int), i + d = X.size → d < k → 0 ≤ n → worthFrom (X.data.toList.drop i) n < 18446744073709551616 →
    quarryref12_worth.l0 k X n (i : Int) = some (worthFrom (X.data.toList.drop i) n) := by
  induction d with
  | zero =>
    intro i k n hi hk h0 h1
    obtain ⟨k, rfl⟩ : ∃ m, k = m + 1 := ⟨k - 1, by omega⟩
    rw [quarryref12_worth.l0, if_neg (by omega), show X.data.toList.drop i = [] from List.drop_eq_nil_of_le (show X.size ≤ i by omega), worthFrom]
  | succ d ih =>
    intro i k n hi hk h0 h1
    obtain ⟨k, rfl⟩ : ∃ m, k = m + 1 := ⟨k - 1, by omega⟩
    have hl : i < X.data.toList.length := show i < X.size by omega
    have hdr := List.drop_eq_getElem_cons hl
    obtain ⟨_, hb⟩ := Whole.byte_at (s := X) (j := i) (b := X.data.toList[i]) (List.getElem?_eq_getElem hl)
    have hc := hd _ (List.getElem_mem hl)
    rw [hdr, worthFrom] at h1 ⊢
    generalize X.data.toList[i] = c at *
    have hdv : 0 ≤ dv c := by unfold dv; omega
    have hge := worthFrom_ge (X.data.toList.drop (i + 1)) (fun x hx => hd x (List.mem_of_mem_drop hx)) (n * 10 + dv c) (by omega)
    have e1 : IntKind.u64.wrap (n * 10) = n * 10 := IntWalk.u64_in _ (by omega)
    have e2 : (bt X (i : Int) - 48) % 256 = dv c := by rw [← hb]; unfold dv; omega
    have e3 : IntKind.u64.wrap (n * 10 + dv c) = n * 10 + dv c := IntWalk.u64_in _ (by omega)
    rw [quarryref12_worth.l0, if_pos (by omega), if_pos (by omega), w_succ (by omega), e1, e2, e3]
    exact ih (i + 1) k _ (by omega) (by omega) (by omega) h1
theorem worth_is (X : ByteArray) (hX : X.size ≤ 1152921504606846976) (hd : Dgs X.data.toList) (k : Nat) (hk : X.size < k) (h : worth X.data.toList < 18446744073709551616) : quarryref12_worth.f k X = some (worth X.data.toList) := by
  unfold quarryref12_worth.f
  have := worth_l0 X hX hd X.size 0 k 0 (by omega) hk (Int.le_refl _) (by rw [List.drop_zero]; exact h)
  rw [List.drop_zero] at this
  exact this
theorem above_is (X : ByteArray) (hc : Canon X.data.toList) (m : Nat) : quarryref12_above.f X ⟨(Lib.decDigits m).toArray⟩ = some (decide ((m : Int) < worth X.data.toList)) := by
  have h := above_list X.data.toList (Lib.decDigits m) hc (dec_canon m)
  rw [worth_dec m m (Nat.le_refl _)] at h
  have hs : (⟨(Lib.decDigits m).toArray⟩ : ByteArray).size = (Lib.decDigits m).length := by
    show (Lib.decDigits m).toArray.size = _
    simp
  have hx : X.size = X.data.toList.length := rfl
  unfold quarryref12_above.f
  rw [Lib.toList_data, Lib.toList_data, hs, ← h]
  by_cases e : X.data.toList.length = (Lib.decDigits m).length
  · rw [if_pos (by omega), if_pos e]
  · rw [if_neg (by omega), if_neg e]
    congr 1
    rw [decide_eq_decide]
    omega
end Go.Proofs.YtkjmbibnfohkjaaDoor.PWholeUints

/- WholeUints: for every text and every type without a sign, Uint tells what the document says. No condition. -/
namespace Go.Proofs.YtkjmbibnfohkjaaDoor.PWholeUints
open Go.RowKit Go.Proofs.YtkjmbibnfohkjaaDoorW.PrintWords Go.Proofs.YtkjmbibnfohkjaaDoorW.PrintLast Go.Proofs.YtkjmbibnfohkjaaDoorW.PrintMore Go.Proofs.YtkjmbibnfohkjaaDoor.Dec Go.Proofs.YtkjmbibnfohkjaaDoor.Reader Go.Proofs.YtkjmbibnfohkjaaDoor.Whole
theorem fmt_nat (m : Nat) (h : m < 18446744073709551616) : strconv_FormatUint.f (m : Int) 10 = some ⟨(Lib.decDigits m).toArray⟩ := by
  unfold strconv_FormatUint.f
  rw [if_pos ⟨⟨by omega, by omega⟩, rfl⟩, Int.toNat_natCast]
theorem plain_is (s : ByteArray) (hs : s.size ≤ 140737488355328) (k : Nat) (hk : 3 * s.size + 20 < k) :
    (∃ e, (∀ lo hi, wholeR lo hi s = (0, e)) ∧ e ≠ 0 ∧ quarryref12_Plain.f k s = some (⟨#[]⟩, false, e)) ∨
    (∃ X : ByteArray, quarryref12_Plain.f k s = some (X, minus s, 0) ∧ X.data.toList = digitsOf s ∧ Canon (digitsOf s) ∧ X.size ≤ s.size ∧ ∀ lo hi, lo ≤ 0 → 0 ≤ hi → wholeR lo hi s = if lo ≤ valueOf s ∧ valueOf s ≤ hi then (valueOf s, 0) else (0, 121)) := by
  unfold quarryref12_Plain.f
  rw [ref_of s hs k hk, Option.bind_some]
  rcases way s with ⟨h, hw⟩ | ⟨h, hm, hw⟩ | ⟨h, hm, hc, hw⟩
  · exact .inl ⟨110, hw, by decide, by rw [if_pos h]⟩
  · obtain ⟨j, hj, hb⟩ := a_mark hm
    refine .inl ⟨120, hw, by decide, ?_⟩
    rw [if_neg h]
    exact plain_yes s (by omega) j hj hb j 0 k (by omega) (by omega)
  · obtain ⟨X, h1, h2⟩ := plain_end s hc
    refine .inr ⟨X, ?_, h2, hc, ?_, hw⟩
    · rw [if_neg h, ← h1]
      exact plain_no s (by omega) hm s.size 0 k (by omega) (by omega)
    · show X.data.toList.length ≤ s.data.toList.length
      rw [h2]
      unfold digitsOf
      rw [List.length_drop]
      omega
theorem uint_end (X : ByteArray) (hX : X.size ≤ 140737488355328) (hc : Canon X.data.toList) (p : Nat) (k : Nat) (hk : X.size < k) (hp : p < 18446744073709551616) :
    ((strconv_FormatUint.f (p : Int) 10).bind fun t => ((quarryref12_above.f X t).bind fun u => (if u = true then (some ((0 : Int), (121 : Int))) else ((quarryref12_worth.f k X).bind fun v => (some (v, (0 : Int))))))) =
      some (if worth X.data.toList ≤ (p : Int) then (worth X.data.toList, 0) else (0, 121)) := by
  rw [fmt_nat p hp, Option.bind_some, above_is X hc p, Option.bind_some]
  by_cases h : (p : Int) < worth X.data.toList
  · rw [decide_eq_true h, if_pos rfl, if_neg (by omega)]
  · rw [decide_eq_false h, if_neg (by decide), if_pos (by omega), worth_is X (by omega) hc.1 k hk (by omega), Option.bind_some]
theorem zero_is {l : List UInt8} (hc : Canon l) : l = [48] ↔ worth l = 0 := by
  constructor
  · rintro rfl
    decide
  · intro h
    have := canon_dec l.length l rfl hc
    rw [h, show (0 : Int).toNat = 0 from rfl, Lib.decDigits, dif_pos (by decide)] at this
    exact this.symm
theorem ref_uint (s : ByteArray) (hs : s.size ≤ 140737488355328) (k : Nat) (hk : 3 * s.size + 20 < k) (bits : Int) (p : Nat) (hp : p < 18446744073709551616) (h0 : (0 : Int) ≤ IntKind.u64.wrap bits)
    (h2 : IntKind.u64.wrap ((shl .u64 1 (IntKind.u64.wrap bits)) - 1) = (p : Int)) :
    quarryref12_Uint.f k s bits = some (wholeR 0 (p : Int) s) := by
  unfold quarryref12_Uint.f
  rcases plain_is s hs k hk with ⟨e, hw, he, hpl⟩ | ⟨X, hpl, hx, hc, hsz, hw⟩
  · rw [hpl, Option.bind_some, if_neg he, hw]
  · have hcX : Canon X.data.toList := by rw [hx]; exact hc
    have hend := uint_end X (by omega) hcX p k (by omega) hp
    have hz := zero_is hcX
    rw [hpl, Option.bind_some, if_pos rfl, if_pos h0, h2, hend, hw _ _ (Int.le_refl _) (by omega)]
    have hn := worth_nonneg _ hcX.1
    unfold valueOf sgn
    simp only
    rw [← hx, Lib.toList_data]
    cases minus s
    · simp only [Bool.false_eq_true, if_false]
      generalize worth X.data.toList = W at *
      by_cases h : W ≤ (p : Int)
      · rw [if_pos h, if_pos (by omega)]
      · rw [if_neg h, if_neg (by omega)]
    · simp only [if_true]
      by_cases h48 : X.data.toList = [48]
      · rw [if_pos h48, hz.1 h48, if_pos (by omega), if_pos (by omega)]
        rfl
      · have hne : worth X.data.toList ≠ 0 := fun e => h48 (hz.2 e)
        rw [if_neg h48, if_neg (by omega)]
end Go.Proofs.YtkjmbibnfohkjaaDoor.PWholeUints
namespace Go.Proofs.YtkjmbibnfohkjaaDoor.Pure
open Go.RowKit Go.Proofs.YtkjmbibnfohkjaaDoor.PWholeUints Go.Proofs.YtkjmbibnfohkjaaDoorW.PrintWords Go.Proofs.YtkjmbibnfohkjaaDoorW.PrintLast Go.Proofs.YtkjmbibnfohkjaaDoorW.PrintMore Go.Proofs.YtkjmbibnfohkjaaDoor.Dec Go.Proofs.YtkjmbibnfohkjaaDoor.Reader Go.Proofs.YtkjmbibnfohkjaaDoor.Whole
theorem wholeR_in (lo hi : Int) (s : ByteArray) (h0 : lo ≤ 0) (h1 : 0 ≤ hi) : lo ≤ (wholeR lo hi s).1 ∧ (wholeR lo hi s).1 ≤ hi := by
  rcases way s with ⟨h, hw⟩ | ⟨h, hm, hw⟩ | ⟨h, hm, hc, hw⟩
  · rw [hw]; exact ⟨h0, h1⟩
  · rw [hw]; exact ⟨h0, h1⟩
  · rw [hw lo hi h0 h1]
    split
    · rename_i h; exact h
    · exact ⟨h0, h1⟩
theorem awake_is : quarrylaw12_awake.f = some true := by
  unfold quarrylaw12_awake.f whole_Int_int8.f
  rw [if_pos (by decide), show wholeR (-128) 127 (⟨#[45, 49, 50, 56]⟩ : ByteArray) = (-128, 0) from by decide +kernel]
  rfl
theorem read_same (a b : Int) : quarrylaw12_same.f a b a b = some true := by
  unfold quarrylaw12_same.f
  rw [if_pos rfl, beq_self_eq_true]
/- ∀ (a0 : ByteArray), .. → ∃ k, quarrylaw12_WholeUints.f k a0 = some true -/
theorem WholeUints : quarrylaw12_WholeUints.Pure := by
  intro s hs
  have hsz : s.size ≤ 140737488355328 := by omega
  refine ⟨3 * s.size + 30, ?_⟩
  generalize hk : 3 * s.size + 30 = k
  have hk' : 3 * s.size + 20 < k := by omega
  have r8 := ref_uint s hsz k hk' 8 255 (by decide) (by decide +kernel) (by decide +kernel)
  have r16 := ref_uint s hsz k hk' 16 65535 (by decide) (by decide +kernel) (by decide +kernel)
  have r32 := ref_uint s hsz k hk' 32 4294967295 (by decide) (by decide +kernel) (by decide +kernel)
  have r64 := ref_uint s hsz k hk' 64 18446744073709551615 (by decide) (by decide +kernel) (by decide +kernel)
  have f1 : whole_Uint_uint8.f s = some (wholeR 0 255 s) := if_pos hsz
  have f2 : whole_Uint_Byte.f s = some (wholeR 0 255 s) := if_pos hsz
  have f3 : whole_Uint_uint16.f s = some (wholeR 0 65535 s) := if_pos hsz
  have f4 : whole_Uint_uint32.f s = some (wholeR 0 4294967295 s) := if_pos hsz
  have f5 : whole_Uint_uint64.f s = some (wholeR 0 18446744073709551615 s) := if_pos hsz
  have f6 : whole_Uint_uint.f s = some (wholeR 0 18446744073709551615 s) := if_pos hsz
  have f7 : whole_Uint_Long.f s = some (wholeR 0 18446744073709551615 s) := if_pos hsz
  have b8 := wholeR_in 0 255 s (by decide) (by decide)
  have b16 := wholeR_in 0 65535 s (by decide) (by decide)
  have b32 := wholeR_in 0 4294967295 s (by decide) (by decide)
  rw [show ((255 : Nat) : Int) = 255 from rfl] at r8
  rw [show ((65535 : Nat) : Int) = 65535 from rfl] at r16
  rw [show ((4294967295 : Nat) : Int) = 4294967295 from rfl] at r32
  rw [show ((18446744073709551615 : Nat) : Int) = 18446744073709551615 from rfl] at r64
  generalize wholeR 0 255 s = v8 at *
  generalize wholeR 0 65535 s = v16 at *
  generalize wholeR 0 4294967295 s = v32 at *
  generalize wholeR 0 18446744073709551615 s = v64 at *
  have w8 : IntKind.u64.wrap v8.1 = v8.1 := IntWalk.u64_in _ (by omega)
  have w16 : IntKind.u64.wrap v16.1 = v16.1 := IntWalk.u64_in _ (by omega)
  have w32 : IntKind.u64.wrap v32.1 = v32.1 := IntWalk.u64_in _ (by omega)
  unfold quarrylaw12_WholeUints.f
  rw [f1, Option.bind_some, r8, Option.bind_some, w8, read_same, Option.bind_some, if_pos rfl, f2, Option.bind_some, w8, read_same, Option.bind_some, if_pos rfl,
    f3, Option.bind_some, r16, Option.bind_some, w16, read_same, Option.bind_some, if_pos rfl,
    f4, Option.bind_some, r32, Option.bind_some, w32, read_same, Option.bind_some, if_pos rfl,
    r64, Option.bind_some, f5, Option.bind_some, read_same, Option.bind_some, if_pos rfl, f6, Option.bind_some, read_same, Option.bind_some, if_pos rfl, f7, Option.bind_some, read_same, Option.bind_some, if_pos rfl, awake_is, Option.bind_some]
end Go.Proofs.YtkjmbibnfohkjaaDoor.Pure
