/- The document's Read, as it is printed, is what decimal.Read tells. Plain Lean over the printed functions. -/
import Derived.Test.YtplokhniibdniaaDoorStatDecimalIs
import Derived.Test.YtplokhniibdniaaDoorDecNum
import Derived.Test.YtplokhniibdniaaDoorReadIs
import Derived.Lib.Strings
namespace Go.Proofs.YtplokhniibdniaaDoor.PDecimalIs
open Go.RowKit Go.Proofs.YtplokhniibdniaaDoorW.PrintWords Go.Proofs.YtplokhniibdniaaDoorW.PrintLast Go.Proofs.YtplokhniibdniaaDoorW.PrintMore Go.Proofs.YtplokhniibdniaaDoor.Dec Go.Proofs.YtplokhniibdniaaDoor.Reader

theorem w_succ {n : Nat} (h : n ≤ 1152921504606846980) : wrap64 ((n : Int) + 1) = ((n + 1 : Nat) : Int) := by
  unfold wrap64
  omega
theorem ref_digit (s : ByteArray) (i : Nat) : quarryref11_digit.f s (i : Int) = some (dg s i) := by
  unfold quarryref11_digit.f dg isDig
  by_cases h : i < s.size
  · rw [if_pos (by omega), if_pos (by omega), decide_eq_true h, Bool.true_and]
    by_cases h2 : 48 ≤ bt s (i : Int)
    · rw [if_pos h2, decide_eq_true h2, Bool.true_and]
    · rw [if_neg h2, decide_eq_false h2, Bool.false_and]
  · rw [if_neg (by omega), decide_eq_false h, Bool.false_and]
theorem ref_is (s : ByteArray) (i : Nat) (x y : Int) : quarryref11_is.f s (i : Int) x y = some (isAt s i x y) := by
  unfold quarryref11_is.f isAt
  by_cases h : i < s.size
  · rw [if_pos (by omega), if_pos (by omega), decide_eq_true h, Bool.true_and]
    by_cases h2 : bt s (i : Int) = x
    · rw [if_pos h2, decide_eq_true h2, Bool.true_or]
    · rw [if_neg h2, decide_eq_false h2, Bool.false_or]
      congr 1
  · rw [if_neg (by omega), decide_eq_false h, Bool.false_and]
theorem ref_digits (s : ByteArray) (hs : s.size ≤ 1152921504606846976) (n : Nat) : ∀ (k i : Nat), s.size - i = n → i ≤ s.size + 2 → n + 1 < k → quarryref11_digits.f k s (i : Int) = some ((dEnd s i : Nat) : Int) := by
  induction n with
  | zero =>
    intro k i hn hi hk
    obtain ⟨k, rfl⟩ : ∃ m, k = m + 1 := ⟨k - 1, by omega⟩
    have hd : dg s i = false := by
      unfold dg
      rw [decide_eq_false (by omega)]
      rfl
    unfold quarryref11_digits.f
    rw [quarryref11_digits.l0, ref_digit, Option.bind_some, hd, if_neg (by decide), dEnd_stop hd]
  | succ n ih =>
    intro k i hn hi hk
    obtain ⟨k, rfl⟩ : ∃ m, k = m + 1 := ⟨k - 1, by omega⟩
    unfold quarryref11_digits.f
    rw [quarryref11_digits.l0, ref_digit, Option.bind_some]
    by_cases hd : dg s i = true
    · rw [hd, if_pos rfl, w_succ (by omega), dEnd_step hd]
      exact ih k (i + 1) (by omega) (by omega) (by omega)
    · have hd' : dg s i = false := by simpa using hd
      rw [hd', if_neg (by decide), dEnd_stop hd']
theorem dEnd_same {s : ByteArray} {i : Nat} (h : dg s i = true) : dEnd s i ≠ i := by
  rw [dEnd_step h]
  have := dEnd_ge s (i + 1)
  omega
theorem all_dEnd (s : ByteArray) (i : Nat) : AllDg s i (dEnd s i) := fun _ h1 h2 => dEnd_dg h1 h2

/-- What the exponent's text holds. -/
def ExpText (s : ByteArray) (p : Parts) (X : ByteArray) : Prop := ∃ sg : List UInt8, X.data.toList = sg ++ piece s p.ea p.fin ∧ ((p.turned = true ∧ sg = [45]) ∨ (p.turned = false ∧ (sg = [] ∨ sg = [43]))) ∧ AllDg s p.ea p.fin
theorem piece_cons (s : ByteArray) {a b : Nat} (h : a < b) (hb : b ≤ s.size) : piece s a b = s.data.toList.getD a 0 :: piece s (a + 1) b := by
  rw [← piece_join s (show a ≤ a + 1 by omega) (show a + 1 ≤ b by omega), piece_snoc s (Nat.le_refl a) (by omega), piece_self]
  rfl
theorem byte_eq {s : ByteArray} {j : Nat} (hj : j < s.size) (c : UInt8) (h : bt s (j : Int) = (c.toNat : Int)) : s.data.toList.getD j 0 = c := by
  have := byte_bt s hj
  rw [h] at this
  exact UInt8.toNat_inj.1 (by omega)

theorem scan_j2 (s : ByteArray) (hs : s.size ≤ 1152921504606846976) (k bb : Nat) (hbb : bb ≤ s.size) (hk : s.size + 3 < k) (n : Bool) (W B : ByteArray) (wb ba : Nat) :
    ∃ X, quarryref11_scan.j2 k s (bb : Int) n W B ⟨#[]⟩ = some (n, W, B, X, ((expo s wb ba bb).fin : Int), (expo s wb ba bb).ok) ∧ ((expo s wb ba bb).ok = true → ExpText s (expo s wb ba bb) X) := by
  obtain ⟨k, rfl⟩ : ∃ m, k = m + 1 := ⟨k - 1, by omega⟩
  rw [quarryref11_scan.j2, ref_is, Option.bind_some]
  by_cases he : isAt s bb 101 69 = true
  · have hlt : bb < s.size := by
      unfold isAt at he
      simp at he
      exact he.1
    rw [he, if_pos rfl, w_succ (by omega), ref_is, Option.bind_some]
    by_cases ht : isAt s (bb + 1) 43 45 = true
    · have hlt2 : bb + 1 < s.size := by
        unfold isAt at ht
        simp at ht
        exact ht.1
      rw [ht, if_pos rfl, w_succ (by omega), show bb + 1 + 1 = bb + 2 from rfl, ref_digits s hs _ k (bb + 2) rfl (by omega) (by omega), Option.bind_some]
      have hge := dEnd_ge s (bb + 2)
      have hle := dEnd_le s (i := bb + 2) (by omega)
      by_cases hd : dg s (bb + 2) = true
      · have hne := dEnd_same hd
        rw [if_neg (by omega), if_pos (by omega), if_pos (by omega), if_pos (by omega)]
        obtain ⟨tu, htu⟩ : ∃ tu, Ea s bb (bb + 2) tu := ⟨_, by rw [if_pos ht], rfl⟩
        rw [expo_to he htu hd]
        refine ⟨_, by rw [← dEnd_step hd], fun _ => ?_⟩
        refine ⟨[s.data.toList.getD (bb + 1) 0], ?_, ?_, ?_⟩
        · simp only
          rw [Lib.extract_data]
          show piece s ((bb + 1 : Nat) : Int).toNat ((dEnd s (bb + 2) : Nat) : Int).toNat = _
          rw [Int.toNat_natCast, Int.toNat_natCast, ← dEnd_step hd, piece_cons s (by omega) hle]
          rfl
        · have h2 := htu.2
          rw [ht, Bool.true_and] at h2
          unfold isAt at ht
          rw [decide_eq_true hlt2, Bool.true_and, Bool.or_eq_true] at ht
          by_cases hm : bt s ((bb + 1 : Nat) : Int) = 45
          · left
            rw [decide_eq_true hm] at h2
            exact ⟨h2, by rw [byte_eq hlt2 45 hm]⟩
          · right
            rw [decide_eq_false hm] at h2
            have hp : bt s ((bb + 1 : Nat) : Int) = 43 := by
              rcases ht with h | h
              · exact of_decide_eq_true h
              · exact absurd (of_decide_eq_true h) hm
            exact ⟨h2, .inr (by rw [byte_eq hlt2 43 hp])⟩
        · simp only
          rw [← dEnd_step hd]
          exact all_dEnd s _
      · have hd' : dg s (bb + 2) = false := by simpa using hd
        have e := dEnd_stop hd'
        rw [if_pos (by rw [e])]
        obtain ⟨tu, htu⟩ : ∃ tu, Ea s bb (bb + 2) tu := ⟨_, by rw [if_pos ht], rfl⟩
        rw [expo_no he htu hd']
        exact ⟨_, by rw [e], fun h => by cases h⟩
    · have ht' : isAt s (bb + 1) 43 45 = false := by simpa using ht
      rw [ht', if_neg (by decide), ref_digits s hs _ k (bb + 1) rfl (by omega) (by omega), Option.bind_some]
      have hge := dEnd_ge s (bb + 1)
      have hle := dEnd_le s (i := bb + 1) (by omega)
      by_cases hd : dg s (bb + 1) = true
      · have hne := dEnd_same hd
        rw [if_neg (by omega), if_pos (by omega), if_pos (by omega), if_pos (by omega), expo_to he (ea_none ht') hd]
        refine ⟨_, by rw [← dEnd_step hd], fun _ => ?_⟩
        refine ⟨[], ?_, .inr ⟨rfl, .inl rfl⟩, ?_⟩
        · simp only
          rw [Lib.extract_data]
          show piece s ((bb + 1 : Nat) : Int).toNat ((dEnd s (bb + 1) : Nat) : Int).toNat = _
          rw [Int.toNat_natCast, Int.toNat_natCast, ← dEnd_step hd]
          rfl
        · simp only
          rw [← dEnd_step hd]
          exact all_dEnd s _
      · have hd' : dg s (bb + 1) = false := by simpa using hd
        have e := dEnd_stop hd'
        rw [if_pos (by rw [e]), expo_no he (ea_none ht') hd']
        exact ⟨_, by rw [e], fun h => by cases h⟩
  · have he' : isAt s bb 101 69 = false := by simpa using he
    rw [he', if_neg (by decide), expo_none he']
    exact ⟨_, rfl, fun _ => ⟨[], by rw [piece_self]; rfl, .inr ⟨rfl, .inl rfl⟩, AllDg.nil s _⟩⟩

theorem expo_parts_wb (s : ByteArray) (wb ba bb : Nat) : (expo s wb ba bb).wb = wb ∧ (expo s wb ba bb).ba = ba ∧ (expo s wb ba bb).bb = bb := expo_parts s wb ba bb

theorem scan_j1 (s : ByteArray) (hs : s.size ≤ 1152921504606846976) (k a wb : Nat) (ha : a ≤ wb) (hwb : wb ≤ s.size) (hk : s.size + 4 < k) (n : Bool) :
    ∃ W B X, quarryref11_scan.j1 k s (a : Int) (wb : Int) n ⟨#[]⟩ ⟨#[]⟩ ⟨#[]⟩ = some (n, W, B, X, ((point s wb).fin : Int), (point s wb).ok) ∧
      ((point s wb).ok = true → W.data.toList = piece s a (point s wb).wb ∧ B.data.toList = piece s (point s wb).ba (point s wb).bb ∧ ExpText s (point s wb) X) := by
  obtain ⟨k, rfl⟩ : ∃ m, k = m + 1 := ⟨k - 1, by omega⟩
  rw [quarryref11_scan.j1, if_pos (by omega), if_pos (by omega), if_pos (by omega), ref_is, Option.bind_some]
  have hW : (s.extract (a : Int).toNat (wb : Int).toNat).data.toList = piece s a wb := by
    rw [Lib.extract_data, Int.toNat_natCast, Int.toNat_natCast]
    rfl
  by_cases he : isAt s wb 46 46 = true
  · have hlt : wb < s.size := by
      unfold isAt at he
      simp at he
      exact he.1
    rw [he, if_pos rfl, w_succ (by omega), ref_digits s hs _ k (wb + 1) rfl (by omega) (by omega), Option.bind_some]
    have hge := dEnd_ge s (wb + 1)
    have hle := dEnd_le s (i := wb + 1) (by omega)
    by_cases hd : dg s (wb + 1) = true
    · have hne := dEnd_same hd
      rw [if_neg (by omega), if_pos (by omega), if_pos (by omega), if_pos (by omega)]
      have hp : point s wb = expo s wb (wb + 1) (dEnd s (wb + 1)) := by
        unfold point
        rw [if_pos he, if_pos hd, dEnd_step hd]
      rw [hp]
      obtain ⟨X, hX, hE⟩ := scan_j2 s hs k (dEnd s (wb + 1)) hle (by omega) n (s.extract (a : Int).toNat (wb : Int).toNat) (s.extract ((wb + 1 : Nat) : Int).toNat ((dEnd s (wb + 1) : Nat) : Int).toNat) wb (wb + 1)
      refine ⟨_, _, X, hX, fun hok => ⟨?_, ?_, hE hok⟩⟩
      · rw [(expo_parts s _ _ _).1]; exact hW
      · rw [(expo_parts s _ _ _).2.1, (expo_parts s _ _ _).2.2, Lib.extract_data, Int.toNat_natCast, Int.toNat_natCast]
        rfl
    · have hd' : dg s (wb + 1) = false := by simpa using hd
      have e := dEnd_stop hd'
      rw [if_pos (by rw [e])]
      have hp : point s wb = ⟨false, wb + 1, wb, wb + 1, wb + 1, wb + 1, false⟩ := by
        unfold point
        rw [if_pos he, if_neg hd]
      rw [hp]
      exact ⟨_, _, _, by rw [e], fun h => by cases h⟩
  · have he' : isAt s wb 46 46 = false := by simpa using he
    rw [he', if_neg (by decide)]
    have hp : point s wb = expo s wb wb wb := by
      unfold point
      rw [if_neg he]
    rw [hp]
    obtain ⟨X, hX, hE⟩ := scan_j2 s hs k wb hwb (by omega) n (s.extract (a : Int).toNat (wb : Int).toNat) ⟨#[]⟩ wb wb
    refine ⟨_, _, X, hX, fun hok => ⟨?_, ?_, hE hok⟩⟩
    · rw [(expo_parts s _ _ _).1]; exact hW
    · rw [(expo_parts s _ _ _).2.1, (expo_parts s _ _ _).2.2, piece_self]

theorem scan_j0 (s : ByteArray) (hs : s.size ≤ 1152921504606846976) (k a : Nat) (ha : a ≤ s.size + 1) (hk : s.size + 5 < k) (n : Bool) :
    ∃ W B X, quarryref11_scan.j0 k s (a : Int) n ⟨#[]⟩ ⟨#[]⟩ ⟨#[]⟩ = some (n, W, B, X, ((partsOf s a).fin : Int), (partsOf s a).ok) ∧
      ((partsOf s a).ok = true → W.data.toList = piece s a (partsOf s a).wb ∧ B.data.toList = piece s (partsOf s a).ba (partsOf s a).bb ∧ ExpText s (partsOf s a) X) := by
  obtain ⟨k, rfl⟩ : ∃ m, k = m + 1 := ⟨k - 1, by omega⟩
  rw [quarryref11_scan.j0, ref_digit, Option.bind_some]
  by_cases hd : dg s a = true
  · have hlt := dg_lt hd
    rw [hd, if_pos rfl, ref_digits s hs _ k a rfl (by omega) (by omega), Option.bind_some, if_pos (by omega), if_pos (by omega)]
    by_cases h48 : bt s (a : Int) = 48
    · have hp : partsOf s a = point s (a + 1) := by
        unfold partsOf
        rw [if_pos hd, if_pos h48]
      rw [if_pos h48, hp, w_succ (by omega)]
      exact scan_j1 s hs k a (a + 1) (by omega) (by omega) (by omega) n
    · have hp : partsOf s a = point s (dEnd s a) := by
        unfold partsOf
        rw [if_pos hd, if_neg h48, dEnd_step hd]
      rw [if_neg h48, hp]
      exact scan_j1 s hs k a (dEnd s a) (dEnd_ge s a) (dEnd_le s (by omega)) (by omega) n
  · have hd' : dg s a = false := by simpa using hd
    have hp : partsOf s a = ⟨false, a, a, a, a, a, false⟩ := by
      unfold partsOf
      rw [if_neg hd]
    rw [hd', if_neg (by decide), hp]
    exact ⟨_, _, _, rfl, fun h => by cases h⟩
theorem scan_is (s : ByteArray) (hs : s.size ≤ 1152921504606846976) (k i : Nat) (hi : i ≤ s.size) (hk : s.size + 5 < k) :
    ∃ W B X, quarryref11_scan.f k s (i : Int) = some (isAt s i 45 45, W, B, X, ((partsOf s (startOf s i)).fin : Int), (partsOf s (startOf s i)).ok) ∧
      ((partsOf s (startOf s i)).ok = true → W.data.toList = piece s (startOf s i) (partsOf s (startOf s i)).wb ∧ B.data.toList = piece s (partsOf s (startOf s i)).ba (partsOf s (startOf s i)).bb ∧ ExpText s (partsOf s (startOf s i)) X) := by
  unfold quarryref11_scan.f
  rw [ref_is, Option.bind_some]
  by_cases h : isAt s i 45 45 = true
  · have e : startOf s i = i + 1 := by
      unfold startOf
      rw [if_pos h]
    rw [h, if_pos rfl, w_succ (by omega), e]
    exact scan_j0 s hs k (i + 1) (by omega) hk true
  · have h' : isAt s i 45 45 = false := by simpa using h
    have e : startOf s i = i := by
      unfold startOf
      rw [if_neg h]
    rw [h', if_neg (by decide), e]
    exact scan_j0 s hs k i (by omega) hk false
end Go.Proofs.YtplokhniibdniaaDoor.PDecimalIs
