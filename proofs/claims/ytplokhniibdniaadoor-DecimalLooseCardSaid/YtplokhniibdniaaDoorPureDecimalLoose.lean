/- DecimalLoose: a decimal that is written with noughts, with a point, with noughts in the exponent is read as the same. No condition. -/
import Derived.Test.YtplokhniibdniaaDoorDecimalLooseOfIs
import Derived.Test.YtplokhniibdniaaDoorDecimalLooseFormed
import Derived.Test.YtplokhniibdniaaDoorLooseDef
namespace Go.Proofs.YtplokhniibdniaaDoor.Pure
open Go.RowKit Go.Proofs.YtplokhniibdniaaDoor.PDecimalLoose Go.Proofs.YtplokhniibdniaaDoorW.PrintWords Go.Proofs.YtplokhniibdniaaDoorW.PrintLast Go.Proofs.YtplokhniibdniaaDoorW.PrintMore Go.Proofs.YtplokhniibdniaaDoor.Dec Go.Proofs.YtplokhniibdniaaDoor.Reader

/-- So many noughts. -/
def zs (n : Nat) : ByteArray := ⟨(List.replicate n 48).toArray⟩
theorem zs_list (n : Nat) : (zs n).data.toList = List.replicate n 48 := by
  unfold zs
  simp
theorem zs_size (n : Nat) : (zs n).size = n := by
  show (zs n).data.toList.length = n
  rw [zs_list, List.length_replicate]
theorem app_list (a b : ByteArray) : (a ++ b).data.toList = a.data.toList ++ b.data.toList := by simp
theorem bytes_eq {a b : ByteArray} (h : a.data.toList = b.data.toList) : a = b := by
  apply ByteArray.ext
  exact Array.toList_inj.1 h
theorem pick_is (i n : Int) (h0 : 0 < n) (h1 : n < 4611686018427387903) : ∃ m : Int, quarrykit_Pick.f i n = some m ∧ 0 ≤ m ∧ m < n := by
  unfold quarrykit_Pick.f
  have a1 := Int.tmod_lt_of_pos i h0
  have a3 := Int.lt_tmod_of_pos i h0
  rw [if_neg (by omega)]
  by_cases h : Int.tmod i n < 0
  · rw [if_pos h]
    refine ⟨_, rfl, ?_⟩
    unfold wrap64
    omega
  · rw [if_neg h]
    exact ⟨_, rfl, by omega, by omega⟩
theorem zeros_loop (n : Nat) (hn : n ≤ 8) : ∀ (d i k : Nat) (x : ByteArray), i + d = n → x.size = i → d < k → quarrylaw11_zeros.l0 k (n : Int) x (i : Int) = some (x ++ zs d)
  | 0, i, k, x, h, _, hk => by
    obtain ⟨k, rfl⟩ : ∃ m, k = m + 1 := ⟨k - 1, by omega⟩
    rw [quarrylaw11_zeros.l0, if_neg (by omega)]
    congr 1
    apply bytes_eq
    rw [app_list, zs_list]
    simp
  | d + 1, i, k, x, h, hx, hk => by
    obtain ⟨k, rfl⟩ : ∃ m, k = m + 1 := ⟨k - 1, by omega⟩
    have e : wrap64 ((i : Int) + 1) = ((i + 1 : Nat) : Int) := by
      unfold wrap64
      omega
    rw [quarrylaw11_zeros.l0, if_pos (by omega), if_pos (by omega), e, zeros_loop n hn d (i + 1) k _ (by omega) (by rw [app_size, one_size, hx]) (by omega)]
    congr 1
    apply bytes_eq
    rw [app_list, app_list, app_list, zs_list, zs_list, List.append_assoc]
    rfl
theorem zeros_is (n : Nat) (hn : n ≤ 8) (k : Nat) (hk : 9 < k) : quarrylaw11_zeros.f k (n : Int) = some (zs n) := by
  unfold quarrylaw11_zeros.f
  rw [show (0 : Int) = ((0 : Nat) : Int) from rfl, zeros_loop n hn n 0 k _ (by omega) rfl (by omega)]
  congr 1
theorem ten_byte (u : Nat) (_h : u ≤ 4611686018427387903) : (strOfNums [(wrap64 (48 + Int.tmod (u : Int) 10)) % 256]).data.toList = [UInt8.ofNat (48 + u % 10)] := by
  have e : (wrap64 (48 + Int.tmod (u : Int) 10)) % 256 = ((48 + u % 10 : Nat) : Int) := by
    rw [show Int.tmod (u : Int) 10 = ((u % 10 : Nat) : Int) from by rw [Int.tmod_eq_emod_of_nonneg (by omega)]; omega]
    unfold wrap64
    omega
  rw [e]
  rfl
section
variable {neg : Bool} {s V x12 : ByteArray} {e x : Int} {W F B sx : List UInt8} {c : UInt8} {tu : Bool} {n : Nat}
/-- The last of the row, the digits of the exponent put ahead one for one. -/
theorem tens_loop (hn8 : n ≤ 8) (hV : V.data.toList = (if neg = true then [45] else []) ++ (W ++ F)) (hVs : V.size ≤ 1000) (h12 : x12.data.toList = c :: sx) (h12s : x12.size ≤ 2)
    (hW : Digits W) (hW0 : W ≠ []) (hWn : W = [48] ∨ W.head? ≠ some 48) (hF : FracForm F B) (hc : c = 101 ∨ c = 69)
    (hsx : (sx = [] ∧ tu = false) ∨ (sx = [43] ∧ tu = false) ∨ (sx = [45] ∧ tu = true)) (hnum : numOf neg (W ++ B) B.length x = (neg, s, e, true)) (U : Nat) (hU : U ≤ 10000000000) (hx : (if tu = true then -(U : Int) else (U : Int)) = x) :
    ∀ (m u k : Nat) (y : ByteArray), u ≤ m → u ≤ U → tens U = tens u ++ y.data.toList → y.size + u ≤ 100000000000000 → m + 20 < k → quarrylaw11_DecimalLoose.l0 k (n : Int) (u : Int) V x12 y neg s e = some true := by
  have last : ∀ (k : Nat) (y : ByteArray), tens U = y.data.toList → y.size ≤ 100000000000000 → 20 < k → quarrylaw11_DecimalLoose.l0 k (n : Int) (0 : Int) V x12 y neg s e = some true := by
    intro k y hy hys hk
    obtain ⟨k, rfl⟩ : ∃ m, k = m + 1 := ⟨k - 1, by omega⟩
    have z1 := app_size V x12
    have z2 := app_size (V ++ x12) (zs n)
    have z3 := app_size (V ++ x12 ++ zs n) ⟨#[48]⟩
    have z4 := app_size (V ++ x12 ++ zs n ++ ⟨#[48]⟩) y
    have z5 := zs_size n
    have z6 := one_size 48
    have hr : readOf (V ++ x12 ++ zs n ++ ⟨#[48]⟩ ++ y) 0 = (neg, s, e, ((V ++ x12 ++ zs n ++ ⟨#[48]⟩ ++ y).size : Int), 0) := by
      refine loose_read (n := n) (T := y.data.toList) ?_ hW hW0 hWn hF hc hsx (by rw [← hy]; exact tens_digits U) (by rw [← hy, tens_sat U (by omega)]; exact hx) hnum
      rw [app_list, app_list, app_list, app_list, hV, h12, zs_list]
      simp
    have hof := of_is (V ++ x12 ++ zs n ++ ⟨#[48]⟩ ++ y) (by omega)
    have ho : ofR (neg, s, e, ((V ++ x12 ++ zs n ++ ⟨#[48]⟩ ++ y).size : Int), 0) (V ++ x12 ++ zs n ++ ⟨#[48]⟩ ++ y).size = (neg, s, e, 0) := by
      unfold ofR
      rw [if_neg (show ¬ (0 : Int) = 110 from by decide), if_neg (by simp)]
    rw [hr, ho] at hof
    rw [quarrylaw11_DecimalLoose.l0, if_neg (by decide), if_pos (by omega), zeros_is n hn8 k (by omega), Option.bind_some, if_pos (by omega), if_pos (by omega), if_pos (by omega), hof, Option.bind_some]
    simp
  intro m
  induction m with
  | zero =>
    intro u k y hu _ hy hys hk
    obtain rfl : u = 0 := by omega
    exact last k y hy (by omega) (by omega)
  | succ m ih =>
    intro u k y hu huU hy hys hk
    by_cases h0 : u = 0
    · subst h0
      exact last k y hy (by omega) (by omega)
    · obtain ⟨k, rfl⟩ : ∃ m, k = m + 1 := ⟨k - 1, by omega⟩
      have hb := ten_byte u (by omega)
      have hbs : (strOfNums [(wrap64 (48 + Int.tmod (u : Int) 10)) % 256]).size = 1 := by
        show (strOfNums [(wrap64 (48 + Int.tmod (u : Int) 10)) % 256]).data.toList.length = 1
        rw [hb]
        rfl
      have e1 : wrap64 (Int.tdiv (u : Int) 10) = ((u / 10 : Nat) : Int) := by
        rw [show Int.tdiv (u : Int) 10 = ((u / 10 : Nat) : Int) from rfl]
        unfold wrap64
        omega
      have e2 := app_size (strOfNums [(wrap64 (48 + Int.tmod (u : Int) 10)) % 256]) y
      rw [quarrylaw11_DecimalLoose.l0, if_pos (by omega), Option.bind_some, if_pos (by omega), e1]
      refine ih (u / 10) k _ (by omega) (by omega) ?_ (by omega) (by omega)
      rw [app_list, hb, hy, tens_step u h0, List.append_assoc]
theorem exp_steps (hn8 : n ≤ 8) (hV : V.data.toList = (if neg = true then [45] else []) ++ (W ++ F)) (hVs : V.size ≤ 1000)
    (hW : Digits W) (hW0 : W ≠ []) (hWn : W = [48] ∨ W.head? ≠ some 48) (hF : FracForm F B) (hnum : numOf neg (W ++ B) B.length x = (neg, s, e, true)) (hx0 : -2000000000 ≤ x) (hx1 : x ≤ 2000000000) (x1 : Int) (k : Nat) (hk : 3000000000 < k) :
    quarrylaw11_DecimalLoose.j3 k x1 (n : Int) x V neg s e = some true := by
  obtain ⟨k, rfl⟩ : ∃ m, k = m + 1 + 1 + 1 := ⟨k - 3, by omega⟩
  have e0 : (⟨#[]⟩ : ByteArray).data.toList = [] := rfl
  have z0 : (⟨#[]⟩ : ByteArray).size = 0 := rfl
  have turned : ∀ y : ByteArray, x < 0 → quarrylaw11_DecimalLoose.j4 (k + 1 + 1) (n : Int) x V y neg s e = some true := by
    intro y hneg
    have ew : wrap64 (-x) = ((-x).toNat : Int) := by
      unfold wrap64
      omega
    rw [quarrylaw11_DecimalLoose.j4, if_pos hneg, ew, quarrylaw11_DecimalLoose.j5]
    exact tens_loop (tu := true) (sx := [45]) (c := 101) (U := (-x).toNat) hn8 hV hVs rfl (by decide) hW hW0 hWn hF (.inl rfl) (.inr (.inr ⟨rfl, rfl⟩)) hnum (by omega) (by rw [if_pos rfl]; omega) (-x).toNat (-x).toNat k ⟨#[]⟩ (Nat.le_refl _) (Nat.le_refl _) (by rw [e0, List.append_nil]) (by omega) (by omega)
  have straight : ∀ (y : ByteArray) (c : UInt8) (sx : List UInt8), ¬ x < 0 → y.data.toList = c :: sx → y.size ≤ 2 → (c = 101 ∨ c = 69) → (sx = [] ∨ sx = [43]) → quarrylaw11_DecimalLoose.j4 (k + 1 + 1) (n : Int) x V y neg s e = some true := by
    intro y c sx hpos hy hys hc hsx
    have ew : x = (x.toNat : Int) := by omega
    rw [quarrylaw11_DecimalLoose.j4, if_neg hpos, quarrylaw11_DecimalLoose.j5]
    have := tens_loop (tu := false) (sx := sx) (c := c) (U := x.toNat) hn8 hV hVs hy hys hW hW0 hWn hF hc (hsx.elim (fun h => .inl ⟨h, rfl⟩) (fun h => .inr (.inl ⟨h, rfl⟩))) hnum (by omega) (by rw [if_neg (by decide)]; omega) x.toNat x.toNat k ⟨#[]⟩ (Nat.le_refl _) (Nat.le_refl _) (by rw [e0, List.append_nil]) (by omega) (by omega)
    rw [← ew] at this
    exact this
  rw [quarrylaw11_DecimalLoose.j3]
  by_cases hneg : x < 0
  · split
    · exact turned _ hneg
    · exact turned _ hneg
  · split
    · exact straight ⟨#[69, 43]⟩ 69 [43] hneg rfl (by decide) (.inr rfl) (.inr rfl)
    · exact straight ⟨#[101]⟩ 101 [] hneg rfl (by decide) (.inl rfl) (.inl rfl)
theorem sign_steps (hn8 : n ≤ 8) (hV : V.data.toList = W ++ F) (hVs : V.size ≤ 900)
    (hW : Digits W) (hW0 : W ≠ []) (hWn : W = [48] ∨ W.head? ≠ some 48) (hF : FracForm F B) (hnum : numOf neg (W ++ B) B.length x = (neg, s, e, true)) (hx0 : -2000000000 ≤ x) (hx1 : x ≤ 2000000000) (x1 : Int) (k : Nat) (hk : 3000000001 < k) :
    quarrylaw11_DecimalLoose.j2 k x1 (n : Int) V x neg s e = some true := by
  obtain ⟨k, rfl⟩ : ∃ m, k = m + 1 := ⟨k - 1, by omega⟩
  rw [quarrylaw11_DecimalLoose.j2]
  cases neg
  · rw [if_neg (by decide)]
    exact exp_steps hn8 (by rw [hV]; rfl) (by omega) hW hW0 hWn hF hnum hx0 hx1 x1 k (by omega)
  · have z1 := app_size ⟨#[45]⟩ V
    have z2 := one_size 45
    rw [if_pos rfl, if_pos (by omega)]
    exact exp_steps hn8 (by rw [app_list, hV]; rfl) (by omega) hW hW0 hWn hF hnum hx0 hx1 x1 k (by omega)
end
theorem point_steps {neg : Bool} {s G : ByteArray} {e x : Int} {n : Nat} (hn8 : n ≤ 8) (hGs : G.size ≤ 400) (hG : Digits G.data.toList) (hG0 : G.size ≠ 0) (hGn : G.data.toList = [48] ∨ G.data.toList.head? ≠ some 48)
    (hnum : ∀ d : Nat, numOf neg G.data.toList d (x + (d : Int)) = (neg, s, e, true)) (hx0 : -1900000000 ≤ x) (hx1 : x ≤ 1900000000) (x1 x2 : Int) (k : Nat) (hk : 3000000002 < k) :
    quarrylaw11_DecimalLoose.j1 k x1 x2 (n : Int) G x neg s e = some true := by
  obtain ⟨k, rfl⟩ : ∃ m, k = m + 1 := ⟨k - 1, by omega⟩
  have hlen : G.data.toList.length = G.size := rfl
  have hne : G.data.toList ≠ [] := by
    intro h
    rw [h] at hlen
    exact hG0 hlen.symm
  obtain ⟨t, ht, ht0, ht1⟩ := pick_is x2 (G.size : Int) (by omega) (by omega)
  rw [quarrylaw11_DecimalLoose.j1, ht, Option.bind_some]
  by_cases hp : t > 0
  · obtain ⟨a, rfl⟩ : ∃ a : Nat, t = (a : Int) := ⟨t.toNat, by omega⟩
    have ea : ((a : Int) : Int).toNat = a := Int.toNat_natCast a
    have l1 : (G.extract 0 a).data.toList = G.data.toList.take a := by
      rw [Lib.extract_data, List.drop_zero, Nat.sub_zero]
    have l2 : (G.extract a G.size).data.toList = G.data.toList.drop a := by
      rw [Lib.extract_data]
      apply List.take_of_length_le
      rw [List.length_drop]
      omega
    have s1 : (G.extract 0 a).size = a := by
      show (G.extract 0 a).data.toList.length = a
      rw [l1, List.length_take]
      omega
    have s2 : (G.extract a G.size).size = G.size - a := by
      show (G.extract a G.size).data.toList.length = _
      rw [l2, List.length_drop, hlen]
    have s3 := app_size (G.extract 0 a) ⟨#[46]⟩
    have s4 := app_size (G.extract 0 a ++ ⟨#[46]⟩) (G.extract a G.size)
    have s5 := one_size 46
    have ew : wrap64 (wrap64 (x + (G.size : Int)) - (a : Int)) = x + ((G.size - a : Nat) : Int) := by
      unfold wrap64
      omega
    have hsplit : G.data.toList.take a ++ G.data.toList.drop a = G.data.toList := List.take_append_drop a _
    have hd : (G.data.toList.drop a).length = G.size - a := by rw [List.length_drop, hlen]
    rw [if_pos hp, if_pos (by omega), if_pos (by omega), ea, if_pos (by omega), if_pos (by omega), ew]
    refine sign_steps (W := G.data.toList.take a) (F := 46 :: G.data.toList.drop a) (B := G.data.toList.drop a) hn8 ?_ (by omega) ?_ ?_ ?_ (.inr ⟨rfl, ?_, ?_⟩) ?_ (by omega) (by omega) x1 k (by omega)
    · rw [app_list, app_list, l1, l2]
      simp
    · intro c hc
      exact hG c (List.mem_of_mem_take hc)
    · intro h
      have := congrArg List.length h
      rw [List.length_take, hlen, List.length_nil] at this
      omega
    · rcases hGn with h | h
      · exfalso
        rw [h] at hlen
        simp at hlen
        omega
      · right
        intro h2
        apply h
        cases hl : G.data.toList with
        | nil => exact absurd hl hne
        | cons y r =>
          obtain ⟨b, rfl⟩ : ∃ b, a = b + 1 := ⟨a - 1, by omega⟩
          rw [hl, List.take_succ_cons] at h2
          exact h2
    · intro h
      rw [h] at hd
      simp at hd
      omega
    · intro c hc
      exact hG c (List.mem_of_mem_drop hc)
    · rw [hsplit, hd]
      exact hnum _
  · rw [if_neg hp]
    have h0 := hnum 0
    rw [show x + ((0 : Nat) : Int) = x from by omega] at h0
    refine sign_steps (W := G.data.toList) (F := []) (B := []) hn8 (by rw [List.append_nil]) (by omega) hG hne hGn (.inl ⟨rfl, rfl⟩) (by rw [List.append_nil]; exact h0) (by omega) (by omega) x1 k (by omega)
/- ∀ (a0_0 : Bool) (a0_1 : ByteArray) (a0_2 : Int) (a1 a2 : Int), .. → ∃ k, quarrylaw11_DecimalLoose.f k a0_0 a0_1 a0_2 a1 a2 = some true -/
theorem DecimalLoose : quarrylaw11_DecimalLoose.Pure := by
  intro neg s e x1 x2 hs _ _ _
  refine ⟨s.size + 3000000010, ?_⟩
  obtain ⟨k, hk⟩ : ∃ k, s.size + 3000000010 = k + 1 := ⟨s.size + 3000000009, by omega⟩
  unfold quarrylaw11_DecimalLoose.f
  rw [awake_is, Option.bind_some, if_pos rfl, formed_is neg s e hs _ (by omega), Option.bind_some, hk]
  have quit : ∀ a b : Int, quarrylaw11_DecimalLoose.j0 (k + 1) a b true neg s e = some true := by
    intro a b
    rw [quarrylaw11_DecimalLoose.j0, if_pos rfl]
  cases hf : fm s e
  · rw [if_neg (by decide)]
    exact quit _ _
  · rw [if_pos rfl]
    split
    · exact quit _ _
    split
    · exact quit _ _
    by_cases h300 : (s.size : Int) > 300
    · rw [decide_eq_true h300]
      exact quit _ _
    rw [decide_eq_false h300, quarrylaw11_DecimalLoose.j0, if_neg (by decide)]
    obtain ⟨t, ht, ht0, ht1⟩ := pick_is x1 9 (by omega) (by omega)
    obtain ⟨n, rfl⟩ : ∃ a : Nat, t = (a : Int) := ⟨t.toNat, by omega⟩
    have hr := fm_exp hf
    have zz := zs_size n
    rw [ht, Option.bind_some, zeros_is n (by omega) k (by omega), Option.bind_some, if_pos (by omega)]
    by_cases hz : (s.size : Int) = 0
    · have hs0 : s.size = 0 := by omega
      have he : e = 0 := by
        unfold fm at hf
        rw [if_pos hs0] at hf
        simpa using hf
      have hsn : s = ⟨#[]⟩ := data_of (List.eq_nil_of_length_eq_zero hs0)
      rw [if_pos hz]
      refine point_steps (by omega) (by decide) digits_nought (by decide) (.inl rfl) ?_ (by omega) (by omega) x1 x2 k (by omega)
      intro d
      rw [he, hsn]
      show numOf neg [48] d _ = _
      unfold numOf
      rw [if_pos (by rfl)]
    · have hs0 : s.size ≠ 0 := by omega
      have ew : wrap64 (e - (n : Int)) = e - (n : Int) := by
        unfold wrap64
        omega
      have ha := app_size s (zs n)
      obtain ⟨g1, g2, g3⟩ := fm_parts hf hs0
      rw [if_neg hz, ew]
      refine point_steps (by omega) (by omega) ?_ (by omega) (.inr ?_) ?_ (by omega) (by omega) x1 x2 k (by omega)
      · rw [app_list, zs_list]
        exact digits_app g1 (noughts_digits n)
      · rw [app_list]
        intro h
        cases hl : s.data.toList with
        | nil =>
          have : s.data.toList.length = s.size := rfl
          rw [hl] at this
          exact hs0 this.symm
        | cons y r =>
          rw [hl] at h
          exact g2 48 (by rw [hl]; exact h) rfl
      · intro d
        rw [app_list, zs_list]
        exact num_loose hf hs0 neg n d
end Go.Proofs.YtplokhniibdniaaDoor.Pure
