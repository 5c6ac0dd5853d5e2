/- decimal's reader goes through a number: the walk. -/
import Derived.Test.YtkjmbibnfohkjaaDoorReadSt
import Derived.Outline
namespace Go.Proofs.YtkjmbibnfohkjaaDoor.Reader
open Go.RowKit Go.Proofs.YtkjmbibnfohkjaaDoorW.PrintWords Go.Proofs.YtkjmbibnfohkjaaDoorW.PrintLast Go.Proofs.YtkjmbibnfohkjaaDoorW.PrintMore Go.Proofs.YtkjmbibnfohkjaaDoor.Dec
set_option linter.unusedVariables false
section
variable {W0 : World} {b : Nat} {s : ByteArray} {a : Nat} {neg : Bool} {p : Parts}
theorem lab_lt : ∀ (l : Nat) (A : Act) (w : World), Lab W0 b s a neg p l A w → l < 5
  | 0, _, _, _ => by decide
  | 1, _, _, _ => by decide
  | 2, _, _, _ => by decide
  | 3, _, _, _ => by decide
  | 4, _, _, _ => by decide
  | n + 5, _, _, h => h.elim

set_option maxHeartbeats 4000000 in
set_option maxRecDepth 100000 in
theorem read_tail (hs : s.size ≤ 1152921504606846976) (hr : s.size ≤ a + 140737488355328) (W : World) {v0 : Value} {at0 : Nat} (hneg : neg = isAt s at0 45 45) (ha : a = if neg = true then at0 + 1 else at0) (hp : p = partsOf s a) (h0 : St W0 b s at0 false [] 0 0 v0 W) :
    Calls Tryd.prog 87 #[.pointer (some ⟨b, 0, none⟩)] W (RP W0 b s a neg p) := by
  have HH := Aside0.mk h0
  have HN := Aside0.mk hneg
  have HA := Aside0.mk ha
  have HP := Aside0.mk hp
  clear h0 hneg ha hp
  go_enter Tryd.func87, Tryd.ntmps87
  go_wp2
  refine wp_scope_five (Lab W0 b s a neg p) (mu b s) lab_lt rfl rfl rfl rfl rfl ?tens ?expo ?below ?point ?whole ?first
  case tens =>
    rintro m A w ⟨t, wb, ba, bb, ea, j, v, hF, hS, hea, hall, hd, hp⟩ hm
    obtain ⟨U, rfl⟩ := hF.out
    clear hF
    have hlt := dg_lt hd
    have hdig := dg_dig hd
    have hE := sat_range (piece s ea j) 0 hall.digits (by decide) (by decide)
    have hsn := sat_piece s hea hlt 0
    have hrg := sat_range (piece s ea (j + 1)) 0 (hall.snoc hd).digits (by decide) (by decide)
    generalize hEe : sat (piece s ea j) 0 = E at hS hE hsn
    generalize hEn : sat (piece s ea (j + 1)) 0 = E2 at hsn hrg
    rw [mu_is hS] at hm
    have HEn := Aside0.mk hEn
    have HP2 := Aside0.mk hp
    have HM := Aside0.mk hm
    have HAL := Aside0.mk (hall.snoc hd)
    obtain ⟨hd1, hd2⟩ := hdig
    obtain ⟨hE1, hE2⟩ := hE
    obtain ⟨hr1, hr2⟩ := hrg
    clear hEe hp hm hall hd hEn
    have c5 := hS.rb.c5
    have f5 := hS.rb.fr 5
    by_cases hlo : E < 1125899906842624
    · rw [if_pos hlo] at hsn
      have HS2 := Aside0.mk (hS.set5 (10 * E + (bt s (j : Int) - 48)))
      clear hS
      subst hsn
      by_cases hdn : dg s (j + 1) = true
      · have HD := Aside0.mk hdn
        clear hdn
        go_wp2_with fail
        refine (digit_yes b s (j + 1) neg v _ _ _ hs HS2.out.rb HD.out).mono ?_
        rintro r w2 ⟨rfl, hR2, hO2⟩
        have HS3 := Aside0.mk (HS2.out.only (i' := j + 1 + 1) hO2 hR2)
        clear hR2 hO2
        go_wp2
        go_step3
        refine ⟨⟨t, wb, ba, bb, ea, j + 1, v, ⟨rfl, rfl, rfl, rfl, rfl⟩, ?_, by omega, HAL.out, HD.out, ?_⟩, ?_⟩
        · rw [HEn.out]; exact HS3.out
        · rw [HP2.out, dEnd_step HD.out]
        · rw [mu_is HS3.out]
          have := HM.out
          have := dg_lt HD.out
          omega
      · have HD := Aside0.mk (show dg s (j + 1) = false by simpa using hdn)
        clear hdn
        go_wp2_with fail
        refine (digit_no b s (j + 1) neg v _ _ _ hs HS2.out.rb HD.out).mono ?_
        rintro r w2 ⟨rfl, hR2, hO2⟩
        have c5 := hR2.c5
        have f5 := hR2.fr 5
        have HS3 := Aside0.mk (HS2.out.only (i' := j + 1) hO2 hR2)
        clear hR2 hO2
        have hpf := HP2.out
        rw [dEnd_stop HD.out] at hpf
        have HPF := Aside0.mk hpf
        clear hpf HP2 HP
        cases t
        · go_wp2
          simp only [jumps_ret]
          go_ret
          rw [HPF.out]
          refine ⟨rfl, _, _, _, v, HS3.out, fun _ => ⟨rfl, rfl, HAL.out, ?_⟩⟩
          rw [← HEn.out]
          rfl
        · go_wp2
          simp only [jumps_ret]
          go_ret
          rw [HPF.out]
          refine ⟨rfl, _, _, _, v, HS3.out.set5 _, fun _ => ⟨rfl, rfl, HAL.out, ?_⟩⟩
          rw [← HEn.out]
          rfl
    · rw [if_neg hlo] at hsn
      have HS2 := Aside0.mk hS
      clear hS
      subst hsn
      by_cases hdn : dg s (j + 1) = true
      · have HD := Aside0.mk hdn
        clear hdn
        go_wp2_with fail
        refine (digit_yes b s (j + 1) neg v _ _ _ hs HS2.out.rb HD.out).mono ?_
        rintro r w2 ⟨rfl, hR2, hO2⟩
        have HS3 := Aside0.mk (HS2.out.only (i' := j + 1 + 1) hO2 hR2)
        clear hR2 hO2
        go_wp2
        go_step3
        refine ⟨⟨t, wb, ba, bb, ea, j + 1, v, ⟨rfl, rfl, rfl, rfl, rfl⟩, ?_, by omega, HAL.out, HD.out, ?_⟩, ?_⟩
        · rw [HEn.out]; exact HS3.out
        · rw [HP2.out, dEnd_step HD.out]
        · rw [mu_is HS3.out]
          have := HM.out
          have := dg_lt HD.out
          omega
      · have HD := Aside0.mk (show dg s (j + 1) = false by simpa using hdn)
        clear hdn
        go_wp2_with fail
        refine (digit_no b s (j + 1) neg v _ _ _ hs HS2.out.rb HD.out).mono ?_
        rintro r w2 ⟨rfl, hR2, hO2⟩
        have c5 := hR2.c5
        have f5 := hR2.fr 5
        have HS3 := Aside0.mk (HS2.out.only (i' := j + 1) hO2 hR2)
        clear hR2 hO2
        have hpf := HP2.out
        rw [dEnd_stop HD.out] at hpf
        have HPF := Aside0.mk hpf
        clear hpf HP2 HP
        cases t
        · go_wp2
          simp only [jumps_ret]
          go_ret
          rw [HPF.out]
          refine ⟨rfl, _, _, _, v, HS3.out, fun _ => ⟨rfl, rfl, HAL.out, ?_⟩⟩
          rw [← HEn.out]
          rfl
        · go_wp2
          simp only [jumps_ret]
          go_ret
          rw [HPF.out]
          refine ⟨rfl, _, _, _, v, HS3.out.set5 _, fun _ => ⟨rfl, rfl, HAL.out, ?_⟩⟩
          rw [← HEn.out]
          rfl
  case expo =>
    intro h4
    rintro m A w ⟨x, t, wb, ba, bb, v, hF, hS, hp⟩ hm
    obtain ⟨U, rfl⟩ := hF.out
    clear hF
    rw [mu_is hS] at hm
    have H4 := Aside0.mk h4
    have HP2 := Aside0.mk hp
    have HM := Aside0.mk hm
    have HS := Aside0.mk hS
    clear hS hp hm h4
    by_cases he : isAt s bb 101 69 = true
    · have HE := Aside0.mk he
      clear he
      go_wp2_with fail
      refine (take_yes ⟨#[101, 69]⟩ b s bb neg v _ _ _ hs HS.out.rb ((tk_exp s bb).trans HE.out)).mono ?_
      rintro r w2 ⟨rfl, hR2, hO2⟩
      have HS2 := Aside0.mk (HS.out.only (i' := bb + 1) hO2 hR2)
      clear hR2 hO2 HS
      by_cases ht : isAt s (bb + 1) 43 45 = true
      · have HT := Aside0.mk ht
        clear ht
        by_cases hm45 : bt s ((bb + 1 : Nat) : Int) = 45
        · have H45 := Aside0.mk hm45
          have q45 : (bt s ((bb : Int) + 1) == 45) = true := beq_iff_eq.2 hm45
          clear hm45
          go_wp2_with fail
          refine (take_yes ⟨#[43, 45]⟩ b s (bb + 1) neg v _ _ _ hs HS2.out.rb ((tk_sign s (bb + 1)).trans HT.out)).mono ?_
          rintro r w3 ⟨rfl, hR3, hO3⟩
          have HS3 := Aside0.mk (HS2.out.only (i' := bb + 2) hO3 hR3)
          clear hR3 hO3
          by_cases hd : dg s (bb + 2) = true
          · have HD := Aside0.mk hd
            clear hd
            go_wp2_with fail
            refine (digit_yes b s (bb + 2) neg v _ _ _ hs HS3.out.rb HD.out).mono ?_
            rintro r w4 ⟨rfl, hR4, hO4⟩
            have HS4 := Aside0.mk (HS3.out.only (i' := bb + 2 + 1) hO4 hR4)
            clear hR4 hO4
            go_wp2
            rename_i K1 hK1
            refine wp_label (hK1 _ _ (H4.out m _ _ ⟨true, wb, ba, bb, bb + 2, bb + 2, v, ⟨rfl, rfl, rfl, rfl, rfl⟩, ?_, Nat.le_refl _, AllDg.nil s _, HD.out, ?_⟩ ?_))
            · rw [piece_self]; exact HS4.out
            · rw [HP2.out]
              exact expo_to HE.out (ea_minus HT.out H45.out) HD.out
            · rw [mu_is HS4.out]
              have := HM.out
              have := dg_lt HD.out
              have e2 : rank 2 = 1 := rfl
              have e4 : rank 4 = 0 := rfl
              omega
          · have HD := Aside0.mk (show dg s (bb + 2) = false by simpa using hd)
            clear hd
            go_wp2_with fail
            refine (digit_no b s (bb + 2) neg v _ _ _ hs HS3.out.rb HD.out).mono ?_
            rintro r w4 ⟨rfl, hR4, hO4⟩
            have HS4 := Aside0.mk (HS3.out.only (i' := bb + 2) hO4 hR4)
            clear hR4 hO4
            have HPF := Aside0.mk (HP2.out.trans (expo_no HE.out (ea_minus HT.out H45.out) HD.out))
            go_wp2
            simp only [jumps_ret]
            go_ret
            rw [HPF.out]
            exact ⟨rfl, _, _, _, v, HS4.out, fun h => by cases h⟩
        · have H45 := Aside0.mk hm45
          have q45 : (bt s ((bb : Int) + 1) == 45) = false := beq_eq_false_iff_ne.2 hm45
          clear hm45
          go_wp2_with fail
          refine (take_yes ⟨#[43, 45]⟩ b s (bb + 1) neg v _ _ _ hs HS2.out.rb ((tk_sign s (bb + 1)).trans HT.out)).mono ?_
          rintro r w3 ⟨rfl, hR3, hO3⟩
          have HS3 := Aside0.mk (HS2.out.only (i' := bb + 2) hO3 hR3)
          clear hR3 hO3
          by_cases hd : dg s (bb + 2) = true
          · have HD := Aside0.mk hd
            clear hd
            go_wp2_with fail
            refine (digit_yes b s (bb + 2) neg v _ _ _ hs HS3.out.rb HD.out).mono ?_
            rintro r w4 ⟨rfl, hR4, hO4⟩
            have HS4 := Aside0.mk (HS3.out.only (i' := bb + 2 + 1) hO4 hR4)
            clear hR4 hO4
            go_wp2
            rename_i K1 hK1
            refine wp_label (hK1 _ _ (H4.out m _ _ ⟨false, wb, ba, bb, bb + 2, bb + 2, v, ⟨rfl, rfl, rfl, rfl, rfl⟩, ?_, Nat.le_refl _, AllDg.nil s _, HD.out, ?_⟩ ?_))
            · rw [piece_self]; exact HS4.out
            · rw [HP2.out]
              exact expo_to HE.out (ea_plus HT.out H45.out) HD.out
            · rw [mu_is HS4.out]
              have := HM.out
              have := dg_lt HD.out
              have e2 : rank 2 = 1 := rfl
              have e4 : rank 4 = 0 := rfl
              omega
          · have HD := Aside0.mk (show dg s (bb + 2) = false by simpa using hd)
            clear hd
            go_wp2_with fail
            refine (digit_no b s (bb + 2) neg v _ _ _ hs HS3.out.rb HD.out).mono ?_
            rintro r w4 ⟨rfl, hR4, hO4⟩
            have HS4 := Aside0.mk (HS3.out.only (i' := bb + 2) hO4 hR4)
            clear hR4 hO4
            have HPF := Aside0.mk (HP2.out.trans (expo_no HE.out (ea_plus HT.out H45.out) HD.out))
            go_wp2
            simp only [jumps_ret]
            go_ret
            rw [HPF.out]
            exact ⟨rfl, _, _, _, v, HS4.out, fun h => by cases h⟩
      · have HT := Aside0.mk (show isAt s (bb + 1) 43 45 = false by simpa using ht)
        clear ht
        go_wp2_with fail
        refine (take_no ⟨#[43, 45]⟩ b s (bb + 1) neg v _ _ _ hs HS2.out.rb ((tk_sign s (bb + 1)).trans HT.out)).mono ?_
        rintro r w3 ⟨rfl, hR3, hO3⟩
        have HS3 := Aside0.mk (HS2.out.only (i' := bb + 1) hO3 hR3)
        clear hR3 hO3
        by_cases hd : dg s (bb + 1) = true
        · have HD := Aside0.mk hd
          clear hd
          go_wp2_with fail
          refine (digit_yes b s (bb + 1) neg v _ _ _ hs HS3.out.rb HD.out).mono ?_
          rintro r w4 ⟨rfl, hR4, hO4⟩
          have HS4 := Aside0.mk (HS3.out.only (i' := bb + 1 + 1) hO4 hR4)
          clear hR4 hO4
          go_wp2
          rename_i K1 hK1
          refine wp_label (hK1 _ _ (H4.out m _ _ ⟨false, wb, ba, bb, bb + 1, bb + 1, v, ⟨rfl, rfl, rfl, rfl, rfl⟩, ?_, Nat.le_refl _, AllDg.nil s _, HD.out, ?_⟩ ?_))
          · rw [piece_self]; exact HS4.out
          · rw [HP2.out]
            exact expo_to HE.out (ea_none HT.out) HD.out
          · rw [mu_is HS4.out]
            have := HM.out
            have := dg_lt HD.out
            have e2 : rank 2 = 1 := rfl
            have e4 : rank 4 = 0 := rfl
            omega
        · have HD := Aside0.mk (show dg s (bb + 1) = false by simpa using hd)
          clear hd
          go_wp2_with fail
          refine (digit_no b s (bb + 1) neg v _ _ _ hs HS3.out.rb HD.out).mono ?_
          rintro r w4 ⟨rfl, hR4, hO4⟩
          have HS4 := Aside0.mk (HS3.out.only (i' := bb + 1) hO4 hR4)
          clear hR4 hO4
          have HPF := Aside0.mk (HP2.out.trans (expo_no HE.out (ea_none HT.out) HD.out))
          go_wp2
          simp only [jumps_ret]
          go_ret
          rw [HPF.out]
          exact ⟨rfl, _, _, _, v, HS4.out, fun h => by cases h⟩
    · have HE := Aside0.mk (show isAt s bb 101 69 = false by simpa using he)
      clear he
      go_wp2_with fail
      refine (take_no ⟨#[101, 69]⟩ b s bb neg v _ _ _ hs HS.out.rb ((tk_exp s bb).trans HE.out)).mono ?_
      rintro r w2 ⟨rfl, hR2, hO2⟩
      have HS2 := Aside0.mk (HS.out.only (i' := bb) hO2 hR2)
      clear hR2 hO2
      have HPF := Aside0.mk (HP2.out.trans (expo_none HE.out))
      go_wp2
      simp only [jumps_ret]
      go_ret
      rw [HPF.out]
      refine ⟨rfl, _, _, _, v, HS2.out, fun _ => ⟨rfl, rfl, AllDg.nil s _, ?_⟩⟩
      rw [piece_self]
      rfl
  case below =>
    intro h2
    rintro m A w ⟨t, wb, j, v, hF, hS, hawb, hj, hd, hp⟩ hm
    obtain ⟨U, rfl⟩ := hF.out
    clear hF
    rw [mu_is hS] at hm
    have hlt := dg_lt hd
    have hy : ib (piece s a wb ++ piece s (wb + 1) (j + 1)) = ib (piece s a wb ++ piece s (wb + 1) j) ++ [bt s (j : Int)] := by rw [piece_snoc s hj hlt, ← List.append_assoc, ib_snoc, byte_bt s hlt]
    have hlen : ((ib (piece s a wb ++ piece s (wb + 1) j)).length + 1) * 1 ≤ 140737488355328 := by
      rw [ib_length, List.length_append]
      have := piece_len_le s a wb
      have := piece_len_le s (wb + 1) j
      omega
    have hD1 : j + 1 - (wb + 1) = j - (wb + 1) + 1 := by omega
    have hDl : j - (wb + 1) ≤ 140737488355328 := by omega
    generalize j - (wb + 1) = D at hS hD1 hDl
    have H2 := Aside0.mk h2
    have HP2 := Aside0.mk hp
    have HM := Aside0.mk hm
    have HS := Aside0.mk hS
    have HY := Aside0.mk hy
    have HLE := Aside0.mk hlen
    have HD1 := Aside0.mk hD1
    have c3 := hS.rb.c3
    have f3 := hS.rb.fr 3
    clear hS hp hm h2 hy hlen hd hD1
    go_wp2_with (first | ((with_reducible refine gate_builtin (b := .append) (xs := #[.tmp 67, .tmp 69]) rfl ?_); at_builtin; refine print_append_num (w0 := W0) W0.heap.size rfl (.tmp 67) (.tmp 69) 88 5 .u8 1 rfl Tryd.underlying88 info5 (by decide) v _ _ rfl rfl HS.out.own HS.out.below (Nat.le_trans HS.out.ge (Nat.le_of_lt HS.out.rb.lt)) HLE.out ?_; intro v1 w1 ho hb hg _; obtain ⟨A1, n1, cc1, rfl⟩ := own_any ho; obtain ⟨hR1, hS1⟩ := HS.out.more HY.out ho hb hg; have HS1 := Aside0.mk hS1; have f3 := hR1.fr 3; have c3 := hR1.c3; have f4 := hR1.fr 4; have c4 := hR1.c4; clear ho hb hg hR1 hS1) | fail)
    have HS2 := Aside0.mk (HS1.out.set4 (D + 1))
    clear HS HS1
    by_cases hdn : dg s (j + 1) = true
    · have HD := Aside0.mk hdn
      clear hdn
      refine (digit_yes b s (j + 1) neg _ _ _ _ hs HS2.out.rb HD.out).mono ?_
      rintro r w2 ⟨rfl, hR2, hO2⟩
      have HS3 := Aside0.mk (HS2.out.only (i' := j + 1 + 1) hO2 hR2)
      clear hR2 hO2
      go_wp2
      go_step3
      refine ⟨⟨t, wb, j + 1, .slice A1 n1 cc1, ⟨rfl, rfl, rfl, rfl, rfl⟩, ?_, hawb, by omega, HD.out, ?_⟩, ?_⟩
      · rw [HD1.out]; exact HS3.out
      · rw [HP2.out, dEnd_step HD.out]
      · rw [mu_is HS3.out]
        have := HM.out
        have := dg_lt HD.out
        omega
    · have HD := Aside0.mk (show dg s (j + 1) = false by simpa using hdn)
      clear hdn
      refine (digit_no b s (j + 1) neg _ _ _ _ hs HS2.out.rb HD.out).mono ?_
      rintro r w2 ⟨rfl, hR2, hO2⟩
      have HS3 := Aside0.mk (HS2.out.only (i' := j + 1) hO2 hR2)
      clear hR2 hO2
      go_wp2
      rename_i K1 hK1
      refine wp_label (hK1 _ _ (H2.out m _ _ ⟨_, t, wb, wb + 1, j + 1, .slice A1 n1 cc1, ⟨rfl, rfl, rfl, rfl, rfl⟩, ?_, ?_⟩ ?_))
      · rw [HD1.out]; exact HS3.out
      · rw [HP2.out, dEnd_stop HD.out]
      · rw [mu_is HS3.out]
        have := HM.out
        have e2 : rank 2 = 1 := rfl
        have e3 : rank 3 = 2 := rfl
        omega
  case point =>
    intro h3
    rintro m A w ⟨x, t, wb, v, hF, hS, hawb, hwb, hp⟩ hm
    obtain ⟨U, rfl⟩ := hF.out
    clear hF
    rw [mu_is hS] at hm
    have H3 := Aside0.mk h3
    have HP2 := Aside0.mk hp
    have HM := Aside0.mk hm
    have HS := Aside0.mk hS
    clear hS hp hm h3
    by_cases he : isAt s wb 46 46 = true
    · have HE := Aside0.mk he
      clear he
      go_wp2_with fail
      refine (take_yes ⟨#[46]⟩ b s wb neg v _ _ _ hs HS.out.rb ((tk_point s wb).trans HE.out)).mono ?_
      rintro r w2 ⟨rfl, hR2, hO2⟩
      have HS2 := Aside0.mk (HS.out.only (i' := wb + 1) hO2 hR2)
      clear hR2 hO2 HS
      by_cases hd : dg s (wb + 1) = true
      · have HD := Aside0.mk hd
        clear hd
        go_wp2_with fail
        refine (digit_yes b s (wb + 1) neg v _ _ _ hs HS2.out.rb HD.out).mono ?_
        rintro r w3 ⟨rfl, hR3, hO3⟩
        have HS3 := Aside0.mk (HS2.out.only (i' := wb + 1 + 1) hO3 hR3)
        clear hR3 hO3
        go_wp2
        rename_i K1 hK1
        refine wp_label (hK1 _ _ (H3.out m _ _ ⟨t, wb, wb + 1, v, ⟨rfl, rfl, rfl, rfl, rfl⟩, ?_, hawb, Nat.le_refl _, HD.out, ?_⟩ ?_))
        · rw [piece_self, List.append_nil, Nat.sub_self]; exact HS3.out
        · rw [HP2.out]
          unfold point
          rw [if_pos HE.out, if_pos HD.out]
        · rw [mu_is HS3.out]
          have := HM.out
          have := dg_lt HD.out
          have e0 : rank 0 = 3 := rfl
          have e3 : rank 3 = 2 := rfl
          omega
      · have HD := Aside0.mk (show dg s (wb + 1) = false by simpa using hd)
        clear hd
        go_wp2_with fail
        refine (digit_no b s (wb + 1) neg v _ _ _ hs HS2.out.rb HD.out).mono ?_
        rintro r w3 ⟨rfl, hR3, hO3⟩
        have HS3 := Aside0.mk (HS2.out.only (i' := wb + 1) hO3 hR3)
        clear hR3 hO3
        have hpf := HP2.out
        unfold point at hpf
        rw [if_pos HE.out, if_neg (by rw [HD.out]; decide)] at hpf
        have HPF := Aside0.mk hpf
        clear hpf
        go_wp2
        simp only [jumps_ret]
        go_ret
        rw [HPF.out]
        exact ⟨rfl, _, _, _, v, HS3.out, fun h => by cases h⟩
    · have HE := Aside0.mk (show isAt s wb 46 46 = false by simpa using he)
      clear he
      go_wp2_with fail
      refine (take_no ⟨#[46]⟩ b s wb neg v _ _ _ hs HS.out.rb ((tk_point s wb).trans HE.out)).mono ?_
      rintro r w2 ⟨rfl, hR2, hO2⟩
      have HS2 := Aside0.mk (HS.out.only (i' := wb) hO2 hR2)
      clear hR2 hO2
      go_wp2
      go_step3
      refine ⟨⟨x, t, wb, wb, wb, v, ⟨rfl, rfl, rfl, rfl, rfl⟩, ?_, ?_⟩, ?_⟩
      · rw [piece_self, List.append_nil, Nat.sub_self]; exact HS2.out
      · rw [HP2.out]
        unfold point
        rw [if_neg (by rw [HE.out]; decide)]
      · rw [mu_is HS2.out]
        have := HM.out
        have e0 : rank 0 = 3 := rfl
        have e2 : rank 2 = 1 := rfl
        omega
  case whole =>
    intro h0
    rintro m A w ⟨x, t, i, v, hF, hS, hai, hi, hp⟩ hm
    obtain ⟨U, rfl⟩ := hF.out
    clear hF
    rw [mu_is hS] at hm
    have H0 := Aside0.mk h0
    have HP2 := Aside0.mk hp
    have HM := Aside0.mk hm
    have HS := Aside0.mk hS
    clear hS hp hm h0
    by_cases hd : dg s i = true
    · have HD := Aside0.mk hd
      have hlt := dg_lt hd
      have HY := Aside0.mk (ib_piece s hai hlt)
      have hlen : ((ib (piece s a i)).length + 1) * 1 ≤ 140737488355328 := by
        rw [ib_length]
        have := piece_len_le s a i
        omega
      have HLE := Aside0.mk hlen
      clear hd hlen
      go_wp2_with fail
      refine (digit_yes b s i neg v _ _ _ hs HS.out.rb HD.out).mono ?_
      rintro r w2 ⟨rfl, hR2, hO2⟩
      have c3 := hR2.c3
      have f3 := hR2.fr 3
      have HS2 := Aside0.mk (HS.out.only (i' := i + 1) hO2 hR2)
      clear hR2 hO2 HS
      go_wp2_with (first | ((with_reducible refine gate_builtin (b := .append) (xs := #[.tmp 43, .tmp 45]) rfl ?_); at_builtin; refine print_append_num (w0 := W0) W0.heap.size rfl (.tmp 43) (.tmp 45) 88 5 .u8 1 rfl Tryd.underlying88 info5 (by decide) v _ _ rfl rfl HS2.out.own HS2.out.below (Nat.le_trans HS2.out.ge (Nat.le_of_lt HS2.out.rb.lt)) HLE.out ?_; intro v1 w1 ho hb hg _; obtain ⟨A1, n1, cc1, rfl⟩ := own_any ho; obtain ⟨hR1, hS1⟩ := HS2.out.more HY.out ho hb hg; have HS1 := Aside0.mk hS1; have f3 := hR1.fr 3; have c3 := hR1.c3; clear ho hb hg hR1 hS1) | fail)
      go_step3
      refine ⟨⟨_, t, i + 1, .slice A1 n1 cc1, ⟨rfl, rfl, rfl, rfl, rfl⟩, HS1.out, by omega, hlt, ?_⟩, ?_⟩
      · rw [HP2.out, dEnd_step HD.out]
      · rw [mu_is HS1.out]
        have := HM.out
        omega
    · have HD := Aside0.mk (show dg s i = false by simpa using hd)
      clear hd
      go_wp2_with fail
      refine (digit_no b s i neg v _ _ _ hs HS.out.rb HD.out).mono ?_
      rintro r w2 ⟨rfl, hR2, hO2⟩
      have HS2 := Aside0.mk (HS.out.only (i' := i) hO2 hR2)
      clear hR2 hO2
      go_wp2
      rename_i K1 hK1
      refine wp_label (hK1 _ _ (H0.out m _ _ ⟨_, t, i, v, ⟨rfl, rfl, rfl, rfl, rfl⟩, HS2.out, hai, hi, ?_⟩ ?_))
      · rw [HP2.out, dEnd_stop HD.out]
      · rw [mu_is HS2.out]
        have := HM.out
        have e0 : rank 0 = 3 := rfl
        have e1 : rank 1 = 4 := rfl
        omega
  case first =>
    intro h1
    have H1 := Aside0.mk h1
    clear h1
    by_cases he : isAt s at0 45 45 = true
    · have HE := Aside0.mk he
      obtain rfl : neg = true := HN.out.trans he
      obtain rfl : a = at0 + 1 := HA.out.trans (if_pos rfl)
      clear he HN HA
      go_wp2_with fail
      refine (take_yes ⟨#[45]⟩ b s at0 false v0 _ _ _ hs HH.out.rb ((tk_minus s at0).trans HE.out)).mono ?_
      rintro r w2 ⟨rfl, hR2, hO2⟩
      have c2 := hR2.c2
      have f2 := hR2.fr 2
      have HS2 := Aside0.mk (HH.out.only (i' := at0 + 1) hO2 hR2)
      have HS3 := Aside0.mk (HS2.out.set1 true)
      clear hR2 hO2
      by_cases hd : dg s (at0 + 1) = true
      · have HD := Aside0.mk hd
        have hlt := dg_lt hd
        have hy : ib (piece s (at0 + 1) (at0 + 1 + 1)) = ib [] ++ [bt s ((at0 + 1 : Nat) : Int)] := by
          have := ib_piece s (Nat.le_refl (at0 + 1)) hlt
          rwa [piece_self] at this
        have HY := Aside0.mk hy
        have hlen : ((ib []).length + 1) * 1 ≤ 140737488355328 := by decide
        have HLE := Aside0.mk hlen
        clear hd hlen hy
        go_wp2_with fail
        refine (digit_yes b s (at0 + 1) true v0 _ _ _ hs HS3.out.rb HD.out).mono ?_
        rintro r w4 ⟨rfl, hR4, hO4⟩
        have c3 := hR4.c3
        have f3 := hR4.fr 3
        have HS4 := Aside0.mk (HS3.out.only (i' := at0 + 1 + 1) hO4 hR4)
        clear hR4 hO4
        by_cases h48 : bt s ((at0 + 1 : Nat) : Int) = 48
        · have H48 := Aside0.mk h48
          have q48 : (bt s ((at0 : Int) + 1) == 48) = true := beq_iff_eq.2 h48
          clear h48
          go_wp2_with (first | ((with_reducible refine gate_builtin (b := .append) (xs := #[.tmp 25, .tmp 27]) rfl ?_); at_builtin; refine print_append_num (w0 := W0) W0.heap.size rfl (.tmp 25) (.tmp 27) 88 5 .u8 1 rfl Tryd.underlying88 info5 (by decide) v0 _ _ rfl rfl HS4.out.own HS4.out.below (Nat.le_trans HS4.out.ge (Nat.le_of_lt HS4.out.rb.lt)) HLE.out ?_; intro v1 w1 ho hb hg _; obtain ⟨A1, n1, cc1, rfl⟩ := own_any ho; obtain ⟨hR1, hS1⟩ := HS4.out.more HY.out ho hb hg; have HS1 := Aside0.mk hS1; have f3 := hR1.fr 3; have c3 := hR1.c3; clear ho hb hg hR1 hS1) | fail)
          go_step3
          refine ⟨_, _, at0 + 1 + 1, .slice A1 n1 cc1, ⟨rfl, rfl, rfl, rfl, rfl⟩, HS1.out, by omega, hlt, ?_⟩
          rw [HP.out]
          unfold partsOf
          rw [if_pos HD.out, if_pos H48.out]
        · have H48 := Aside0.mk h48
          have q48 : (bt s ((at0 : Int) + 1) == 48) = false := beq_eq_false_iff_ne.2 h48
          clear h48
          go_wp2_with (first | ((with_reducible refine gate_builtin (b := .append) (xs := #[.tmp 25, .tmp 27]) rfl ?_); at_builtin; refine print_append_num (w0 := W0) W0.heap.size rfl (.tmp 25) (.tmp 27) 88 5 .u8 1 rfl Tryd.underlying88 info5 (by decide) v0 _ _ rfl rfl HS4.out.own HS4.out.below (Nat.le_trans HS4.out.ge (Nat.le_of_lt HS4.out.rb.lt)) HLE.out ?_; intro v1 w1 ho hb hg _; obtain ⟨A1, n1, cc1, rfl⟩ := own_any ho; obtain ⟨hR1, hS1⟩ := HS4.out.more HY.out ho hb hg; have HS1 := Aside0.mk hS1; have f3 := hR1.fr 3; have c3 := hR1.c3; clear ho hb hg hR1 hS1) | fail)
          rename_i K1 hK1
          refine wp_label (hK1 _ _ (serves_free H1.out ⟨_, _, at0 + 1 + 1, .slice A1 n1 cc1, ⟨rfl, rfl, rfl, rfl, rfl⟩, HS1.out, by omega, hlt, ?_⟩))
          rw [HP.out]
          unfold partsOf
          rw [if_pos HD.out, if_neg H48.out]
      · have HD := Aside0.mk (show dg s (at0 + 1) = false by simpa using hd)
        clear hd
        go_wp2_with fail
        refine (digit_no b s (at0 + 1) true v0 _ _ _ hs HS3.out.rb HD.out).mono ?_
        rintro r w4 ⟨rfl, hR4, hO4⟩
        have HS4 := Aside0.mk (HS3.out.only (i' := at0 + 1) hO4 hR4)
        clear hR4 hO4
        have hpf := HP.out
        unfold partsOf at hpf
        rw [if_neg (by rw [HD.out]; decide)] at hpf
        have HPF := Aside0.mk hpf
        clear hpf
        go_wp2
        simp only [jumps_ret]
        go_ret
        rw [HPF.out]
        exact ⟨rfl, _, _, _, v0, HS4.out, fun h => by cases h⟩
    · have HE := Aside0.mk (show isAt s at0 45 45 = false by simpa using he)
      obtain rfl : neg = false := HN.out.trans HE.out
      obtain rfl : a = at0 := HA.out.trans (if_neg (by decide))
      clear he HN HA
      go_wp2_with fail
      refine (take_no ⟨#[45]⟩ b s a false v0 _ _ _ hs HH.out.rb ((tk_minus s a).trans HE.out)).mono ?_
      rintro r w2 ⟨rfl, hR2, hO2⟩
      have c2 := hR2.c2
      have f2 := hR2.fr 2
      have HS2 := Aside0.mk (HH.out.only (i' := a) hO2 hR2)
      have HS3 := Aside0.mk (HS2.out.set1 false)
      clear hR2 hO2
      by_cases hd : dg s (a) = true
      · have HD := Aside0.mk hd
        have hlt := dg_lt hd
        have hy : ib (piece s (a) (a + 1)) = ib [] ++ [bt s ((a : Nat) : Int)] := by
          have := ib_piece s (Nat.le_refl (a)) hlt
          rwa [piece_self] at this
        have HY := Aside0.mk hy
        have hlen : ((ib []).length + 1) * 1 ≤ 140737488355328 := by decide
        have HLE := Aside0.mk hlen
        clear hd hlen hy
        go_wp2_with fail
        refine (digit_yes b s (a) false v0 _ _ _ hs HS3.out.rb HD.out).mono ?_
        rintro r w4 ⟨rfl, hR4, hO4⟩
        have c3 := hR4.c3
        have f3 := hR4.fr 3
        have HS4 := Aside0.mk (HS3.out.only (i' := a + 1) hO4 hR4)
        clear hR4 hO4
        by_cases h48 : bt s ((a : Nat) : Int) = 48
        · have H48 := Aside0.mk h48
          have q48 : (bt s ((a : Int)) == 48) = true := beq_iff_eq.2 h48
          clear h48
          go_wp2_with (first | ((with_reducible refine gate_builtin (b := .append) (xs := #[.tmp 25, .tmp 27]) rfl ?_); at_builtin; refine print_append_num (w0 := W0) W0.heap.size rfl (.tmp 25) (.tmp 27) 88 5 .u8 1 rfl Tryd.underlying88 info5 (by decide) v0 _ _ rfl rfl HS4.out.own HS4.out.below (Nat.le_trans HS4.out.ge (Nat.le_of_lt HS4.out.rb.lt)) HLE.out ?_; intro v1 w1 ho hb hg _; obtain ⟨A1, n1, cc1, rfl⟩ := own_any ho; obtain ⟨hR1, hS1⟩ := HS4.out.more HY.out ho hb hg; have HS1 := Aside0.mk hS1; have f3 := hR1.fr 3; have c3 := hR1.c3; clear ho hb hg hR1 hS1) | fail)
          go_step3
          refine ⟨_, _, a + 1, .slice A1 n1 cc1, ⟨rfl, rfl, rfl, rfl, rfl⟩, HS1.out, by omega, hlt, ?_⟩
          rw [HP.out]
          unfold partsOf
          rw [if_pos HD.out, if_pos H48.out]
        · have H48 := Aside0.mk h48
          have q48 : (bt s ((a : Int)) == 48) = false := beq_eq_false_iff_ne.2 h48
          clear h48
          go_wp2_with (first | ((with_reducible refine gate_builtin (b := .append) (xs := #[.tmp 25, .tmp 27]) rfl ?_); at_builtin; refine print_append_num (w0 := W0) W0.heap.size rfl (.tmp 25) (.tmp 27) 88 5 .u8 1 rfl Tryd.underlying88 info5 (by decide) v0 _ _ rfl rfl HS4.out.own HS4.out.below (Nat.le_trans HS4.out.ge (Nat.le_of_lt HS4.out.rb.lt)) HLE.out ?_; intro v1 w1 ho hb hg _; obtain ⟨A1, n1, cc1, rfl⟩ := own_any ho; obtain ⟨hR1, hS1⟩ := HS4.out.more HY.out ho hb hg; have HS1 := Aside0.mk hS1; have f3 := hR1.fr 3; have c3 := hR1.c3; clear ho hb hg hR1 hS1) | fail)
          rename_i K1 hK1
          refine wp_label (hK1 _ _ (serves_free H1.out ⟨_, _, a + 1, .slice A1 n1 cc1, ⟨rfl, rfl, rfl, rfl, rfl⟩, HS1.out, by omega, hlt, ?_⟩))
          rw [HP.out]
          unfold partsOf
          rw [if_pos HD.out, if_neg H48.out]
      · have HD := Aside0.mk (show dg s (a) = false by simpa using hd)
        clear hd
        go_wp2_with fail
        refine (digit_no b s (a) false v0 _ _ _ hs HS3.out.rb HD.out).mono ?_
        rintro r w4 ⟨rfl, hR4, hO4⟩
        have HS4 := Aside0.mk (HS3.out.only (i' := a) hO4 hR4)
        clear hR4 hO4
        have hpf := HP.out
        unfold partsOf at hpf
        rw [if_neg (by rw [HD.out]; decide)] at hpf
        have HPF := Aside0.mk hpf
        clear hpf
        go_wp2
        simp only [jumps_ret]
        go_ret
        rw [HPF.out]
        exact ⟨rfl, _, _, _, v0, HS4.out, fun h => by cases h⟩
end
end Go.Proofs.YtkjmbibnfohkjaaDoor.Reader
