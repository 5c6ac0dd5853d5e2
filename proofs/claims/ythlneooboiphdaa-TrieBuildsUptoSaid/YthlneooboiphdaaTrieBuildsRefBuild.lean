/- quarryref23.Build: the walk. -/
import Derived.Test.YthlneooboiphdaaTrieBuildsRefRow
set_option linter.unusedVariables false
set_option linter.unusedSimpArgs false
namespace Go.Proofs.Ythlneooboiphdaa.PTrieBuilds
open Go.RowKit Go.Proofs.Ythlneooboiphdaa Go.Proofs.YthlneooboiphdaaW.PrintWords Go.Proofs.YthlneooboiphdaaW.PrintLast Go.Proofs.YthlneooboiphdaaW.PrintMore
theorem own_cap {w : World} {base e size n c : Nat} {A : Option Addr} {xs : List Value} (h : w.ownsRow base e size (.slice A n c) n xs) : n ≤ c := by
  rcases h.2 with ⟨h1, h2⟩ | ⟨g, cap, cur, h1, _, _, h2, _⟩
  · omega
  · injection h1 with _ _ h1
    subst h1
    exact h2
set_option maxHeartbeats 4000000 in
set_option maxRecDepth 100000 in
theorem ref_Build_calls (A0 : Option Addr) (c0 : Nat) (l0 : List (List S53)) (w : World) (hr0 : Kd.C (Kd.slice 53 k53) w A0 l0.length l0) (hc0 : l0.length ≤ c0)
    (hsm : ∀ p ∈ l0, ∃ k, quarryref22_Formed.f k p = some (p.all okS)) (htot : totP l0 l0.length ≤ 1000000000) :
    Calls Try.prog 15 #[.slice A0 l0.length c0] w (BuildEnd w.heap.size w (trie_Build.g l0)) := by
  have hlen : l0.length ≤ 9223372036854775807 := Kd.C_max hr0
  have hu := Try.underlying53
  have huN := Try.underlying50
  by_cases h256 : 256 < l0.length
  · have d1 : decide ((l0.length : Int) > 256) = true := decide_eq_true (by omega)
    have hg : trie_Build.g l0 = ([], 2) := by unfold trie_Build.g; rw [if_pos h256]
    rw [hg]
    clear hr0 hsm htot hg
    go_enter Try.func15, Try.ntmps15
    go_wp2
    go_ret2
    exact ⟨none, 0, rfl, Kd.C_nil _ _, Nat.le_refl _, Below.refl _ _⟩
  have d1 : decide ((l0.length : Int) > 256) = false := decide_eq_false (by omega)
  have HG : Aside0 ((l0.all (fun p => p.all okS) = false → trie_Build.g l0 = ([], 1)) ∧ (l0.all (fun p => p.all okS) = true → trie_Build.g l0 = (outP (buildN l0 l0.length), 0))) := ⟨by
    unfold trie_Build.g
    rw [if_neg h256]
    exact ⟨fun h => by rw [h]; rfl, fun h => by rw [h]; rfl⟩⟩
  have H256 : Aside0 (l0.length ≤ 256) := ⟨by omega⟩
  have HTOT := Aside0.mk htot
  have HR0 := Aside0.mk hr0
  have HSM := Aside0.mk hsm
  generalize trie_Build.g l0 = gg at *
  clear h256 htot hr0 hsm
  go_enter Try.func15, Try.ntmps15
  go_wp2
  go_loopg [4] (l0.length + 1) (fun kq v4 wr => ∃ i : Int, v4 = .int .i64 i ∧ Aside0 (0 ≤ i ∧ i ≤ (l0.length : Int) ∧ i.toNat + kq = l0.length + 1 ∧ (l0.take i.toNat).all (fun p => p.all okS) = true) ∧ Aside0 (Below w.heap.size w wr))
  case atStart => exact ⟨0, rfl, ⟨by omega, by omega, by omega, rfl⟩, ⟨Below.refl _ _⟩⟩
  case round =>
    obtain ⟨i, rfl, HK, HB⟩ := hrel
    obtain ⟨g0, gl, gk1, ga⟩ := HK.out
    by_cases c1 : i < (l0.length : Int)
    · obtain ⟨k1, rfl⟩ : ∃ k1, gk = k1 + 1 := ⟨gk - 1, by omega⟩
      have hw1 : IntKind.i64.wrap (i + 1) = i + 1 := by rw [IntKind.wrap_i64]; omega
      have c1b : decide (i < (l0.length : Int)) = true := decide_eq_true c1
      have hs := all_take_succP l0 i g0 c1 ga
      have hmem := rdL_mem l0 i g0 c1
      obtain ⟨kf, hff⟩ := HSM.out _ hmem
      obtain ⟨ad, AP, cP, e1, x0, x1, x2⟩ := at_L3 (Kd.C_below HR0.out HB.out) i g0 c1
      subst e1
      have REL : Aside0 (0 ≤ i + 1 ∧ i + 1 ≤ (l0.length : Int) ∧ (i + 1).toNat + k1 = l0.length + 1) := ⟨by omega, by omega, by omega⟩
      have RES : Aside0 ((rd_L3 l0 i).all okS = false → l0.all (fun p => p.all okS) = false) := ⟨fun h => by
        cases hh : l0.all (fun p => p.all okS)
        · rfl
        · rw [List.all_eq_true] at hh
          rw [hh _ hmem] at h
          cases h⟩
      have HS := Aside0.mk hs
      have HX2 := Aside0.mk x2
      have HX1 := Aside0.mk x1
      have HF := Aside0.mk hff
      generalize rd_L3 l0 i = y at *
      have c1c := eq_true c1
      have g0c := eq_true g0
      clear hs hmem c1 g0 gl gk1 ga HK x2 x1 hff
      cases ho : y.all okS
      · have HO : Aside0 (l0.all (fun p => p.all okS) = false) := ⟨RES.out ho⟩
        rw [ho] at HF
        clear ho
        go_wp2_with (first
          | (go_at_call 42; refine (quarryref22_Formed.calls kf AP cP y false wr HX2.out HX1.out HF.out).mono ?_; rintro e w2 ⟨rfl, hb⟩; have HB2 := Aside0.mk (below_step HB.out hb); clear hb HB x0)
          | fail)
        go_ret2
        rw [HG.out.1 HO.out]
        exact ⟨none, 0, rfl, Kd.C_nil _ _, Nat.le_refl _, HB2.out⟩
      · have HO : Aside0 ((l0.take (i + 1).toNat).all (fun p => p.all okS) = true) := ⟨HS.out.trans ho⟩
        rw [ho] at HF
        clear ho
        go_wp2_with (first
          | (go_at_call 42; refine (quarryref22_Formed.calls kf AP cP y true wr HX2.out HX1.out HF.out).mono ?_; rintro e w2 ⟨rfl, hb⟩; have HB2 := Aside0.mk (below_step HB.out hb); clear hb HB x0)
          | fail)
        go_roundg k1
        case measure => omega
        case rel => exact ⟨i + 1, rfl, ⟨REL.out.1, REL.out.2.1, REL.out.2.2, HO.out⟩, HB2⟩
    · have c1b : decide (i < (l0.length : Int)) = false := decide_eq_false c1
      have hall : l0.all (fun p => p.all okS) = true := by
        rw [List.take_of_length_le (by omega)] at ga
        exact ga
      have HEND := Aside0.mk (HG.out.2 hall)
      have HB1 := HB.out
      have HR1 := Aside0.mk (Rf.start (base := w.heap.size) HB1.size)
      have HB2 := Aside0.mk (below_alloc HB1 (.cells #[.slice none 0 0, .slice none 0 0, .slice none 0 0] 50))
      clear HK ga gk1 gl g0 c1 HB HSM HG hall HB1
      go_wp2
      generalize wr.heap.size = R0 at HR1 ⊢
      generalize wr.alloc (.cells #[.slice none 0 0, .slice none 0 0, .slice none 0 0] 50) = V at HR1 HB2 ⊢
      obtain ⟨iS, iS1, iS2, iS3, iS4⟩ := info_of info53
      obtain ⟨iN, iN1, iN2, iN3, iN4⟩ := info_of info50
      obtain ⟨iI, iI1, iI2, iI3, iI4⟩ := info_of info3
      go_loopg [5, 6] (l0.length + 1) (fun kq v5 v6 wr2 => ∃ (i : Int) (inner : List Value), v6 = .int .i64 i ∧ Aside0 (0 ≤ i ∧ i ≤ (l0.length : Int) ∧ i.toNat + kq = l0.length + 1) ∧ Aside0 (Rf w.heap.size wr2 v5 inner (buildN l0 i.toNat)) ∧ Aside0 (Below w.heap.size w wr2))
      case atStart => exact ⟨0, _, rfl, ⟨by omega, by omega, by omega⟩, HR1, HB2⟩
      case round =>
        clear HR1 HB2
        obtain ⟨i2, inner, rfl, HK, HN, HB⟩ := hrel
        obtain ⟨g0, gl, gk1⟩ := HK.out
        have hWf := wfP_build l0 i2.toNat
        obtain ⟨R, c5, hv5, _, _⟩ := HN.out.own.form hWf.pos
        subst hv5
        by_cases c1 : i2 < (l0.length : Int)
        · obtain ⟨k1, rfl⟩ : ∃ k1, gk = k1 + 1 := ⟨gk - 1, by omega⟩
          have hw1 : IntKind.i64.wrap (i2 + 1) = i2 + 1 := by rw [IntKind.wrap_i64]; omega
          have c1b : decide (i2 < (l0.length : Int)) = true := decide_eq_true c1
          have c1c := eq_true c1
          have g0c := eq_true g0
          obtain ⟨ad, AP, cP, e1, x0w, x1, x2⟩ := at_L3 HR0.out i2 g0 c1
          subst e1
          have htk : totP l0 i2.toNat + (rd_L3 l0 i2).length ≤ 1000000000 := by
            have h1 := totP_mono l0 (show i2.toNat + 1 ≤ l0.length by omega)
            have h2 := HTOT.out
            have h3 : totP l0 (i2.toNat + 1) = totP l0 i2.toNat + (rd_L3 l0 i2).length := rfl
            omega
          have HTK := Aside0.mk htk
          have HSTB : Aside0 (buildN l0 (i2 + 1).toNat = endP (walkN (buildN l0 i2.toNat) (rd_L3 l0 i2) (rd_L3 l0 i2).length).1 (walkN (buildN l0 i2.toNat) (rd_L3 l0 i2) (rd_L3 l0 i2).length).2 i2) := ⟨by
            rw [show (i2 + 1).toNat = i2.toNat + 1 by omega]
            show endP _ _ ((i2.toNat : Nat) : Int) = _
            rw [Int.toNat_of_nonneg g0]
            rfl⟩
          have HWF := Aside0.mk hWf
          have HX2 := Aside0.mk x2
          have REL : Aside0 (0 ≤ i2 + 1 ∧ i2 + 1 ≤ (l0.length : Int) ∧ (i2 + 1).toNat + k1 = l0.length + 1) := ⟨by omega, by omega, by omega⟩
          have HI2 : Aside0 (0 ≤ i2 ∧ i2 < (l0.length : Int)) := ⟨g0, c1⟩
          have hpl : (rd_L3 l0 i2).length ≤ 9223372036854775807 := Kd.C_max x2
          have HN0 : Aside0 (Rf w.heap.size wr (.slice (some ⟨R, 0, none⟩) (buildN l0 i2.toNat).length c5) inner (walkN (buildN l0 i2.toNat) (rd_L3 l0 i2) 0).1 ∧ (0 : Int).toNat = (walkN (buildN l0 i2.toNat) (rd_L3 l0 i2) 0).2) := ⟨HN.out, rfl⟩
          generalize rd_L3 l0 i2 = p at *
          generalize buildN l0 i2.toNat = T0 at *
          generalize totP l0 i2.toNat = t0 at *
          have HX0 := Aside0.mk x0w
          clear htk hWf x1 x2 HN HK gk1 gl g0 c1 x0w
          go_wp2
          go_loopg [5, 7, 8] (p.length + 1) (fun kq v5 v7 v8 wr3 => ∃ (j a : Int) (inner : List Value), v8 = .int .i64 j ∧ v7 = .int .i64 a ∧ Aside0 (0 ≤ j ∧ j ≤ (p.length : Int) ∧ j.toNat + kq = p.length + 1 ∧ 0 ≤ a) ∧ Aside0 (Rf w.heap.size wr3 v5 inner (walkN T0 p j.toNat).1 ∧ a.toNat = (walkN T0 p j.toNat).2) ∧ Aside0 (Below w.heap.size w wr3))
          case atStart => exact ⟨0, 0, inner, rfl, rfl, ⟨by omega, by omega, by omega, by omega⟩, HN0, HB⟩
          case round =>
            clear HN0 HB
            obtain ⟨j, a, inner, rfl, rfl, HK, HN, HB⟩ := hrel
            obtain ⟨g0, gl, gk2, ga0⟩ := HK.out
            have x0 := pw_cell_below HB.out HX0.out
            by_cases c1 : j < (p.length : Int)
            · obtain ⟨k2, rfl⟩ : ∃ k2, gk = k2 + 1 := ⟨gk - 1, by omega⟩
              have hw2 : IntKind.i64.wrap (j + 1) = j + 1 := by rw [IntKind.wrap_i64]; omega
              have c2b : decide (j < (p.length : Int)) = true := decide_eq_true c1
              have c2c := eq_true c1
              have g2c := eq_true g0
              obtain ⟨adp, ep, x1, x2, x3⟩ := at_T53 (Kd.C_below HX2.out HB.out) j g0 c1
              subst ep
              have hWf3 := (wfP_walk HWF.out p j.toNat).1
              have hlt3 := (wfP_walk HWF.out p j.toNat).2
              have hk3 : t0 + j.toNat ≤ 1073741824 := by have := HTK.out; omega
              have HS2 : Aside0 (walkN T0 p (j + 1).toNat = stepP (walkN T0 p j.toNat).1 (walkN T0 p j.toNat).2 (rd_T53 p j)) := ⟨by
                rw [show (j + 1).toNat = j.toNat + 1 by omega]
                show stepP _ _ (rd_T53 p ((j.toNat : Nat) : Int)) = _
                rw [Int.toNat_of_nonneg g0]⟩
              have REL2 : Aside0 (0 ≤ j + 1 ∧ j + 1 ≤ (p.length : Int) ∧ (j + 1).toNat + k2 = p.length + 1) := ⟨by omega, by omega, by omega⟩
              generalize rd_T53 p j = y at *
              generalize walkN T0 p j.toNat = q at *
              obtain ⟨R, c5, hv5, _, _⟩ := HN.out.1.own.form hWf3.pos
              subst hv5
              have hk : q.1[q.2]? = some (q.1[q.2]'hlt3) := List.getElem?_eq_getElem hlt3
              obtain ⟨⟨st, nx, en⟩, hne⟩ : ∃ n, n = q.1[q.2]'hlt3 := ⟨_, rfl⟩
              rw [← hne] at hk
              have hmem := hWf3.each _ (List.mem_of_getElem? hk)
              obtain ⟨vS, vT, vE, h1, h2, h3, h4, h5, h6⟩ := HN.out.1.at_ q.2 _ hk
              obtain ⟨lx, hlx⟩ : ∃ lx, castN nx = lx := ⟨_, rfl⟩
              dsimp only at h4 h5 h6 hmem
              rw [hlx] at h5
              obtain ⟨AS, cS, rfl⟩ := h4.slice
              obtain ⟨AT, cT, rfl⟩ := h5.slice
              obtain ⟨AE, cE, rfl⟩ := h6.slice
              have ha := HN.out.2
              have hil := HN.out.1.len
              have z0 : wr.cell? ⟨R, a.toNat * 3, none⟩ = some (.slice AS st.length cS) := (HN.out.1.own.cellAt _ (by omega)).trans (by rw [ha]; exact h1)
              have z1 : wr.cell? ⟨R, a.toNat * 3 + 1, none⟩ = some (.slice AT lx.length cT) := (HN.out.1.own.cellAt _ (by omega)).trans (by rw [ha]; exact h2)
              have z2 : wr.cell? ⟨R, a.toNat * 3 + 2, none⟩ = some (.slice AE en.length cE) := (HN.out.1.own.cellAt _ (by omega)).trans (by rw [ha]; exact h3)
              obtain ⟨kw, hwh⟩ := where_eval st nx en y hmem.2.1 (by omega)
              rw [hlx] at hwh
              have ca : decide (a < (q.1.length : Int)) = true := decide_eq_true (by omega)
              have cab := eq_true (show a < (q.1.length : Int) by omega)
              have ca0 := eq_true ga0
              have i2a := eq_true HI2.out.1
              have i2b := eq_true HI2.out.2
              have hcall := fun r hr => quarryref23_where.calls kw AS cS st AT cT lx AE cE en y.f0 y.f1 y.f2 r wr.drew h4.reads.2.2 h4.reads.2.1 h5.reads.2.2 h5.reads.2.1 h6.reads.2.2 h6.reads.2.1 hr
              have HA := Aside0.mk (And.intro ga0 (And.intro ha hlt3))
              have HC3 := Aside0.mk (And.intro h1 (And.intro h2 h3))
              have HFL := Aside0.mk (And.intro h4 (And.intro h5 h6))
              have HKK := Aside0.mk hk
              have HLX := Aside0.mk hlx
              have HWF3 := Aside0.mk hWf3
              have HK3 := Aside0.mk hk3
              have HMEM := Aside0.mk hmem
              have hql : q.1.length ≤ 1073741825 := by have := hWf3.len; omega
              clear h1 h2 h3 h4 h5 h6 hk hlx hWf3 hk3 hmem hne ha hlt3 hil ga0 g0 gl gk2 c1 HK
              cases hf : findS st y with
              | some m =>
                rw [hf] at hwh
                obtain ⟨r, hr⟩ : ∃ r : Int, r = ((nx.getD m 0 : Nat) : Int) := ⟨_, rfl⟩
                have hwh2 : quarryref23_where.f kw st lx en y.f0 y.f1 y.f2 = some r := by rw [hr]; exact hwh
                have HWH := Aside0.mk (hcall _ hwh2)
                have hs : stepP q.1 q.2 y = (q.1, nx.getD m 0) := by
                  unfold stepP
                  rw [HKK.out]
                  show (match findS st y with | some m => (q.1, nx.getD m 0) | none => _) = _
                  rw [hf]
                have HRR : Aside0 (0 ≤ r ∧ r.toNat = nx.getD m 0) := ⟨by omega, by omega⟩
                have cr : decide (r < 0) = false := decide_eq_false (by omega)
                have HS3 := Aside0.mk hs
                clear hcall hwh hwh2 hf hs hr
                go_wp2
                refine start_ (n := 13) (S := fun w' => w'.cell? ⟨R, a.toNat * 3, none⟩ = some (.slice AS st.length cS) ∧ w'.cell? ⟨R, a.toNat * 3 + 1, none⟩ = some (.slice AT lx.length cT) ∧ w'.cell? ⟨R, a.toNat * 3 + 2, none⟩ = some (.slice AE en.length cE) ∧ w'.cell? (ad.add i2.toNat) = some (.slice (some adp) p.length cP) ∧ w'.cell? (adp.add (j.toNat * 3)) = some (.int .i64 y.f0) ∧ w'.cell? ⟨(adp.add (j.toNat * 3)).block, (adp.add (j.toNat * 3)).off + 1, none⟩ = some (.string y.f1) ∧ w'.cell? ⟨(adp.add (j.toNat * 3)).block, (adp.add (j.toNat * 3)).off + 2, none⟩ = some (.int .i64 y.f2)) (ds := [11]) #[false, false, false, false, false, false, false, false, false, false, false, false, false] (by kernel_rfl) rfl rfl ⟨z0, z1, z2, x0, x1, x2, x3⟩ (fun hHeld => ?_)
                refine pure_ (i := 0) (N := some 42) (v := ?_) (a' := ?_) #[true, false, false, false, false, false, false, false, false, false, false, false, false] rfl rfl (by kernel_rfl) (fun _ _ _ h => h) (Or.inl ⟨by rfl, ?_⟩) ?_ ?_
                rotate_left
                · intro w'
                  go_simp
                  with_reducible rfl
                rotate_left
                · simp only [Act.put, List.setIfInBounds_toArray, List.set_cons_zero, List.set_cons_succ, i64_w, i32_w]
                  rfl
                refine pure_ (i := 1) (N := some 43) (v := ?_) (a' := ?_) #[true, true, false, false, false, false, false, false, false, false, false, false, false] rfl rfl (by kernel_rfl) (fun _ _ _ h => h) (Or.inl ⟨by rfl, ?_⟩) ?_ ?_
                rotate_left
                · intro w'
                  go_simp
                  with_reducible rfl
                rotate_left
                · simp only [Act.put, List.setIfInBounds_toArray, List.set_cons_zero, List.set_cons_succ, i64_w, i32_w]
                  rfl
                refine pure_ (i := 2) (N := some 44) (v := ?_) (a' := ?_) #[true, true, true, false, false, false, false, false, false, false, false, false, false] rfl rfl (by kernel_rfl) (fun _ _ _ h => h) (Or.inl ⟨by rfl, ?_⟩) ?_ ?_
                rotate_left
                · intro w'
                  go_simp
                  with_reducible rfl
                rotate_left
                · simp only [Act.put, List.setIfInBounds_toArray, List.set_cons_zero, List.set_cons_succ, i64_w, i32_w]
                  rfl
                refine pure_ (i := 4) (N := some 46) (v := ?_) (a' := ?_) #[true, true, true, false, true, false, false, false, false, false, false, false, false] rfl rfl (by kernel_rfl) (fun _ _ _ h => h) (Or.inl ⟨by rfl, ?_⟩) ?_ ?_
                rotate_left
                · intro w'
                  go_simp
                  with_reducible rfl
                rotate_left
                · simp only [Act.put, List.setIfInBounds_toArray, List.set_cons_zero, List.set_cons_succ, i64_w, i32_w]
                  rfl
                refine pure_ (i := 5) (N := some 47) (v := ?_) (a' := ?_) #[true, true, true, false, true, true, false, false, false, false, false, false, false] rfl rfl (by kernel_rfl) (fun _ _ _ h => h) (Or.inl ⟨by rfl, ?_⟩) ?_ ?_
                rotate_left
                · intro w'
                  go_simp
                  with_reducible rfl
                rotate_left
                · simp only [Act.put, List.setIfInBounds_toArray, List.set_cons_zero, List.set_cons_succ, i64_w, i32_w]
                  rfl
                refine pure_ (i := 6) (N := some 48) (v := ?_) (a' := ?_) #[true, true, true, false, true, true, true, false, false, false, false, false, false] rfl rfl (by kernel_rfl) (fun _ _ _ h => h) (Or.inl ⟨by rfl, ?_⟩) ?_ ?_
                rotate_left
                · intro w'
                  go_simp
                  with_reducible rfl
                rotate_left
                · simp only [Act.put, List.setIfInBounds_toArray, List.set_cons_zero, List.set_cons_succ, i64_w, i32_w]
                  rfl
                refine pure_ (i := 8) (N := some 50) (v := ?_) (a' := ?_) #[true, true, true, false, true, true, true, false, true, false, false, false, false] rfl rfl (by kernel_rfl) (fun _ _ _ h => h) (Or.inl ⟨by rfl, ?_⟩) ?_ ?_
                rotate_left
                · intro w'
                  go_simp
                  with_reducible rfl
                rotate_left
                · simp only [Act.put, List.setIfInBounds_toArray, List.set_cons_zero, List.set_cons_succ, i64_w, i32_w]
                  rfl
                refine take_ (i := 3) (N := some 45) (v := ?_) (a' := ?_) #[true, true, true, true, true, true, true, false, true, false, false, false, false] rfl rfl (by kernel_rfl) (fun _ _ _ h => h) (Or.inl ⟨by rfl, ?_⟩) hHeld ?_ ?_
                rotate_left
                · rintro w' ⟨s0, s1, s2, s3, s4, s5, s6⟩
                  go_simp
                  with_reducible rfl
                rotate_left
                · simp only [Act.put, List.setIfInBounds_toArray, List.set_cons_zero, List.set_cons_succ, i64_w, i32_w]
                  rfl
                refine take_ (i := 7) (N := some 49) (v := ?_) (a' := ?_) #[true, true, true, true, true, true, true, true, true, false, false, false, false] rfl rfl (by kernel_rfl) (fun _ _ _ h => h) (Or.inl ⟨by rfl, ?_⟩) hHeld ?_ ?_
                rotate_left
                · rintro w' ⟨s0, s1, s2, s3, s4, s5, s6⟩
                  go_simp
                  with_reducible rfl
                rotate_left
                · simp only [Act.put, List.setIfInBounds_toArray, List.set_cons_zero, List.set_cons_succ, i64_w, i32_w]
                  rfl
                refine pure_ (i := 9) (N := some 51) (v := ?_) (a' := ?_) #[true, true, true, true, true, true, true, true, true, true, false, false, false] rfl rfl (by kernel_rfl) (fun _ _ _ h => h) (Or.inl ⟨by rfl, ?_⟩) ?_ ?_
                rotate_left
                · intro w'
                  go_simp
                  with_reducible rfl
                rotate_left
                · simp only [Act.put, List.setIfInBounds_toArray, List.set_cons_zero, List.set_cons_succ, i64_w, i32_w]
                  rfl
                refine take_ (i := 10) (N := some 52) (v := ?_) (a' := ?_) #[true, true, true, true, true, true, true, true, true, true, true, false, false] rfl rfl (by kernel_rfl) (fun _ _ _ h => h) (Or.inl ⟨by rfl, ?_⟩) hHeld ?_ ?_
                rotate_left
                · rintro w' ⟨s0, s1, s2, s3, s4, s5, s6⟩
                  go_simp
                  with_reducible rfl
                rotate_left
                · simp only [Act.put, List.setIfInBounds_toArray, List.set_cons_zero, List.set_cons_succ, i64_w, i32_w]
                  rfl
                refine last_ (i := 11) (N := some 53) #[true, true, true, true, true, true, true, true, true, true, true, true, false] rfl rfl (by kernel_rfl) (by decide) (fun K hK => ?_)
                refine goes_ Try.func43 (by kernel_rfl) rfl #[.agg #[.slice AS st.length cS, .slice AT lx.length cT, .slice AE en.length cE], .agg #[.int .i64 y.f0, .string y.f1, .int .i64 y.f2]] (by rfl) rfl rfl (by simp only [List.map_toArray, List.map_cons, List.map_nil]; rfl) ?_
                with_reducible refine (HWH.out).mono ?_
                rintro e w3 ⟨rfl, hb3⟩
                refine ⟨_, rfl, ?_⟩
                refine hK.out _ _ ?_
                clear hK K
                refine norm_ (a' := ?_) ?_ ?_
                rotate_left
                · show Act.put _ (some 53) _ = _
                  simp only [Act.put, List.setIfInBounds_toArray, List.set_cons_zero, List.set_cons_succ, i64_w, i32_w]
                  rfl
                refine pure_ (i := 12) (N := some 9) (v := ?_) (a' := ?_) #[true, true, true, true, true, true, true, true, true, true, true, true, true] rfl rfl (by kernel_rfl) (fun _ _ _ h => h) (Or.inl ⟨by rfl, ?_⟩) ?_ ?_
                rotate_left
                · intro w'
                  go_simp
                  with_reducible rfl
                rotate_left
                · simp only [Act.put, List.setIfInBounds_toArray, List.set_cons_zero, List.set_cons_succ, i64_w, i32_w]
                  rfl
                refine done_ (by kernel_rfl) ?_
                have HB3 := Aside0.mk (below_step HB.out (below_step (below_drew1 (Below.refl wr.heap.size wr)) hb3))
                have HN3 : Aside0 (Rf w.heap.size w3 (.slice (some ⟨R, 0, none⟩) q.1.length c5) inner (walkN T0 p (j + 1).toNat).1 ∧ r.toNat = (walkN T0 p (j + 1).toNat).2) := ⟨by
                  rw [HS2.out, HS3.out]
                  exact ⟨HN.out.1.below (below_step (below_drew1 (Below.refl wr.heap.size wr)) hb3), HRR.out.2⟩⟩
                clear hb3 z0 z1 z2 x0 x1 x2 x3 HN HB HFL HWH
                go_wp2
                go_roundg k2
                case measure => omega
                case rel => exact ⟨j + 1, r, inner, rfl, rfl, ⟨REL2.out.1, REL2.out.2.1, REL2.out.2.2, HRR.out.1⟩, HN3, HB3⟩
              | none =>
                rw [hf] at hwh
                have hwh2 : quarryref23_where.f kw st lx en y.f0 y.f1 y.f2 = some (-1) := hwh
                have HWH := Aside0.mk (hcall _ hwh2)
                have hs : stepP q.1 q.2 y = (q.1.set q.2 ⟨st ++ [y], nx ++ [q.1.length], en⟩ ++ [noP], q.1.length) := by
                  unfold stepP
                  rw [HKK.out]
                  show (match findS st y with | some m => (q.1, nx.getD m 0) | none => _) = _
                  rw [hf]
                have HS3 := Aside0.mk hs
                have HQL := Aside0.mk hql
                clear hcall hwh hwh2 hf hs
                go_wp2
                refine start_ (n := 13) (S := fun w' => w'.cell? ⟨R, a.toNat * 3, none⟩ = some (.slice AS st.length cS) ∧ w'.cell? ⟨R, a.toNat * 3 + 1, none⟩ = some (.slice AT lx.length cT) ∧ w'.cell? ⟨R, a.toNat * 3 + 2, none⟩ = some (.slice AE en.length cE) ∧ w'.cell? (ad.add i2.toNat) = some (.slice (some adp) p.length cP) ∧ w'.cell? (adp.add (j.toNat * 3)) = some (.int .i64 y.f0) ∧ w'.cell? ⟨(adp.add (j.toNat * 3)).block, (adp.add (j.toNat * 3)).off + 1, none⟩ = some (.string y.f1) ∧ w'.cell? ⟨(adp.add (j.toNat * 3)).block, (adp.add (j.toNat * 3)).off + 2, none⟩ = some (.int .i64 y.f2)) (ds := [11]) #[false, false, false, false, false, false, false, false, false, false, false, false, false] (by kernel_rfl) rfl rfl ⟨z0, z1, z2, x0, x1, x2, x3⟩ (fun hHeld => ?_)
                refine pure_ (i := 0) (N := some 42) (v := ?_) (a' := ?_) #[true, false, false, false, false, false, false, false, false, false, false, false, false] rfl rfl (by kernel_rfl) (fun _ _ _ h => h) (Or.inl ⟨by rfl, ?_⟩) ?_ ?_
                rotate_left
                · intro w'
                  go_simp
                  with_reducible rfl
                rotate_left
                · simp only [Act.put, List.setIfInBounds_toArray, List.set_cons_zero, List.set_cons_succ, i64_w, i32_w]
                  rfl
                refine pure_ (i := 1) (N := some 43) (v := ?_) (a' := ?_) #[true, true, false, false, false, false, false, false, false, false, false, false, false] rfl rfl (by kernel_rfl) (fun _ _ _ h => h) (Or.inl ⟨by rfl, ?_⟩) ?_ ?_
                rotate_left
                · intro w'
                  go_simp
                  with_reducible rfl
                rotate_left
                · simp only [Act.put, List.setIfInBounds_toArray, List.set_cons_zero, List.set_cons_succ, i64_w, i32_w]
                  rfl
                refine pure_ (i := 2) (N := some 44) (v := ?_) (a' := ?_) #[true, true, true, false, false, false, false, false, false, false, false, false, false] rfl rfl (by kernel_rfl) (fun _ _ _ h => h) (Or.inl ⟨by rfl, ?_⟩) ?_ ?_
                rotate_left
                · intro w'
                  go_simp
                  with_reducible rfl
                rotate_left
                · simp only [Act.put, List.setIfInBounds_toArray, List.set_cons_zero, List.set_cons_succ, i64_w, i32_w]
                  rfl
                refine pure_ (i := 4) (N := some 46) (v := ?_) (a' := ?_) #[true, true, true, false, true, false, false, false, false, false, false, false, false] rfl rfl (by kernel_rfl) (fun _ _ _ h => h) (Or.inl ⟨by rfl, ?_⟩) ?_ ?_
                rotate_left
                · intro w'
                  go_simp
                  with_reducible rfl
                rotate_left
                · simp only [Act.put, List.setIfInBounds_toArray, List.set_cons_zero, List.set_cons_succ, i64_w, i32_w]
                  rfl
                refine pure_ (i := 5) (N := some 47) (v := ?_) (a' := ?_) #[true, true, true, false, true, true, false, false, false, false, false, false, false] rfl rfl (by kernel_rfl) (fun _ _ _ h => h) (Or.inl ⟨by rfl, ?_⟩) ?_ ?_
                rotate_left
                · intro w'
                  go_simp
                  with_reducible rfl
                rotate_left
                · simp only [Act.put, List.setIfInBounds_toArray, List.set_cons_zero, List.set_cons_succ, i64_w, i32_w]
                  rfl
                refine pure_ (i := 6) (N := some 48) (v := ?_) (a' := ?_) #[true, true, true, false, true, true, true, false, false, false, false, false, false] rfl rfl (by kernel_rfl) (fun _ _ _ h => h) (Or.inl ⟨by rfl, ?_⟩) ?_ ?_
                rotate_left
                · intro w'
                  go_simp
                  with_reducible rfl
                rotate_left
                · simp only [Act.put, List.setIfInBounds_toArray, List.set_cons_zero, List.set_cons_succ, i64_w, i32_w]
                  rfl
                refine pure_ (i := 8) (N := some 50) (v := ?_) (a' := ?_) #[true, true, true, false, true, true, true, false, true, false, false, false, false] rfl rfl (by kernel_rfl) (fun _ _ _ h => h) (Or.inl ⟨by rfl, ?_⟩) ?_ ?_
                rotate_left
                · intro w'
                  go_simp
                  with_reducible rfl
                rotate_left
                · simp only [Act.put, List.setIfInBounds_toArray, List.set_cons_zero, List.set_cons_succ, i64_w, i32_w]
                  rfl
                refine take_ (i := 3) (N := some 45) (v := ?_) (a' := ?_) #[true, true, true, true, true, true, true, false, true, false, false, false, false] rfl rfl (by kernel_rfl) (fun _ _ _ h => h) (Or.inl ⟨by rfl, ?_⟩) hHeld ?_ ?_
                rotate_left
                · rintro w' ⟨s0, s1, s2, s3, s4, s5, s6⟩
                  go_simp
                  with_reducible rfl
                rotate_left
                · simp only [Act.put, List.setIfInBounds_toArray, List.set_cons_zero, List.set_cons_succ, i64_w, i32_w]
                  rfl
                refine take_ (i := 7) (N := some 49) (v := ?_) (a' := ?_) #[true, true, true, true, true, true, true, true, true, false, false, false, false] rfl rfl (by kernel_rfl) (fun _ _ _ h => h) (Or.inl ⟨by rfl, ?_⟩) hHeld ?_ ?_
                rotate_left
                · rintro w' ⟨s0, s1, s2, s3, s4, s5, s6⟩
                  go_simp
                  with_reducible rfl
                rotate_left
                · simp only [Act.put, List.setIfInBounds_toArray, List.set_cons_zero, List.set_cons_succ, i64_w, i32_w]
                  rfl
                refine pure_ (i := 9) (N := some 51) (v := ?_) (a' := ?_) #[true, true, true, true, true, true, true, true, true, true, false, false, false] rfl rfl (by kernel_rfl) (fun _ _ _ h => h) (Or.inl ⟨by rfl, ?_⟩) ?_ ?_
                rotate_left
                · intro w'
                  go_simp
                  with_reducible rfl
                rotate_left
                · simp only [Act.put, List.setIfInBounds_toArray, List.set_cons_zero, List.set_cons_succ, i64_w, i32_w]
                  rfl
                refine take_ (i := 10) (N := some 52) (v := ?_) (a' := ?_) #[true, true, true, true, true, true, true, true, true, true, true, false, false] rfl rfl (by kernel_rfl) (fun _ _ _ h => h) (Or.inl ⟨by rfl, ?_⟩) hHeld ?_ ?_
                rotate_left
                · rintro w' ⟨s0, s1, s2, s3, s4, s5, s6⟩
                  go_simp
                  with_reducible rfl
                rotate_left
                · simp only [Act.put, List.setIfInBounds_toArray, List.set_cons_zero, List.set_cons_succ, i64_w, i32_w]
                  rfl
                refine last_ (i := 11) (N := some 53) #[true, true, true, true, true, true, true, true, true, true, true, true, false] rfl rfl (by kernel_rfl) (by decide) (fun K hK => ?_)
                refine goes_ Try.func43 (by kernel_rfl) rfl #[.agg #[.slice AS st.length cS, .slice AT lx.length cT, .slice AE en.length cE], .agg #[.int .i64 y.f0, .string y.f1, .int .i64 y.f2]] (by rfl) rfl rfl (by simp only [List.map_toArray, List.map_cons, List.map_nil]; rfl) ?_
                with_reducible refine (HWH.out).mono ?_
                rintro e w3 ⟨rfl, hb3⟩
                refine ⟨_, rfl, ?_⟩
                refine hK.out _ _ ?_
                clear hK K
                refine norm_ (a' := ?_) ?_ ?_
                rotate_left
                · show Act.put _ (some 53) _ = _
                  simp only [Act.put, List.setIfInBounds_toArray, List.set_cons_zero, List.set_cons_succ, i64_w, i32_w]
                  rfl
                refine pure_ (i := 12) (N := some 9) (v := ?_) (a' := ?_) #[true, true, true, true, true, true, true, true, true, true, true, true, true] rfl rfl (by kernel_rfl) (fun _ _ _ h => h) (Or.inl ⟨by rfl, ?_⟩) ?_ ?_
                rotate_left
                · intro w'
                  go_simp
                  with_reducible rfl
                rotate_left
                · simp only [Act.put, List.setIfInBounds_toArray, List.set_cons_zero, List.set_cons_succ, i64_w, i32_w]
                  rfl
                refine done_ (by kernel_rfl) ?_
                have hbw := below_step (below_drew1 (Below.refl wr.heap.size wr)) hb3
                have HB3 := Aside0.mk (below_step HB.out hbw)
                have HN3 := Aside0.mk (HN.out.1.below hbw)
                replace z0 := pw_cell_below hbw z0
                replace x0 := pw_cell_below hbw x0
                replace x1 := pw_cell_below hbw x1
                replace x2 := pw_cell_below hbw x2
                replace x3 := pw_cell_below hbw x3
                have FS3 := Aside0.mk (HFL.out.1.below hbw)
                obtain ⟨csR, hRl⟩ := own_typed HN3.out.own R rfl
                have hRS : some R ≠ Value.ownBlock (.slice AS st.length cS) := HN3.out.cellRow HC3.out.1 R rfl
                have FR : Aside0 (∀ w', w3.grownBy w' (Value.ownBlock (.slice AS st.length cS)) → w'.cell? ⟨R, a.toNat * 3, none⟩ = some (.slice AS st.length cS) ∧ w'.frozen? ⟨R, a.toNat * 3, none⟩ = false) := ⟨fun w' hg => ⟨cell_grown hg z0 hRS, blk_frozen (blk_grown hRl hg hRS) _⟩⟩
                have HST : Aside0 (st.length + 1 ≤ maxLen ∧ (st.length + 1) * 32 ≤ 140737488355328) := ⟨by have h1 := HMEM.out.1; have h2 := HK3.out; unfold maxLen; omega⟩
                clear hbw hb3 z1 z2 HN HB HFL HWH hRl hRS
                go_wp2
                refine start_ (n := 19) (S := fun w' => w'.cell? ⟨R, a.toNat * 3, none⟩ = some (.slice AS st.length cS) ∧ w'.cell? (ad.add i2.toNat) = some (.slice (some adp) p.length cP) ∧ w'.cell? (adp.add (j.toNat * 3)) = some (.int .i64 y.f0) ∧ w'.cell? ⟨(adp.add (j.toNat * 3)).block, (adp.add (j.toNat * 3)).off + 1, none⟩ = some (.string y.f1) ∧ w'.cell? ⟨(adp.add (j.toNat * 3)).block, (adp.add (j.toNat * 3)).off + 2, none⟩ = some (.int .i64 y.f2)) (ds := [15, 18]) #[false, false, false, false, false, false, false, false, false, false, false, false, false, false, false, false, false, false, false] (by kernel_rfl) rfl rfl ⟨z0, x0, x1, x2, x3⟩ (fun hHeld => ?_)
                refine pure_ (i := 0) (N := some 58) (v := ?_) (a' := ?_) #[true, false, false, false, false, false, false, false, false, false, false, false, false, false, false, false, false, false, false] rfl rfl (by kernel_rfl) (fun _ _ _ h => h) (Or.inl ⟨by rfl, ?_⟩) ?_ ?_
                rotate_left
                · intro w'
                  go_simp
                  with_reducible rfl
                rotate_left
                · simp only [Act.put, List.setIfInBounds_toArray, List.set_cons_zero, List.set_cons_succ, i64_w, i32_w]
                  rfl
                refine pure_ (i := 1) (N := some 59) (v := ?_) (a' := ?_) #[true, true, false, false, false, false, false, false, false, false, false, false, false, false, false, false, false, false, false] rfl rfl (by kernel_rfl) (fun _ _ _ h => h) (Or.inl ⟨by rfl, ?_⟩) ?_ ?_
                rotate_left
                · intro w'
                  go_simp
                  with_reducible rfl
                rotate_left
                · simp only [Act.put, List.setIfInBounds_toArray, List.set_cons_zero, List.set_cons_succ, i64_w, i32_w]
                  rfl
                refine pure_ (i := 2) (N := some 60) (v := ?_) (a' := ?_) #[true, true, true, false, false, false, false, false, false, false, false, false, false, false, false, false, false, false, false] rfl rfl (by kernel_rfl) (fun _ _ _ h => h) (Or.inl ⟨by rfl, ?_⟩) ?_ ?_
                rotate_left
                · intro w'
                  go_simp
                  with_reducible rfl
                rotate_left
                · simp only [Act.put, List.setIfInBounds_toArray, List.set_cons_zero, List.set_cons_succ, i64_w, i32_w]
                  rfl
                refine pure_ (i := 3) (N := some 61) (v := ?_) (a' := ?_) #[true, true, true, true, false, false, false, false, false, false, false, false, false, false, false, false, false, false, false] rfl rfl (by kernel_rfl) (fun _ _ _ h => h) (Or.inl ⟨by rfl, ?_⟩) ?_ ?_
                rotate_left
                · intro w'
                  go_simp
                  with_reducible rfl
                rotate_left
                · simp only [Act.put, List.setIfInBounds_toArray, List.set_cons_zero, List.set_cons_succ, i64_w, i32_w]
                  rfl
                refine pure_ (i := 4) (N := some 62) (v := ?_) (a' := ?_) #[true, true, true, true, true, false, false, false, false, false, false, false, false, false, false, false, false, false, false] rfl rfl (by kernel_rfl) (fun _ _ _ h => h) (Or.inl ⟨by rfl, ?_⟩) ?_ ?_
                rotate_left
                · intro w'
                  go_simp
                  with_reducible rfl
                rotate_left
                · simp only [Act.put, List.setIfInBounds_toArray, List.set_cons_zero, List.set_cons_succ, i64_w, i32_w]
                  rfl
                refine pure_ (i := 5) (N := some 63) (v := ?_) (a' := ?_) #[true, true, true, true, true, true, false, false, false, false, false, false, false, false, false, false, false, false, false] rfl rfl (by kernel_rfl) (fun _ _ _ h => h) (Or.inl ⟨by rfl, ?_⟩) ?_ ?_
                rotate_left
                · intro w'
                  go_simp
                  with_reducible rfl
                rotate_left
                · simp only [Act.put, List.setIfInBounds_toArray, List.set_cons_zero, List.set_cons_succ, i64_w, i32_w]
                  rfl
                refine pure_ (i := 7) (N := some 65) (v := ?_) (a' := ?_) #[true, true, true, true, true, true, false, true, false, false, false, false, false, false, false, false, false, false, false] rfl rfl (by kernel_rfl) (fun _ _ _ h => h) (Or.inl ⟨by rfl, ?_⟩) ?_ ?_
                rotate_left
                · intro w'
                  go_simp
                  with_reducible rfl
                rotate_left
                · simp only [Act.put, List.setIfInBounds_toArray, List.set_cons_zero, List.set_cons_succ, i64_w, i32_w]
                  rfl
                refine pure_ (i := 8) (N := some 66) (v := ?_) (a' := ?_) #[true, true, true, true, true, true, false, true, true, false, false, false, false, false, false, false, false, false, false] rfl rfl (by kernel_rfl) (fun _ _ _ h => h) (Or.inl ⟨by rfl, ?_⟩) ?_ ?_
                rotate_left
                · intro w'
                  go_simp
                  with_reducible rfl
                rotate_left
                · simp only [Act.put, List.setIfInBounds_toArray, List.set_cons_zero, List.set_cons_succ, i64_w, i32_w]
                  rfl
                refine pure_ (i := 9) (N := some 67) (v := ?_) (a' := ?_) #[true, true, true, true, true, true, false, true, true, true, false, false, false, false, false, false, false, false, false] rfl rfl (by kernel_rfl) (fun _ _ _ h => h) (Or.inl ⟨by rfl, ?_⟩) ?_ ?_
                rotate_left
                · intro w'
                  go_simp
                  with_reducible rfl
                rotate_left
                · simp only [Act.put, List.setIfInBounds_toArray, List.set_cons_zero, List.set_cons_succ, i64_w, i32_w]
                  rfl
                refine pure_ (i := 11) (N := some 69) (v := ?_) (a' := ?_) #[true, true, true, true, true, true, false, true, true, true, false, true, false, false, false, false, false, false, false] rfl rfl (by kernel_rfl) (fun _ _ _ h => h) (Or.inl ⟨by rfl, ?_⟩) ?_ ?_
                rotate_left
                · intro w'
                  go_simp
                  with_reducible rfl
                rotate_left
                · simp only [Act.put, List.setIfInBounds_toArray, List.set_cons_zero, List.set_cons_succ, i64_w, i32_w]
                  rfl
                refine take_ (i := 6) (N := some 64) (v := ?_) (a' := ?_) #[true, true, true, true, true, true, true, true, true, true, false, true, false, false, false, false, false, false, false] rfl rfl (by kernel_rfl) (fun _ _ _ h => h) (Or.inl ⟨by rfl, ?_⟩) hHeld ?_ ?_
                rotate_left
                · rintro w' ⟨s0, s1, s2, s3, s4⟩
                  go_simp
                  with_reducible rfl
                rotate_left
                · simp only [Act.put, List.setIfInBounds_toArray, List.set_cons_zero, List.set_cons_succ, i64_w, i32_w]
                  rfl
                refine take_ (i := 10) (N := some 68) (v := ?_) (a' := ?_) #[true, true, true, true, true, true, true, true, true, true, true, true, false, false, false, false, false, false, false] rfl rfl (by kernel_rfl) (fun _ _ _ h => h) (Or.inl ⟨by rfl, ?_⟩) hHeld ?_ ?_
                rotate_left
                · rintro w' ⟨s0, s1, s2, s3, s4⟩
                  go_simp
                  with_reducible rfl
                rotate_left
                · simp only [Act.put, List.setIfInBounds_toArray, List.set_cons_zero, List.set_cons_succ, i64_w, i32_w]
                  rfl
                refine pure_ (i := 12) (N := some 70) (v := ?_) (a' := ?_) #[true, true, true, true, true, true, true, true, true, true, true, true, true, false, false, false, false, false, false] rfl rfl (by kernel_rfl) (fun _ _ _ h => h) (Or.inl ⟨by rfl, ?_⟩) ?_ ?_
                rotate_left
                · intro w'
                  go_simp
                  with_reducible rfl
                rotate_left
                · simp only [Act.put, List.setIfInBounds_toArray, List.set_cons_zero, List.set_cons_succ, i64_w, i32_w]
                  rfl
                refine take_ (i := 13) (N := some 71) (v := ?_) (a' := ?_) #[true, true, true, true, true, true, true, true, true, true, true, true, true, true, false, false, false, false, false] rfl rfl (by kernel_rfl) (fun _ _ _ h => h) (Or.inl ⟨by rfl, ?_⟩) hHeld ?_ ?_
                rotate_left
                · rintro w' ⟨s0, s1, s2, s3, s4⟩
                  go_simp
                  with_reducible rfl
                rotate_left
                · simp only [Act.put, List.setIfInBounds_toArray, List.set_cons_zero, List.set_cons_succ, i64_w, i32_w]
                  rfl
                refine one_ (i := 14) (N := some 72) #[true, true, true, true, true, true, true, true, true, true, true, true, true, true, true, false, false, false, false] rfl rfl (by kernel_rfl) (by decide) (fun K hK => ?_)
                refine value_ (w1 := ?_) (v := ?_) (by rfl) rfl ?_ ?_
                rotate_left 2
                · go_simp
                  constructor
                  · rfl
                  · rfl
                refine hK.out _ _ ⟨(cell_grown ((grown_drew9 w3 none).trans (World.grownBy_alloc _ _ none)) z0 (by simp)), (cell_grown ((grown_drew9 w3 none).trans (World.grownBy_alloc _ _ none)) x0 (by simp)), (cell_grown ((grown_drew9 w3 none).trans (World.grownBy_alloc _ _ none)) x1 (by simp)), (cell_grown ((grown_drew9 w3 none).trans (World.grownBy_alloc _ _ none)) x2 (by simp)), (cell_grown ((grown_drew9 w3 none).trans (World.grownBy_alloc _ _ none)) x3 (by simp))⟩ (fun hHeld => ?_)
                clear hK K
                refine norm_ (a' := ?_) ?_ ?_
                rotate_left
                · show Act.put _ (some 72) _ = _
                  simp only [Act.put, List.setIfInBounds_toArray, List.set_cons_zero, List.set_cons_succ, i64_w, i32_w]
                  rfl
                refine last_ (i := 15) (N := some 73) #[true, true, true, true, true, true, true, true, true, true, true, true, true, true, true, true, false, false, false] rfl rfl (by kernel_rfl) (by decide) (fun K hK => ?_)
                refine step_append_flat (d := k53) rfl (.tmp 64) (.tmp 72) 45 rfl w.heap.size 53 iS _ 32 Try.underlying45 iS1 iS2 iS3 iS4 rfl (by decide) (.slice AS st.length cS) st (by rfl) (FS3.out.grown (row := none) ((grown_drew9 w3 none).trans (World.grownBy_alloc _ _ none)) (fun _ h => by cases h)) y _ (k53_mkM _ _ _ _) w3.heap.size _ 53 (by rfl) (blk_new9 rfl) HST.out.1 HST.out.2 (Nat.le_trans HB3.out.size ((grown_drew9 w3 none).trans (World.grownBy_alloc _ _ none)).size) ?_
                intro gA cA w4 hF4 hG4 hA4 hl4
                have hGG := World.grownBy.trans ((grown_drew9 w3 _).trans (World.grownBy_alloc _ _ _)) hG4
                obtain ⟨k4, f4⟩ := FR.out w4 hGG
                refine hK.out _ _ ?_
                clear hK K
                refine norm_ (a' := ?_) ?_ ?_
                rotate_left
                · show Act.put _ (some 73) _ = _
                  simp only [Act.put, List.setIfInBounds_toArray, List.set_cons_zero, List.set_cons_succ, i64_w, i32_w]
                  rfl
                refine pure_ (i := 16) (N := some 74) (v := ?_) (a' := ?_) #[true, true, true, true, true, true, true, true, true, true, true, true, true, true, true, true, true, false, false] rfl rfl (by kernel_rfl) (fun _ _ _ h => h) (Or.inl ⟨by rfl, ?_⟩) ?_ ?_
                rotate_left
                · intro w'
                  go_simp
                  with_reducible rfl
                rotate_left
                · simp only [Act.put, List.setIfInBounds_toArray, List.set_cons_zero, List.set_cons_succ, i64_w, i32_w]
                  rfl
                refine pure_ (i := 17) (N := some 75) (v := ?_) (a' := ?_) #[true, true, true, true, true, true, true, true, true, true, true, true, true, true, true, true, true, true, false] rfl rfl (by kernel_rfl) (fun _ _ _ h => h) (Or.inl ⟨by rfl, ?_⟩) ?_ ?_
                rotate_left
                · intro w'
                  go_simp
                  with_reducible rfl
                rotate_left
                · simp only [Act.put, List.setIfInBounds_toArray, List.set_cons_zero, List.set_cons_succ, i64_w, i32_w]
                  rfl
                refine last_ (i := 18) (N := none) #[true, true, true, true, true, true, true, true, true, true, true, true, true, true, true, true, true, true, true] rfl rfl (by kernel_rfl) (by decide) (fun K hK => ?_)
                refine skip_ (w1 := ?_) (by rfl) rfl ?_ ?_
                rotate_left
                · go_simp
                  rfl
                refine hK.out _ _ ?_
                clear hK K
                refine done_ (by kernel_rfl) ?_
                have hbx : Below w3.heap.size w3 (w3.alloc (.cells #[.int .i64 y.f0, .string y.f1, .int .i64 y.f2] 53)).drew := below_drew1 (below_alloc (Below.refl _ _) _)
                have hn4 : Near (w3.alloc (.cells #[.int .i64 y.f0, .string y.f1, .int .i64 y.f2] 53)).drew (.slice (some ⟨gA, 0, none⟩) (st.length + 1) cA) (.slice AS st.length cS) := hA4.elim (fun h => .inl (by rw [h]; rfl)) (fun h => .inr ⟨gA, rfl, Nat.le_of_eq h.symm⟩)
                have hP := (HN3.out.below hbx).turnS rfl HKK.out HC3.out.1 hG4 hn4 hF4
                have M3 := Aside0.mk (Below.setCell (p := ⟨R, a.toNat * 3, none⟩) (pw_below_grown HB3.out _ HB3.out.size hGG FS3.out.base) (own_base HN3.out.own R rfl) (.slice (some ⟨gA, 0, none⟩) (st.length + 1) cA))
                rw [← HA.out.2.1] at hP
                have MP := Aside0.mk hP
                clear hbx hn4 hP hF4 hG4 hA4 hl4 hGG k4 f4 HN3 HB3 FS3 FR HST hHeld z0 x0 x1 x2 x3 HC3
                generalize w4.setCell ⟨R, a.toNat * 3, none⟩ (.slice (some ⟨gA, 0, none⟩) (st.length + 1) cA) = X1 at MP M3 ⊢
                generalize inner.set (a.toNat * 3) (.slice (some ⟨gA, 0, none⟩) (st.length + 1) cA) = inn1 at MP
                have hka : a.toNat < q.1.length := by rw [HA.out.2.1]; exact HA.out.2.2
                have hk1 : (q.1.set a.toNat ⟨st ++ [y], nx, en⟩)[a.toNat]? = some ⟨st ++ [y], nx, en⟩ := List.getElem?_set_self hka
                obtain ⟨vS1, vT1, vE1, g1, g2, g3, g4, g5, g6⟩ := MP.out.at_ a.toNat _ hk1
                dsimp only at g5
                rw [HLX.out] at g5
                obtain ⟨AT2, cT2, hvt⟩ := g5.slice
                subst hvt
                have hown1 := MP.out.own
                rw [List.length_set] at hown1
                have z1 : X1.cell? ⟨R, a.toNat * 3 + 1, none⟩ = some (.slice AT2 lx.length cT2) := (hown1.cellAt _ (by omega)).trans g2
                obtain ⟨csR, hRl⟩ := own_typed MP.out.own R rfl
                have hRT : some R ≠ Value.ownBlock (.slice AT2 lx.length cT2) := MP.out.cellRow g2 R rfl
                have FR : Aside0 (∀ w', X1.grownBy w' (Value.ownBlock (.slice AT2 lx.length cT2)) → w'.cell? ⟨R, a.toNat * 3 + 1, none⟩ = some (.slice AT2 lx.length cT2) ∧ w'.frozen? ⟨R, a.toNat * 3 + 1, none⟩ = false) := ⟨fun w' hg => ⟨cell_grown hg z1 hRT, blk_frozen (blk_grown hRl hg hRT) _⟩⟩
                have FT3 := Aside0.mk g5
                have HG2 := Aside0.mk g2
                have HK1 := Aside0.mk hk1
                have hll : lx.length = st.length := by
                  rw [← HLX.out]
                  unfold castN
                  rw [List.length_map]
                  exact HMEM.out.2.1
                have HLT : Aside0 (lx.length + 1 ≤ maxLen ∧ (lx.length + 1) * 8 ≤ 140737488355328) := ⟨by have h1 := HMEM.out.1; have h2 := HK3.out; unfold maxLen; omega⟩
                clear g1 g2 g3 g4 g5 g6 hRl hRT hk1 hll hka hown1
                have hbx := below_alloc (Below.refl X1.heap.size X1) (.cells #[.int .i64 (q.1.length : Int)] 3)
                have HBX := Aside0.mk hbx
                have HNB : Aside0 (q.1.length + 1 ≤ maxLen ∧ (q.1.length + 1) * 72 ≤ 140737488355328) := ⟨by have := HQL.out; unfold maxLen; omega⟩
                clear hbx
                go_wp2_with (first
                  | (at_builtin; refine list_append_flat (d := Kd.int .i64) rfl (.tmp 82) (.tmp 84) 32 rfl w.heap.size 3 iI _ 8 Try.underlying32 iI1 iI2 iI3 iI4 rfl (by decide) (.slice AT2 lx.length cT2) lx (by rfl) (FT3.out.below HBX.out) (q.1.length : Int) _ rfl X1.heap.size _ 3 (by rfl) (blk_new _ _) HLT.out.1 HLT.out.2 (Nat.le_trans M3.out.size HBX.out.size) ?_; intro gB cB w5 hF5 hG5 hn5 hl5; have hGG := World.grownBy.trans (World.grownBy_alloc _ _ _) hG5; obtain ⟨k5, f5⟩ := FR.out w5 hGG;
                     have hP := (MP.out.below HBX.out).turnT (x := q.1.length) (by rw [List.length_set]) HK1.out HG2.out hG5 hn5 (by show Flat _ _ _ _ _ (castN nx ++ _); rw [HLX.out]; exact hF5); rw [List.set_set] at hP;
                     have N3 := Aside0.mk (Below.setCell (p := ⟨R, a.toNat * 3 + 1, none⟩) (pw_below_grown M3.out _ M3.out.size hGG FT3.out.base) (own_base MP.out.own R rfl) (.slice (some ⟨gB, 0, none⟩) (lx.length + 1) cB));
                     have hba := below_alloc (Below.refl (w5.setCell ⟨R, a.toNat * 3 + 1, none⟩ (.slice (some ⟨gB, 0, none⟩) (lx.length + 1) cB)).heap.size (w5.setCell ⟨R, a.toNat * 3 + 1, none⟩ (.slice (some ⟨gB, 0, none⟩) (lx.length + 1) cB))) (.cells #[.slice none 0 0, .slice none 0 0, .slice none 0 0] 50); have HBA := Aside0.mk hba; have hown := (hP.below hba).own; rw [List.length_set] at hown; have HOW := Aside0.mk hown; have NP := Aside0.mk hP; clear hP hba hown hF5 hG5 hn5 hl5 hGG MP M3 FT3 HBX HG2 HK1)
                  | (at_builtin; refine wpList_append_lies _ rfl (.tmp 88) (.tmp 90) 23 rfl w.heap.size 50 iN _ 3 72 Try.underlying23 iN1 iN2 iN3 iN4 rfl (by decide) (.slice (some ⟨R, 0, none⟩) q.1.length c5) q.1.length _ (by rfl) HOW.out ⟨w5.heap.size, 0, none⟩ 1 1 [.slice none 0 0, .slice none 0 0, .slice none 0 0] (by rfl) rfl (World.news_of_block (blk_new9 (w := (w5.setCell ⟨R, a.toNat * 3 + 1, none⟩ (.slice (some ⟨gB, 0, none⟩) (lx.length + 1) cB))) (n := w5.heap.size) (o := .cells #[.slice none 0 0, .slice none 0 0, .slice none 0 0] 50) (by simp [World.setCell]))) (by intro u hu; simp at hu; subst hu; rfl) (by decide) HNB.out.1 HNB.out.2 (Nat.le_trans N3.out.size HBA.out.size) _ rfl ?_; intro gC cC w6 hO6 hG6 hA6 hl6)
                  | fail)
                have hR6 := (NP.out.below HBA.out).grown (v' := .slice (some ⟨gC, 0, none⟩) (q.1.length + 1) cC) hG6 (by rw [List.length_set]; exact hO6)
                have P1 : Aside0 (Rf w.heap.size w6 (.slice (some ⟨gC, 0, none⟩) (q.1.length + 1) cC) (inn1.set (a.toNat * 3 + 1) (.slice (some ⟨gB, 0, none⟩) (lx.length + 1) cB) ++ [.slice none 0 0, .slice none 0 0, .slice none 0 0]) (walkN T0 p (j + 1).toNat).1 ∧ ((q.1.length : Int)).toNat = (walkN T0 p (j + 1).toNat).2) := ⟨by
                  rw [HS2.out, HS3.out, ← HA.out.2.1]
                  exact ⟨hR6, Int.toNat_natCast _⟩⟩
                have P2 := Aside0.mk (pw_below_grown (N3.out.alloc N3.out.size (.cells #[.slice none 0 0, .slice none 0 0, .slice none 0 0] 50)) _ (Nat.le_trans N3.out.size HBA.out.size) hG6 (own_base HOW.out))
                clear hR6 hO6 hG6 hA6 hl6 NP N3 HOW HBA HNB k5 f5 FR HLT z1
                go_roundg k2
                case measure => omega
                case rel => exact ⟨j + 1, (q.1.length : Int), _, rfl, rfl, ⟨REL2.out.1, REL2.out.2.1, REL2.out.2.2, Int.natCast_nonneg _⟩, P1, P2⟩
            · have c2b : decide (j < (p.length : Int)) = false := decide_eq_false c1
              have hj : j.toNat = p.length := by omega
              rw [hj] at HN
              have hWf3 := (wfP_walk HWF.out p p.length).1
              have hlt3 := (wfP_walk HWF.out p p.length).2
              generalize walkN T0 p p.length = q at *
              obtain ⟨R, c5, hv5, _, _⟩ := HN.out.1.own.form hWf3.pos
              subst hv5
              have hk : q.1[q.2]? = some (q.1[q.2]'hlt3) := List.getElem?_eq_getElem hlt3
              generalize q.1[q.2]'hlt3 = n at hk
              have hmem := hWf3.each _ (List.mem_of_getElem? hk)
              obtain ⟨vS, vT, vE, h1, h2, h3, h4, h5, h6⟩ := HN.out.1.at_ q.2 _ hk
              obtain ⟨AE, cE, hve⟩ := h6.slice
              subst hve
              have ha := HN.out.2
              have z2 : wr.cell? ⟨R, a.toNat * 3 + 2, none⟩ = some (.slice AE n.en.length cE) := (HN.out.1.own.cellAt _ (by omega)).trans (by rw [ha]; exact h3)
              obtain ⟨csR, hRl⟩ := own_typed HN.out.1.own R rfl
              have hRE : some R ≠ Value.ownBlock (.slice AE n.en.length cE) := HN.out.1.cellRow h3 R rfl
              have FR : Aside0 (∀ w', wr.grownBy w' (Value.ownBlock (.slice AE n.en.length cE)) → w'.cell? ⟨R, a.toNat * 3 + 2, none⟩ = some (.slice AE n.en.length cE) ∧ w'.frozen? ⟨R, a.toNat * 3 + 2, none⟩ = false) := ⟨fun w' hg => ⟨cell_grown hg z2 hRE, blk_frozen (blk_grown hRl hg hRE) _⟩⟩
              have FE := Aside0.mk h6
              have HH3 := Aside0.mk h3
              have HKK := Aside0.mk hk
              have HA := Aside0.mk (And.intro ha hlt3)
              have hen : n.en.length ≤ i2.toNat := hmem.2.2.1
              have HEN : Aside0 (n.en.length + 1 ≤ maxLen ∧ (n.en.length + 1) * 8 ≤ 140737488355328) := ⟨by have := H256.out; have := HI2.out; unfold maxLen; omega⟩
              have ca : decide (a < (q.1.length : Int)) = true := decide_eq_true (by omega)
              have cab := eq_true (show a < (q.1.length : Int) by omega)
              have ca0 := eq_true ga0
              have i2a := eq_true HI2.out.1
              have i2b := eq_true HI2.out.2
              have hbx := below_alloc (Below.refl wr.heap.size wr) (.cells #[.int .i64 i2] 3)
              have HBX := Aside0.mk hbx
              clear hbx hen hk ha h1 h2 h3 h4 h5 h6 hmem hWf3 hlt3 hRl hRE hj c1 g0 gl gk2 ga0 HK
              go_wp2_with (first
                | (at_builtin; refine list_append_flat (d := Kd.int .i64) rfl (.tmp 99) (.tmp 101) 32 rfl w.heap.size 3 iI _ 8 Try.underlying32 iI1 iI2 iI3 iI4 rfl (by decide) (.slice AE n.en.length cE) n.en (by rfl) (FE.out.below HBX.out) i2 _ rfl wr.heap.size _ 3 (by rfl) (blk_new _ _) HEN.out.1 HEN.out.2 (Nat.le_trans HB.out.size HBX.out.size) ?_; intro gB cB w5 hF5 hG5 hn5 hl5; have hGG := World.grownBy.trans (World.grownBy_alloc _ _ _) hG5; obtain ⟨k5, f5⟩ := FR.out w5 hGG;
                   have hP := (HN.out.1.below HBX.out).turnE (x := i2) rfl HKK.out HH3.out hG5 hn5 hF5; rw [← HA.out.1] at hP;
                   have N3 := Aside0.mk (Below.setCell (p := ⟨R, a.toNat * 3 + 2, none⟩) (pw_below_grown HB.out _ HB.out.size hGG FE.out.base) (own_base HN.out.1.own R rfl) (.slice (some ⟨gB, 0, none⟩) (n.en.length + 1) cB));
                   have NP := Aside0.mk hP; clear hP hF5 hG5 hn5 hl5 hGG FE HBX HH3 z2)
                | fail)
              have P1 : Aside0 (Rf w.heap.size (w5.setCell ⟨R, a.toNat * 3 + 2, none⟩ (.slice (some ⟨gB, 0, none⟩) (n.en.length + 1) cB)) (.slice (some ⟨R, 0, none⟩) q.1.length c5) (inner.set (a.toNat * 3 + 2) (.slice (some ⟨gB, 0, none⟩) (n.en.length + 1) cB)) (buildN l0 (i2 + 1).toNat)) := ⟨by
                rw [HSTB.out]
                unfold endP
                rw [HKK.out, ← HA.out.1]
                exact NP.out⟩
              clear NP k5 f5 FR HN HB HKK HEN
              go_roundg k1
              case measure => omega
              case rel => exact ⟨i2 + 1, _, rfl, REL, P1, N3⟩
        · have c1b : decide (i2 < (l0.length : Int)) = false := decide_eq_false c1
          have hi2 : i2.toNat = l0.length := by omega
          rw [hi2] at HN hWf
          have hTl : (buildN l0 i2.toNat).length = (buildN l0 l0.length).length := by rw [hi2]
          have hbl : (buildN l0 l0.length).length ≤ 1000000001 := by
            have h1 := hWf.len
            have h2 := HTOT.out
            omega
          have hr := HN.out.reads (by omega)
          have hcap := own_cap HN.out.own
          have HR := Aside0.mk (And.intro hr hcap)
          have HTL := Aside0.mk hTl
          have hol : (outP (buildN l0 l0.length)).length = (buildN l0 l0.length).length := by simp [outP]
          have HOL := Aside0.mk hol
          clear hi2 hTl hbl hr hcap hol hWf HN c1 g0 gl gk1 HK HR0 hlen hc0
          go_wp2
          go_ret2
          rw [HEND.out]
          refine ⟨some ⟨R, 0, none⟩, c5, ?_, ?_, ?_, HB.out⟩
          · show Ending.returned _ = Ending.returned _
            rw [HOL.out, ← HTL.out]
            rfl
          · show Kd.C k50 _ _ (outP (buildN l0 l0.length)).length _
            rw [HOL.out]
            exact HR.out.1
          · show (outP (buildN l0 l0.length)).length ≤ _
            rw [HOL.out]
            exact HR.out.2
end Go.Proofs.Ythlneooboiphdaa.PTrieBuilds
