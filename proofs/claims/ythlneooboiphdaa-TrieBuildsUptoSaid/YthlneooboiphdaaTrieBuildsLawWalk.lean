/- quarrylaw23.TrieBuilds: the walk. -/
import Derived.Test.YthlneooboiphdaaTrieBuildsTriePL
set_option linter.unusedVariables false
set_option linter.unusedSimpArgs false
namespace Go.Proofs.Ythlneooboiphdaa.PTrieBuilds
open Go.RowKit Go.Proofs.Ythlneooboiphdaa Go.Proofs.YthlneooboiphdaaW.PrintWords Go.Proofs.YthlneooboiphdaaW.PrintLast Go.Proofs.YthlneooboiphdaaW.PrintMore
theorem build_at (l : List (List S53)) (T : List S50) (ec : Int) (hg : trie_Build.g l = (T, ec)) (hsm : ∀ p ∈ l, ∀ s ∈ p, smallS s) (htot : totP l l.length ≤ 1000000000) (A : Option Addr) (c : Nat) (w : World)
    (hr : Kd.C (Kd.slice 53 k53) w A l.length l) (hc : l.length ≤ c) :
    Calls Try.prog 10 #[.slice A l.length c] w fun e w' => ∃ A' c', e = .returned (.tuple #[.slice A' T.length c', .int .i64 ec]) ∧ Kd.C k50 w' A' T.length T ∧ T.length ≤ c' ∧ Below w.heap.size w w' := by
  refine (trie_Build_calls A c l w hr hc hsm htot).mono ?_
  rintro e w' h
  rw [hg] at h
  exact h
theorem ref_at (l : List (List S53)) (T : List S50) (ec : Int) (hg : trie_Build.g l = (T, ec)) (hsm : ∀ p ∈ l, ∃ k, quarryref22_Formed.f k p = some (p.all okS)) (htot : totP l l.length ≤ 1000000000) (A : Option Addr) (c : Nat) (w : World)
    (hr : Kd.C (Kd.slice 53 k53) w A l.length l) (hc : l.length ≤ c) :
    Calls Try.prog 15 #[.slice A l.length c] w fun e w' => ∃ A' c', e = .returned (.tuple #[.slice A' T.length c', .int .i64 ec]) ∧ Kd.C k50 w' A' T.length T ∧ T.length ≤ c' ∧ Below w.heap.size w w' := by
  refine (ref_Build_calls A c l w hr hc hsm htot).mono ?_
  rintro e w' h
  rw [hg] at h
  exact h
theorem same_at (k : Nat) (T : List S50) (h : quarryref00_SameTrie.f k T T = some true) (A A' : Option Addr) (c c' : Nat) (w : World) (hr : Kd.C k50 w A T.length T) (hc : T.length ≤ c) (hr' : Kd.C k50 w A' T.length T) (hc' : T.length ≤ c') :
    Calls Try.prog 12 #[.slice A T.length c, .slice A' T.length c'] w fun e w' => e = .returned (.bool true) ∧ Below w.heap.size w w' :=
  quarryref00_SameTrie.calls k A c T A' c' T true w hr hc hr' hc' h
set_option maxHeartbeats 4000000 in
set_option maxRecDepth 100000 in
theorem trieBuilds_calls (A0 : Option Addr) (c0 : Nat) (l0 : List (List S53)) (w : World) (hr0 : Kd.C (Kd.slice 53 k53) w A0 l0.length l0) (hc0 : l0.length ≤ c0)
    (hsm : ∀ p ∈ l0, p.length ≤ 1048576 ∧ ∀ s ∈ p, s.f1.size ≤ 1048576) (htot : totP l0 l0.length ≤ 1048576) (hlen : l0.length ≤ 1048576) :
    Calls Try.prog 3 #[.slice A0 l0.length c0] w fun e w' => e = .returned (.bool true) ∧ Below w.heap.size w w' := by
  obtain ⟨kv, b, hv⟩ := vast_some l0 (by omega)
  obtain ⟨⟨T, ec⟩, hg⟩ : ∃ q, trie_Build.g l0 = q := ⟨_, rfl⟩
  have hsm1 : ∀ p ∈ l0, ∀ s ∈ p, smallS s := fun p hp s hs => by
    have := (hsm p hp).2 s hs
    unfold smallS
    omega
  have hsm2 : ∀ p ∈ l0, ∃ k, quarryref22_Formed.f k p = some (p.all okS) := fun p hp => formed_eval p 1048576 (by decide) (by have := (hsm p hp).1; omega) (hsm p hp).2
  have hec : ec = 2 → 256 < l0.length := by
    intro h
    unfold trie_Build.g at hg
    by_cases h1 : 256 < l0.length
    · exact h1
    · rw [if_neg h1] at hg
      split at hg
      · injection hg with _ hg
        omega
      · injection hg with _ hg
        omega
  have hT : ∃ k, quarryref00_SameTrie.f k T T = some true := by
    have hx : (∀ x ∈ T, x.f0.length ≤ 2097152 ∧ x.f1.length ≤ 2097152 ∧ x.f2.length ≤ 2097152) ∧ T.length ≤ 2097153 := by
      unfold trie_Build.g at hg
      split at hg
      · injection hg with hg _
        subst hg
        exact ⟨fun x hx => (by cases hx), by simp⟩
      · split at hg
        · injection hg with hg _
          subst hg
          refine ⟨fun x hx => ?_, ?_⟩
          · have := outP_sizes l0 l0.length x hx
            omega
          · have := (wfP_build l0 l0.length).len
            unfold outP
            rw [List.length_map]
            omega
        · injection hg with hg _
          subst hg
          exact ⟨fun x hx => (by cases hx), by simp⟩
    exact sameTrie_refl T 2097152 (by decide) (by omega) hx.1
  obtain ⟨kt, hkt⟩ := hT
  have HB := Aside0.mk (fun A c w hr hc => build_at l0 T ec hg hsm1 (by omega) A c w hr hc)
  have HRF := Aside0.mk (fun A c w hr hc => ref_at l0 T ec hg hsm2 (by omega) A c w hr hc)
  have HV := Aside0.mk hv
  have HKT := Aside0.mk hkt
  have HEC := Aside0.mk hec
  have HR0 := Aside0.mk hr0
  have HC0 := Aside0.mk hc0
  have HL := Aside0.mk hlen
  clear hv hkt hec hr0 hc0 hlen hsm htot hsm1 hsm2 hg
  cases b with
  | true =>
    by_cases he : ec = 2
    · have hl := HEC.out he
      subst he
      have d1 : decide ((l0.length : Int) > 256) = true := decide_eq_true (by omega)
      clear hl
      go_enter Try.func3, Try.ntmps3
      go_wp2_with (first
        | (go_at_call 11; (with_reducible refine (quarrylaw23_small.calls smallL _ small_is).mono ?_); rintro e w1 ⟨v, rfl, hN, hb⟩; obtain ⟨A1, c1, rfl, hc1, hC1⟩ := Kd.N_reads hN; have B1 := Aside0.mk hb; have C1 := Aside0.mk (And.intro hC1 hc1); clear hN hb hc1 hC1)
        | (go_at_call 10; (with_reducible refine (build_at smallL smallT 0 small_g small_size small_tot A1 c1 _ C1.out.1 C1.out.2).mono ?_); rintro e w2 ⟨A2, c2, rfl, hC2, hc2, hb⟩; have B2 := Aside0.mk (below_step B1.out hb); have C2 := Aside0.mk (And.intro hC2 hc2); clear hb hc2 hC2)
        | (go_at_call 13; (with_reducible refine (quarrylaw23_smallTrie.calls smallT _ smallTrie_is).mono ?_); rintro e w3 ⟨v, rfl, hN, hb⟩; obtain ⟨A3, c3, rfl, hc3, hC3⟩ := Kd.N_reads hN; have B3 := Aside0.mk (below_step B2.out hb); have C3 := Aside0.mk (And.intro (And.intro hC3 hc3) (And.intro (Kd.C_below C2.out.1 hb) C2.out.2)); clear hN hb hc3 hC3)
        | (go_at_call 12; (with_reducible refine (same_at 20 smallT small_same A2 A3 c2 c3 _ C3.out.2.1 C3.out.2.2 C3.out.1.1 C3.out.1.2).mono ?_); rintro e w4 ⟨rfl, hb⟩; have B4 := Aside0.mk (below_step B3.out hb); clear hb)
        | (go_at_call 14; (with_reducible refine (quarrylaw23_vastPaths.calls kv A0 c0 l0 true _ (Kd.C_below HR0.out B4.out) HC0.out HV.out).mono ?_); rintro e w5 ⟨rfl, hd⟩; have B5 := Aside0.mk (below_step B4.out hd.below); clear hd)
        | (go_at_call 10; (with_reducible refine (HB.out A0 c0 _ (Kd.C_below HR0.out B5.out) HC0.out).mono ?_); rintro e w6 ⟨A6, c6, rfl, hC6, hc6, hb⟩; have B6 := Aside0.mk (below_step B5.out hb); clear hb)
        | fail)
      go_ret
      exact ⟨by first | rfl | simp, B6.out⟩
    · have d1 : (ec == 2) = false := beq_eq_false_iff_ne.2 he
      have d2 : (ec != 2) = true := by simp [bne, d1]
      have d3 := eq_false he
      have HE := Aside0.mk he
      clear he
      go_enter Try.func3, Try.ntmps3
      go_wp2_with (first
        | (go_at_call 11; (with_reducible refine (quarrylaw23_small.calls smallL _ small_is).mono ?_); rintro e w1 ⟨v, rfl, hN, hb⟩; obtain ⟨A1, c1, rfl, hc1, hC1⟩ := Kd.N_reads hN; have B1 := Aside0.mk hb; have C1 := Aside0.mk (And.intro hC1 hc1); clear hN hb hc1 hC1)
        | (go_at_call 10; (with_reducible refine (build_at smallL smallT 0 small_g small_size small_tot A1 c1 _ C1.out.1 C1.out.2).mono ?_); rintro e w2 ⟨A2, c2, rfl, hC2, hc2, hb⟩; have B2 := Aside0.mk (below_step B1.out hb); have C2 := Aside0.mk (And.intro hC2 hc2); clear hb hc2 hC2)
        | (go_at_call 13; (with_reducible refine (quarrylaw23_smallTrie.calls smallT _ smallTrie_is).mono ?_); rintro e w3 ⟨v, rfl, hN, hb⟩; obtain ⟨A3, c3, rfl, hc3, hC3⟩ := Kd.N_reads hN; have B3 := Aside0.mk (below_step B2.out hb); have C3 := Aside0.mk (And.intro (And.intro hC3 hc3) (And.intro (Kd.C_below C2.out.1 hb) C2.out.2)); clear hN hb hc3 hC3)
        | (go_at_call 12; (with_reducible refine (same_at 20 smallT small_same A2 A3 c2 c3 _ C3.out.2.1 C3.out.2.2 C3.out.1.1 C3.out.1.2).mono ?_); rintro e w4 ⟨rfl, hb⟩; have B4 := Aside0.mk (below_step B3.out hb); clear hb)
        | (go_at_call 14; (with_reducible refine (quarrylaw23_vastPaths.calls kv A0 c0 l0 true _ (Kd.C_below HR0.out B4.out) HC0.out HV.out).mono ?_); rintro e w5 ⟨rfl, hd⟩; have B5 := Aside0.mk (below_step B4.out hd.below); clear hd)
        | (go_at_call 10; (with_reducible refine (HB.out A0 c0 _ (Kd.C_below HR0.out B5.out) HC0.out).mono ?_); rintro e w6 ⟨A6, c6, rfl, hC6, hc6, hb⟩; have B6 := Aside0.mk (below_step B5.out hb); clear hb)
        | fail)
      go_ret
      exact ⟨by first | rfl | simp, B6.out⟩
  | false =>
    go_enter Try.func3, Try.ntmps3
    go_wp2_with (first
      | (go_at_call 11; (with_reducible refine (quarrylaw23_small.calls smallL _ small_is).mono ?_); rintro e w1 ⟨v, rfl, hN, hb⟩; obtain ⟨A1, c1, rfl, hc1, hC1⟩ := Kd.N_reads hN; have B1 := Aside0.mk hb; have C1 := Aside0.mk (And.intro hC1 hc1); clear hN hb hc1 hC1)
      | (go_at_call 10; (with_reducible refine (build_at smallL smallT 0 small_g small_size small_tot A1 c1 _ C1.out.1 C1.out.2).mono ?_); rintro e w2 ⟨A2, c2, rfl, hC2, hc2, hb⟩; have B2 := Aside0.mk (below_step B1.out hb); have C2 := Aside0.mk (And.intro hC2 hc2); clear hb hc2 hC2)
      | (go_at_call 13; (with_reducible refine (quarrylaw23_smallTrie.calls smallT _ smallTrie_is).mono ?_); rintro e w3 ⟨v, rfl, hN, hb⟩; obtain ⟨A3, c3, rfl, hc3, hC3⟩ := Kd.N_reads hN; have B3 := Aside0.mk (below_step B2.out hb); have C3 := Aside0.mk (And.intro (And.intro hC3 hc3) (And.intro (Kd.C_below C2.out.1 hb) C2.out.2)); clear hN hb hc3 hC3)
      | (go_at_call 12; (with_reducible refine (same_at 20 smallT small_same A2 A3 c2 c3 _ C3.out.2.1 C3.out.2.2 C3.out.1.1 C3.out.1.2).mono ?_); rintro e w4 ⟨rfl, hb⟩; have B4 := Aside0.mk (below_step B3.out hb); clear hb C1 C2 C3)
      | (go_at_call 14; (with_reducible refine (quarrylaw23_vastPaths.calls kv A0 c0 l0 false _ (Kd.C_below HR0.out B4.out) HC0.out HV.out).mono ?_); rintro e w5 ⟨rfl, hd⟩; have B5 := Aside0.mk (below_step B4.out hd.below); clear hd)
      | (go_at_call 10; (with_reducible refine (HB.out A0 c0 _ (Kd.C_below HR0.out B5.out) HC0.out).mono ?_); rintro e w6 ⟨A6, c6, rfl, hC6, hc6, hb⟩; have B6 := Aside0.mk (below_step B5.out hb); have C6 := Aside0.mk (And.intro hC6 hc6); clear hb hC6 hc6)
      | (go_at_call 15; (with_reducible refine (HRF.out A0 c0 _ (Kd.C_below HR0.out B6.out) HC0.out).mono ?_); rintro e w7 ⟨A7, c7, rfl, hC7, hc7, hb⟩; have B7 := Aside0.mk (below_step B6.out hb); have C7 := Aside0.mk (And.intro (And.intro hC7 hc7) (And.intro (Kd.C_below C6.out.1 hb) C6.out.2)); clear hb hC7 hc7)
      | (go_at_call 12; (with_reducible refine (same_at kt T HKT.out A6 A7 c6 c7 _ C7.out.2.1 C7.out.2.2 C7.out.1.1 C7.out.1.2).mono ?_); rintro e w8 ⟨rfl, hb⟩; have B8 := Aside0.mk (below_step B7.out hb); clear hb)
      | fail)
    go_ret
    exact ⟨by first | rfl | simp, B8.out⟩
end Go.Proofs.Ythlneooboiphdaa.PTrieBuilds
