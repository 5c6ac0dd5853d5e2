/- (*node).step: the walk. -/
import Derived.Test.YthlneooboiphdaaTrieSharesTrieNodes
import Derived.Deep.QuietTactic
import Derived.BigQuiet
set_option linter.unusedVariables false
set_option linter.unusedSimpArgs false
namespace Go.Proofs.Ythlneooboiphdaa.PTrieShares
open Go.RowKit Go.Proofs.Ythlneooboiphdaa Go.Proofs.YthlneooboiphdaaW.PrintWords Go.Proofs.YthlneooboiphdaaW.PrintLast Go.Proofs.YthlneooboiphdaaW.PrintMore
set_option maxHeartbeats 4000000 in
set_option maxRecDepth 100000 in
theorem node_step_found (base : Nat) (G : List GN) (at_ : Nat) (g : GN) (hg : G[at_]? = some g) (s : S53) (made : Int) (w : World) (hN : Nodes base w G) (m : Nat) (hf : findS g.st s = some m) (hlen : g.st.length = g.nx.length) :
    Calls Try.prog 40 #[.pointer (some ⟨g.b, 0, none⟩), .agg #[.int .i64 s.f0, .string s.f1, .int .i64 s.f2], .int .i64 made] w fun e w' => (∃ n h, g.nx[m]? = some n ∧ G[n]? = some h ∧ e = .returned (.tuple #[.pointer (some ⟨h.b, 0, none⟩), .bool false])) ∧ Below w.heap.size w w' := by
  have hu := Try.underlying53
  have BG := (hN.cell at_ g hg).1
  obtain ⟨A, c, hv⟩ := (hN.rs at_ g hg).slice
  have hR := hN.rs at_ g hg
  rw [hv] at hR BG
  have hr := hR.reads
  have hmax : g.st.length ≤ 9223372036854775807 := Kd.C_max hr.2.2
  obtain ⟨hm1, hm2, hm3⟩ := List.findIdx?_eq_some_iff_getElem.1 hf
  obtain ⟨bs, hT, hT1, hT2⟩ := hN.rt at_ g hg
  obtain ⟨AT, cT, hvT⟩ := hT.slice
  rw [hvT] at hT BG
  have hrT := hT.reads
  have hCT := Kd.C_alloc hrT.2.2 (.cells #[.int .i64 s.f0, .string s.f1, .int .i64 s.f2] 53)
  have hb0 := below_alloc (Below.refl w.heap.size w) (.cells #[.int .i64 s.f0, .string s.f1, .int .i64 s.f2] 53)
  have BS := blk_new w (.cells #[.int .i64 s.f0, .string s.f1, .int .i64 s.f2] 53)
  have BG2 := blk_alloc BG (.cells #[.int .i64 s.f0, .string s.f1, .int .i64 s.f2] 53)
  have hC := Kd.C_alloc hr.2.2 (.cells #[.int .i64 s.f0, .string s.f1, .int .i64 s.f2] 53)
  have HLEN := Aside0.mk hlen
  have HMB : Aside0 (m < bs.length ∧ m < g.nx.length) := ⟨by omega, by omega⟩
  have HT1 := Aside0.mk hT1
  clear hlen hT1
  go_enter Try.func40, Try.ntmps40
  go_upto_region 1 with fail
  generalize w.alloc (.cells #[.int .i64 s.f0, .string s.f1, .int .i64 s.f2] 53) = W at hb0 BS BG2 hC hCT ⊢
  clear BG hr hrT hT hR hf
  have k0 := (blk_cell BG2 0).trans rfl
  go_wp2
  go_loopg [16] (g.st.length + 1) (fun kq v16 wr => ∃ i : Int, v16 = .int .i64 i ∧ Aside0 (0 ≤ i ∧ i ≤ (m : Int) ∧ i.toNat + kq = g.st.length + 1) ∧ Aside0 (Below W.heap.size W wr))
  case atStart => exact ⟨0, rfl, ⟨by omega, by omega, by omega⟩, ⟨Below.refl _ _⟩⟩
  case round =>
    obtain ⟨i, rfl, HK, HB⟩ := hrel
    obtain ⟨g0, gl, gk1⟩ := HK.out
    have c1 : i < (g.st.length : Int) := by omega
    obtain ⟨k1, rfl⟩ : ∃ k1, gk = k1 + 1 := ⟨gk - 1, by omega⟩
    have hw1 : IntKind.i64.wrap (i + 1) = i + 1 := by rw [IntKind.wrap_i64]; omega
    have c1b : decide (i < (g.st.length : Int)) = true := decide_eq_true c1
    obtain ⟨ad, e1, x0, x1, x2⟩ := at_T53 (Kd.C_below hC HB.out) i g0 c1
    subst e1
    have hy : i < (m : Int) → sameS (rd_T53 g.st i) s = false := fun hlt => by
      have h := hm3 i.toNat (by omega)
      have hr := rd_some g.st i.toNat (by omega)
      rw [Int.toNat_of_nonneg g0] at hr
      rw [List.getElem?_eq_getElem (by omega)] at hr
      rw [← Option.some.inj hr]
      simpa using h
    have hy2 : i = (m : Int) → sameS (rd_T53 g.st i) s = true := fun he => by
      have hr := rd_some g.st m hm1
      rw [List.getElem?_eq_getElem hm1] at hr
      rw [he, ← Option.some.inj hr]
      exact hm2
    have HY := Aside0.mk hy
    have HY2 := Aside0.mk hy2
    clear hy hy2
    generalize rd_T53 g.st i = y at *
    have hb1 := below_alloc HB.out (.cells #[.int .i64 y.f0, .string y.f1, .int .i64 y.f2] 53)
    have BK := blk_new wr (.cells #[.int .i64 y.f0, .string y.f1, .int .i64 y.f2] 53)
    have BS2 := blk_alloc (blk_below BS HB.out) (.cells #[.int .i64 y.f0, .string y.f1, .int .i64 y.f2] 53)
    have BG3 := blk_alloc (blk_below BG2 HB.out) (.cells #[.int .i64 y.f0, .string y.f1, .int .i64 y.f2] 53)
    have c1c := eq_true c1
    have g0c := eq_true g0
    have HI : Aside0 (i ≤ (m : Int) ∧ 0 ≤ i ∧ i.toNat + (k1 + 1) = g.st.length + 1) := ⟨gl, g0, gk1⟩
    clear c1 g0 gl gk1 HK
    go_upto_region 4 with fail
    generalize wr.alloc (.cells #[.int .i64 y.f0, .string y.f1, .int .i64 y.f2] 53) = V at hb1 BK BS2 BG3 ⊢
    have m0 := (blk_cell BK 0).trans rfl
    have m1 := (blk_cell BK 1).trans rfl
    have m2 := (blk_cell BK 2).trans rfl
    have n0 := (blk_cell BS2 0).trans rfl
    have n1 := (blk_cell BS2 1).trans rfl
    have n2 := (blk_cell BS2 2).trans rfl
    have z1 := (blk_cell BG3 1).trans rfl
    have HV := Aside0.mk hb1
    have HB0 := Aside0.mk hb0
    clear hb1 hb0 HB BK BS2 BG3
    by_cases hs : sameS y s = true
    · have hi : i = (m : Int) := by
        rcases Int.lt_or_eq_of_le HI.out.1 with h | h
        · rw [HY.out h] at hs
          cases hs
        · exact h
      unfold sameS at hs
      simp only [Bool.and_eq_true, decide_eq_true_eq] at hs
      obtain ⟨e0, e1, e2⟩ := hs
      have hmb := HMB.out.1
      have hmn := HMB.out.2
      obtain ⟨adT, eT, xT⟩ := at_ptr (Kd.C_below hCT HV.out) i (by omega) (by omega)
      subst eT
      obtain ⟨h, hh1, hh2⟩ := hT2 m _ (List.getElem?_eq_getElem hmn)
      have hbs : bs.getD i.toNat 0 = h.b := by
        rw [hi, Int.toNat_natCast, List.getD_eq_getElem?_getD, hh2]
        rfl
      rw [hbs] at xT
      have cT1 : decide (i < (bs.length : Int)) = true := decide_eq_true (by omega)
      have cT2 := eq_true (show i < (bs.length : Int) by omega)
      clear hi
      go_wp2
      go_ret2
      refine ⟨⟨_, h, List.getElem?_eq_getElem hmn, hh1, ?_⟩, below_step HB0.out HV.out⟩
      first | rfl | simp
    · have HS := Aside0.mk hs
      clear hs
      have hk : Aside0 (0 ≤ i + 1 ∧ i + 1 ≤ (m : Int) ∧ (i + 1).toNat + k1 = g.st.length + 1) := ⟨by
        have h1 := HI.out
        have h2 : i ≠ (m : Int) := fun he => HS.out (HY2.out he)
        omega⟩
      by_cases e0 : y.f0 = s.f0
      · by_cases e1 : y.f1.toList = s.f1.toList
        · by_cases e2 : y.f2 = s.f2
          · exact absurd (by unfold sameS; rw [decide_eq_true e0, decide_eq_true e1, decide_eq_true e2]; rfl) HS.out
          · go_wp2
            go_roundg k1
            case measure => omega
            case rel => exact ⟨i + 1, rfl, hk, HV⟩
        · go_wp2
          go_roundg k1
          case measure => omega
          case rel => exact ⟨i + 1, rfl, hk, HV⟩
      · go_wp2
        go_roundg k1
        case measure => omega
        case rel => exact ⟨i + 1, rfl, hk, HV⟩
end Go.Proofs.Ythlneooboiphdaa.PTrieShares
