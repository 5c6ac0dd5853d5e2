/- path.Formed: the walk. -/
import Derived.Test.YthlneooboiphdaaPTrieSharesx0
import Derived.Test.YthlneooboiphdaaStepW
set_option linter.unusedVariables false
set_option linter.unusedSimpArgs false
namespace Go.Proofs.Ythlneooboiphdaa.PTrieShares
open Go.RowKit Go.Proofs.Ythlneooboiphdaa Go.Proofs.YthlneooboiphdaaW.PrintWords Go.Proofs.YthlneooboiphdaaW.PrintLast Go.Proofs.YthlneooboiphdaaW.PrintMore
def okS (s : S53) : Bool := stepOk s.f0 s.f1 s.f2
def smallS (s : S53) : Prop := s.f1.size ≤ 1152921504606846976
instance (s : S53) : Decidable (smallS s) := inferInstanceAs (Decidable (_ ≤ _))
def path_Formed.f (l : List S53) : Option Bool := if (∀ s ∈ l, smallS s) then some (l.all okS) else none
theorem all_take_succ (l : List S53) (i : Int) (h0 : 0 ≤ i) (h : i < (l.length : Int)) (ha : (l.take i.toNat).all okS = true) : (l.take (i + 1).toNat).all okS = okS (rd_T53 l i) := by
  obtain ⟨m, rfl⟩ := Int.eq_ofNat_of_zero_le h0
  have hm : m < l.length := by omega
  rw [Int.toNat_natCast] at ha
  unfold rd_T53
  rw [show (((m : Nat) : Int) + 1).toNat = m + 1 from by omega, Int.toNat_natCast, List.take_succ_eq_append_getElem hm, List.all_append, ha, List.getD_eq_getElem?_getD, List.getElem?_eq_getElem hm]
  simp
theorem rd_mem (l : List S53) (i : Int) (h0 : 0 ≤ i) (h : i < (l.length : Int)) : rd_T53 l i ∈ l := by
  obtain ⟨m, rfl⟩ := Int.eq_ofNat_of_zero_le h0
  have hm : m < l.length := by omega
  unfold rd_T53
  rw [Int.toNat_natCast, List.getD_eq_getElem?_getD, List.getElem?_eq_getElem hm]
  exact List.getElem_mem hm
set_option maxHeartbeats 4000000 in
set_option maxRecDepth 100000 in
theorem path_Formed.calls (A0 : Option Addr) (c0 : Nat) (l0 : List S53) (r : Bool) (w : World) (hr0 : Kd.C k53 w A0 l0.length l0) (hc0 : l0.length ≤ c0) (h : path_Formed.f l0 = some r) :
    Calls Try.prog 26 #[.slice A0 l0.length c0] w fun e w' => e = .returned (.bool r) ∧ Below w.heap.size w w' := by
  unfold path_Formed.f at h
  split at h
  case isFalse => cases h
  rename_i hsm
  obtain rfl := Option.some.inj h
  clear h
  have hlen : l0.length ≤ 9223372036854775807 := Kd.C_max hr0
  have hu := Try.underlying53
  go_enter Try.func26, Try.ntmps26
  go_wp2
  go_loopg [7] (l0.length + 1) (fun kq v7 wr => ∃ i : Int, v7 = .int .i64 i ∧ Aside0 (0 ≤ i ∧ i ≤ (l0.length : Int) ∧ i.toNat + kq = l0.length + 1 ∧ (l0.take i.toNat).all okS = true) ∧ Aside0 (Below w.heap.size w wr))
  case atStart => exact ⟨0, rfl, ⟨by omega, by omega, by omega, rfl⟩, ⟨Below.refl _ _⟩⟩
  case round =>
    obtain ⟨i, rfl, HK, HB⟩ := hrel
    obtain ⟨g0, gl, gk1, ga⟩ := HK.out
    by_cases c1 : i < (l0.length : Int)
    · obtain ⟨k1, rfl⟩ : ∃ k1, gk = k1 + 1 := ⟨gk - 1, by omega⟩
      have hw1 : IntKind.i64.wrap (i + 1) = i + 1 := by rw [IntKind.wrap_i64]; omega
      have c1b : decide (i < (l0.length : Int)) = true := decide_eq_true c1
      have hs := all_take_succ l0 i g0 c1 ga
      have hmem := rd_mem l0 i g0 c1
      have hsz := hsm _ hmem
      have HSM := Aside0.mk hsm
      obtain ⟨ad, e1, x0, x1, x2⟩ := at_T53 (Kd.C_below hr0 HB.out) i g0 c1
      subst e1
      have HR0 := Aside0.mk hr0
      have REL : Aside0 (0 ≤ i + 1 ∧ i + 1 ≤ (l0.length : Int) ∧ (i + 1).toNat + k1 = l0.length + 1) := ⟨by omega, by omega, by omega⟩
      have RES : Aside0 (okS (rd_T53 l0 i) = false → l0.all okS = false) := ⟨fun h => by
        cases hh : l0.all okS
        · rfl
        · rw [List.all_eq_true] at hh
          rw [hh _ hmem] at h
          cases h⟩
      have HS := Aside0.mk hs
      generalize rd_T53 l0 i = y at *
      have c1c := eq_true c1
      have g0c := eq_true g0
      clear hs hmem hsm c1 g0 gl gk1 ga HK hr0
      have hb1 := below_alloc HB.out (.cells #[.int .i64 y.f0, .string y.f1, .int .i64 y.f2] 53)
      have BK := blk_new wr (.cells #[.int .i64 y.f0, .string y.f1, .int .i64 y.f2] 53)
      have HSZ := Aside0.mk hsz
      clear hsz
      go_upto_region 4 with fail
      generalize wr.alloc (.cells #[.int .i64 y.f0, .string y.f1, .int .i64 y.f2] 53) = W at hb1 BK ⊢
      have HB1 := Aside0.mk hb1
      have k0 := (blk_cell BK 0).trans rfl
      have k1_ := (blk_cell BK 1).trans rfl
      have k2 := (blk_cell BK 2).trans rfl
      clear hb1 BK HB
      cases ho : okS y
      · have HO : Aside0 (l0.all okS = false) := ⟨RES.out ho⟩
        have HY : Aside0 (stepOk y.f0 y.f1 y.f2 = false) := ⟨ho⟩
        clear ho
        go_wp2_with (first
          | (go_at_call 53; refine (path_step_calls y.f0 y.f1 y.f2 HSZ.out W).mono ?_; rintro e w2 ⟨hst, hb⟩; have hst2 := hst.2 HY.out; subst hst2; have HB2 := Aside0.mk (below_step HB1.out hb); clear hst hb k0 k1_ k2 HB1)
          | fail)
        go_ret
        exact ⟨by rw [HO.out]; rfl, HB2.out⟩
      · have HO : Aside0 ((l0.take (i + 1).toNat).all okS = true) := ⟨HS.out.trans ho⟩
        have HY : Aside0 (stepOk y.f0 y.f1 y.f2 = true) := ⟨ho⟩
        clear ho
        go_wp2_with (first
          | (go_at_call 53; refine (path_step_calls y.f0 y.f1 y.f2 HSZ.out W).mono ?_; rintro e w2 ⟨hst, hb⟩; obtain ⟨ty, vy, hst2⟩ := hst.1 HY.out; subst hst2; have HB2 := Aside0.mk (below_step HB1.out hb); clear hst hb k0 k1_ k2 HB1)
          | fail)
        go_roundg k1
        case measure => omega
        case rel => exact ⟨i + 1, rfl, ⟨REL.out.1, REL.out.2.1, REL.out.2.2, HO.out⟩, HB2⟩
    · have c1b : decide (i < (l0.length : Int)) = false := decide_eq_false c1
      have e : l0.all okS = true := by
        rw [List.take_of_length_le (by omega)] at ga
        exact ga
      have HE := Aside0.mk e
      clear HK ga gk1 e
      go_wp2
      go_ret
      exact ⟨by rw [HE.out]; rfl, HB.out⟩
end Go.Proofs.Ythlneooboiphdaa.PTrieShares
