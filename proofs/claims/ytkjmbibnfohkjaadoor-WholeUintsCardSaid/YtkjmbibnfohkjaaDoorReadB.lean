/- whole.read, Int and Uint of some types: what any text is as a number of the type, or why it is none. Printed by genread.py. -/
import Derived.Test.YtkjmbibnfohkjaaDoorAnyOf
import Derived.Test.YtkjmbibnfohkjaaDoorPutAll
import Derived.Test.YtkjmbibnfohkjaaDoorOfCall
import Derived.Test.YtkjmbibnfohkjaaDoorCatches
import Derived.LoopTactic
import Derived.RegionTactic
import Derived.StillTailTactics
import Derived.Lib.Hide
namespace Go.Proofs.YtkjmbibnfohkjaaDoor
open Go.Shelf Go.RowKit Go.Lib Go.Proofs.YtkjmbibnfohkjaaDoorW Go.Proofs.YtkjmbibnfohkjaaDoorW.PrintWords Go.Proofs.YtkjmbibnfohkjaaDoor.Whole Go.Proofs.YtkjmbibnfohkjaaDoor.Dec Go.Proofs.YtkjmbibnfohkjaaDoor.Reader
set_option linter.unusedVariables false
set_option linter.unusedSimpArgs false
set_option maxRecDepth 100000 in
set_option maxHeartbeats 4000000 in
theorem read_int8 (s : ByteArray) (hs : s.size ≤ 140737488355328) (w : World) :
    Calls Tryd.prog 46 #[.string s] w fun e w' => e = .returned (.tuple #[.int .i8 (wholeR (-128) 127 s).1, .int .i64 (wholeR (-128) 127 s).2]) ∧ Below w.heap.size w w' := by
  have hmf : ∀ (fn : Fn) (first cap : Array Value) (w : World), (Instr.makeFunc fn first cap).run Tryd.prog w = .ok (.func fn first cap) w := fun _ _ _ _ => rfl
  obtain ⟨r1, r2, r3, r4, hr⟩ : ∃ r1 r2 r3 r4, ofR (readOf s 0) s.size = (r1, r2, r3, r4) := ⟨_, _, _, _, rfl⟩
  have hof : ∀ W : World, Calls Tryd.prog 32 #[.string s] W fun e w' => e = .returned (.tuple #[.agg #[.bool r1, .string r2, .int .i64 r3], .int .i64 r4]) ∧ Below W.heap.size W w' := fun W =>
    decimal_Of.calls s r1 r2 r3 r4 W (by unfold decimal_Of.f; rw [if_pos hs, hr])
  have HOF := Lib.hid hof
  by_cases h110 : r4 = 110
  · have q1 : (r4 == 110) = true := beq_iff_eq.2 h110
    have HW := Lib.hid (show wholeR (-128) 127 s = (0, 110) by unfold wholeR; rw [hr, if_pos h110])
    clear hof h110 hr
    go_enter_defers Tryd.func46, Tryd.ntmps46
    go_wp2_with fail
    refine (HOF.out _).mono ?_
    rintro e w2 ⟨rfl, hb⟩
    obtain ⟨b0, b1, hB, hsz⟩ := two_new w (.int .i8 0) (.int .i64 0) 30 45
    rw [hsz] at hb
    generalize ((w.alloc (.cells #[.int .i8 0] 30)).alloc (.cells #[.int .i64 0] 45)) = w1 at *
    replace b0 := (hb.block _ (by omega)).trans b0
    replace b1 := (hb.block _ (by omega)).trans b1
    replace hB := hB.trans (hb.mono (by omega))
    have hsz2 : w.heap.size + 1 + 1 ≤ w2.heap.size := by have := hb.size; omega
    clear hb hsz
    have k0 := fun o => (cells_behind b0 o).1
    have k0f := fun o => (cells_behind b0 o).2
    have k1 := fun o => (cells_behind b1 o).1
    have k1f := fun o => (cells_behind b1 o).2
    go_wp2
    obtain ⟨m0, m1⟩ := two_set (blk_alloc b0 (.cells #[.bool r1, .string r2, .int .i64 r3] 65)) (blk_alloc b1 (.cells #[.bool r1, .string r2, .int .i64 r3] 65)) (.int .i8 0) (.int .i64 r4)
    have hB3 := ((hB.alloc (by omega) (.cells #[.bool r1, .string r2, .int .i64 r3] 65)).setCell (p := ⟨w.heap.size, 0, none⟩) (Nat.le_refl _) (.int .i8 0)).setCell (p := ⟨w.heap.size + 1, 0, none⟩) (Nat.le_succ _) (.int .i64 r4)
    generalize (((w2.alloc (.cells #[.bool r1, .string r2, .int .i64 r3] 65)).setCell ⟨w.heap.size, 0, none⟩ (.int .i8 0)).setCell ⟨w.heap.size + 1, 0, none⟩ (.int .i64 r4)) = w3 at *
    have n0 : w3.cell? ⟨w.heap.size, 0, none⟩ = some (.int .i8 0) := (blk_cell m0 0).trans rfl
    have n1 : w3.cell? ⟨w.heap.size + 1, 0, none⟩ = some (.int .i64 r4) := (blk_cell m1 0).trans rfl
    rw [HW.out, ← eq_of_beq q1]
    simp [bodyPostD, Leaves, settle, results, Tryd.results46, go_sem, n0, n1]
    exact hB3
  · have q1 : (r4 == 110) = false := beq_eq_false_iff_ne.2 h110
    have hasc := taken_ascii s (by rw [hr]; exact h110)
    have HA := Lib.hid hasc
    have HC := Lib.hid (fun hm => taken_canon s (by rw [hr]; exact h110) hm)
    obtain ⟨mk, hmk⟩ : ∃ mk, mk = Lib.containsAny s.data.toList [46, 101, 69] := ⟨_, rfl⟩
    have HW := Lib.hid (show wholeR (-128) 127 s = (if mk = true then ((0 : Int), (120 : Int)) else putR (putAll (-128) 127 (minus s) (digitsOf s) 0)) by unfold wholeR; rw [hr, if_neg h110, hmk])
    have HM := Lib.hid hmk
    obtain ⟨D, hD⟩ : ∃ D : ByteArray, D = ⟨(Lib.trimPrefix s.data.toList [45]).toArray⟩ := ⟨_, rfl⟩
    obtain ⟨neg, hneg⟩ : ∃ neg, neg = Lib.hasPrefix s.data.toList [45] := ⟨_, rfl⟩
    have HD := Lib.hid hD
    have HN := Lib.hid hneg
    have hcut := fun W => Tryd.strings_CutPrefix s ⟨#[45]⟩ W
    have HX := Lib.hid hcut
    clear hof h110 hr hasc hmk hD hneg hcut
    go_enter_defers Tryd.func46, Tryd.ntmps46
    go_wp2_with fail
    refine (HOF.out _).mono ?_
    rintro e w2 ⟨rfl, hb⟩
    obtain ⟨b0, b1, hB, hsz⟩ := two_new w (.int .i8 0) (.int .i64 0) 30 45
    rw [hsz] at hb
    generalize ((w.alloc (.cells #[.int .i8 0] 30)).alloc (.cells #[.int .i64 0] 45)) = w1 at *
    replace b0 := (hb.block _ (by omega)).trans b0
    replace b1 := (hb.block _ (by omega)).trans b1
    replace hB := hB.trans (hb.mono (by omega))
    have hsz2 : w.heap.size + 1 + 1 ≤ w2.heap.size := by have := hb.size; omega
    clear hb hsz
    go_wp2_with fail
    refine (anyOf_calls s _ (by omega) HA.out).mono ?_
    rintro e w4 ⟨rfl, hb⟩
    rw [← HM.out]
    replace b0 := blk_below (blk_alloc b0 (.cells #[.bool r1, .string r2, .int .i64 r3] 65)) hb
    replace b1 := blk_below (blk_alloc b1 (.cells #[.bool r1, .string r2, .int .i64 r3] 65)) hb
    replace hB := (hB.alloc (by omega) (.cells #[.bool r1, .string r2, .int .i64 r3] 65)).trans (hb.mono (by rw [World.size_alloc]; omega))
    have hsz4 : w.heap.size + 1 + 1 ≤ w4.heap.size := by have := hb.size; rw [World.size_alloc] at this; omega
    clear hb hsz2
    cases mk
    · go_wp2_with fail
      refine (HX.out _).mono ?_
      rintro e w5 ⟨rfl, rfl⟩
      rw [← HD.out, ← HN.out]
      clear HX
      have HR := Lib.hid (show ReadRow .i8 30 45 (-128) 127 neg D w w5 0 0 from ⟨Nat.zero_le _, by decide, by decide, fun _ => Int.le_refl _, fun _ => Int.le_refl _, by rw [List.drop_zero], b0, b1, hB⟩)
      have hDs : D.size ≤ 140737488355328 := by
        have e : D.data.toList = digitsOf s := by rw [HD.out]; exact (cut_is s).1
        have : D.data.toList.length ≤ s.data.toList.length := by rw [e]; unfold digitsOf; rw [List.length_drop]; omega
        have e2 : D.size = D.data.toList.length := rfl
        have e3 : s.size = s.data.toList.length := rfl
        omega
      have HDD := Lib.hid (show D.data.toList = digitsOf s by rw [HD.out]; exact (cut_is s).1)
      have HNN := Lib.hid (show neg = minus s by rw [HN.out]; exact (cut_is s).2)
      have HCC := Lib.hid (HC.out HM.out.symm)
      clear HC HM HD HN HA HOF b0 b1 hB hsz4
      go_wp2
      go_loopw [27] (fun p wr => ∃ (i : Nat) (v : Int), p = .int .i64 (i : Int) ∧ Hid (ReadRow .i8 30 45 (-128) 127 neg D w wr i v)) (fun p _ => D.size - (RowKit.intOf p).toNat)
      case atStart => exact ⟨0, 0, rfl, HR⟩
      case round =>
        obtain ⟨i, v, rfl, HT⟩ := hrel
        clear HR
        have k0 : wr.cell? ⟨w.heap.size, 0, none⟩ = some (.int .i8 v) := (blk_cell HT.out.b0 0).trans rfl
        have k0f := blk_frozen HT.out.b0 0
        have k1 : wr.cell? ⟨w.heap.size + 1, 0, none⟩ = some (.int .i64 0) := (blk_cell HT.out.b1 0).trans rfl
        have k1f := blk_frozen HT.out.b1 0
        by_cases hi : i < D.size
        · have hi1 : decide ((i : Int) < (D.size : Int)) = true := decide_eq_true (by omega)
          obtain ⟨x, hx⟩ : ∃ x : UInt8, D[i]'hi = x := ⟨_, rfl⟩
          have hinc : wrap64 ((i : Int) + 1) = ((i + 1 : Nat) : Int) := by unfold wrap64; omega
          obtain ⟨d, hd⟩ : ∃ d : Int, d = dv x := ⟨_, rfl⟩
          have hxd : 48 ≤ x.toNat ∧ x.toNat ≤ 57 := by
            refine HCC.out.1 x ?_
            rw [← HDD.out, ← hx]
            exact List.getElem_mem _
          have hd0 : 0 ≤ d := by rw [hd]; unfold dv; omega
          have hd9 : d ≤ 9 := by rw [hd]; unfold dv; omega
          have hsub : ((x.toNat : Int) - 48) % 256 = d := by rw [hd]; unfold dv; omega
          have hcv := IntWalk.i8_in d (by omega)
          have hput := fun W => put_int8 v d neg HT.out.low HT.out.high hd0 hd9 HT.out.pos HT.out.min W
          have HP := Lib.hid hput
          have HX := Lib.hid hd
          have HXL := Lib.hid (show D.data.toList[i]'hi = x from hx)
          clear hd hput hxd
          go_wp2_with fail
          first
            | (go_still_tail 7, (by kernel_rfl); change wpList _ _ _ _ _ wr.drew)
            | (go_still_tail 6, (by kernel_rfl); change wpList _ _ _ _ _ wr.drew)
          have HT2 := Lib.hid HT.out.drew
          clear HT k0 k0f k1 k1f
          generalize wr.drew = wd at *
          have k0 : wd.cell? ⟨w.heap.size, 0, none⟩ = some (.int .i8 v) := (blk_cell HT2.out.b0 0).trans rfl
          have k0f := blk_frozen HT2.out.b0 0
          go_wp2_with fail
          refine (calls_of_args (by first | rw [hsub, hcv] | rw [hsub, IntWalk.wrap64_in d (by omega)] | rw [hsub, IntWalk.wrap32_in d (by omega)] | rw [hsub, Int.emod_eq_of_lt hd0 (by omega)] | rw [hsub]) (HP.out _)).mono ?_
          rintro e w' ⟨rfl, (⟨r0, r1, rfl⟩ | ⟨ho, rfl⟩)⟩
          · have HS := Lib.hid (HT2.out.step hi HXL.out (by rw [← HX.out]; exact r0) (by rw [← HX.out]; exact r1) (by rw [← HX.out]; exact hd0))
            rw [← HX.out] at HS
            clear r0 r1 hsub hcv
            generalize stepD neg v d = r at *
            go_wp2
            go_roundw
            case rel => exact ⟨i + 1, r, by first | rfl | go_num, HS⟩
            case measure =>
              simp only [RowKit.intOf]
              omega
          · have HO := Lib.hid (HT2.out.over hi HXL.out (by rw [← HX.out]; exact ho))
            have hlt := blk_lt HT2.out.b1
            have k0' := blk_frozen HT2.out.b0 0
            have k1 : _ = some (Value.int .i64 0) := (blk_cell HT2.out.b1 0).trans rfl
            have k1f := blk_frozen HT2.out.b1 0
            have HB := Lib.hid HT2.out.below
            clear ho hsub hcv HT2
            go_wp2
            refine leaves_cons (f := 70) (args := #[.pointer (some ⟨w.heap.size, 0, none⟩), .pointer (some ⟨w.heap.size + 1, 0, none⟩)]) (by simp) (by simp [go_sem]) ?_
            refine (catch_int8 w.heap.size v 0 _ hlt k0 k0' k1 k1f).mono ?_
            rintro e u' w'' ⟨rfl, rfl, hb, n0, n1⟩
            rw [HW.out, ← HNN.out, ← HDD.out, HO.out]
            simp [Leaves, settle, results, Tryd.results46, go_sem, n0, n1, putR]
            exact HB.out.trans hb
        · have hi1 : decide ((i : Int) < (D.size : Int)) = false := decide_eq_false (by omega)
          go_wp2
          obtain ⟨m0, m1⟩ := two_set HT.out.b0 HT.out.b1 (.int .i8 v) (.int .i64 0)
          have hB3 := (HT.out.below.setCell (p := ⟨w.heap.size, 0, none⟩) (Nat.le_refl _) (.int .i8 v)).setCell (p := ⟨w.heap.size + 1, 0, none⟩) (Nat.le_succ _) (.int .i64 0)
          obtain rfl : i = D.size := by have := HT.out.le; omega
          have hall := HT.out.all
          clear k0 k0f k1 k1f HT
          generalize ((wr.setCell ⟨w.heap.size, 0, none⟩ (.int .i8 v)).setCell ⟨w.heap.size + 1, 0, none⟩ (.int .i64 0)) = w3 at *
          refine leaves_cons (f := 70) (args := #[.pointer (some ⟨w.heap.size, 0, none⟩), .pointer (some ⟨w.heap.size + 1, 0, none⟩)]) (by simp) (by simp [go_sem]) ?_
          refine (idle_int8 _ _ _).mono ?_
          rintro e u' w'' ⟨rfl, rfl, hb⟩
          have n0 : w''.cell? ⟨w.heap.size, 0, none⟩ = some (.int .i8 v) := (blk_cell (blk_below m0 hb) 0).trans rfl
          have n1 : w''.cell? ⟨w.heap.size + 1, 0, none⟩ = some (.int .i64 0) := (blk_cell (blk_below m1 hb) 0).trans rfl
          rw [HW.out, ← HNN.out, ← HDD.out, hall]
          simp [Leaves, settle, results, Tryd.results46, go_sem, n0, n1, putR]
          exact hB3.trans (hb.mono (by have := blk_lt m0; omega))
    · have k0 : w4.cell? ⟨w.heap.size, 0, none⟩ = some (.int .i8 0) := (blk_cell b0 0).trans rfl
      have k0f := blk_frozen b0 0
      have k1 : w4.cell? ⟨w.heap.size + 1, 0, none⟩ = some (.int .i64 0) := (blk_cell b1 0).trans rfl
      have k1f := blk_frozen b1 0
      go_wp2
      obtain ⟨m0, m1⟩ := two_set b0 b1 (.int .i8 0) (.int .i64 120)
      have hB3 := (hB.setCell (p := ⟨w.heap.size, 0, none⟩) (Nat.le_refl _) (.int .i8 0)).setCell (p := ⟨w.heap.size + 1, 0, none⟩) (Nat.le_succ _) (.int .i64 120)
      clear k0 k0f k1 k1f b0 b1
      generalize ((w4.setCell ⟨w.heap.size, 0, none⟩ (.int .i8 0)).setCell ⟨w.heap.size + 1, 0, none⟩ (.int .i64 120)) = w3 at *
      have n0 : w3.cell? ⟨w.heap.size, 0, none⟩ = some (.int .i8 0) := (blk_cell m0 0).trans rfl
      have n1 : w3.cell? ⟨w.heap.size + 1, 0, none⟩ = some (.int .i64 120) := (blk_cell m1 0).trans rfl
      rw [HW.out]
      simp [bodyPostD, Leaves, settle, results, Tryd.results46, go_sem, n0, n1]
      exact hB3
def whole_Int_int8.f (a0 : ByteArray) : Option (Int × Int) := if a0.size ≤ 140737488355328 then some (wholeR (-128) 127 a0) else none
theorem whole_Int_int8.calls (a0 : ByteArray) (r1 r2 : Int) (w : World) (h : whole_Int_int8.f a0 = some (r1, r2)) :
    Calls Tryd.prog 23 #[.string a0] w fun e w' => e = .returned (.tuple #[.int .i8 r1, .int .i64 r2]) ∧ Below w.heap.size w w' := by
  unfold whole_Int_int8.f at h
  split at h
  · rename_i hs
    have hc := read_int8 a0 hs w
    rw [Option.some.inj h] at hc
    clear h hs
    go_enter Tryd.func23, Tryd.ntmps23
    go_wp2_with fail
    refine hc.mono ?_
    rintro e w' ⟨rfl, hb⟩
    go_wp2
    refine bodyPost_ret (v := .tuple #[.int .i8 r1, .int .i64 r2]) (by simp [results, Tryd.results23, go_sem]) rfl ⟨rfl, hb⟩
  · cases h
end Go.Proofs.YtkjmbibnfohkjaaDoor
