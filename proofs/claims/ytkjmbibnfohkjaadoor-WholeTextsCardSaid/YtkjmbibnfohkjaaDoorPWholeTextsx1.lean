/- The machine side of a statement, laid by the kit's print program, run by wip/tools/gprint.py: some functions' contracts are given, proved by hand. -/
import Derived.Test.YtkjmbibnfohkjaaDoorPWholeTextsx0
namespace Go.Proofs.YtkjmbibnfohkjaaDoor.PWholeTexts
open Go.RowKit Go.Proofs.YtkjmbibnfohkjaaDoorW.PrintWords Go.Proofs.YtkjmbibnfohkjaaDoorW.PrintLast Go.Proofs.YtkjmbibnfohkjaaDoorW.PrintMore
attribute [local go_sem] max2_int min2_int max_two min_two max_three min_three max_four min_four   -- for this text's walks alone
set_option linter.unusedVariables false
set_option linter.unusedSimpArgs false

/-! ### quarrylaw12_WholeTexts: function 3 -/
mutual
def quarrylaw12_WholeTexts.j0 : Nat → Int → Int → Bool → Option (Bool)
  | 0, _, _, _ => none
  | k + 1, x0, x1, x36 => if x36 = true then (none) else ((whole_Text_int8.f (IntKind.i8.wrap (x0))).bind fun t109 => ((strconv_FormatInt.f (wrap64 (IntKind.i8.wrap (x0))) 10).bind fun t110 => (if t109.toList = t110.toList then ((whole_Text_int16.f (IntKind.i16.wrap (x0))).bind fun t111 => ((strconv_FormatInt.f (wrap64 (IntKind.i16.wrap (x0))) 10).bind fun t112 => (if t111.toList = t112.toList then ((whole_Text_int32.f (wrap32 (x0))).bind fun t113 => ((strconv_FormatInt.f (wrap64 (wrap32 (x0))) 10).bind fun t114 => (if t113.toList = t114.toList then ((whole_Text_Small.f (IntKind.i8.wrap (x0))).bind fun t115 => ((strconv_FormatInt.f (wrap64 (IntKind.i8.wrap (x0))) 10).bind fun t116 => (quarrylaw12_WholeTexts.j1 k x1 (t115.toList != t116.toList)))) else (quarrylaw12_WholeTexts.j1 k x1 true)))) else (quarrylaw12_WholeTexts.j1 k x1 true)))) else (quarrylaw12_WholeTexts.j1 k x1 true))))
def quarrylaw12_WholeTexts.j1 : Nat → Int → Bool → Option (Bool)
  | 0, _, _ => none
  | k + 1, x1, x72 => if x72 = true then (none) else ((whole_Text_uint8.f ((x1) % 256)).bind fun t117 => ((strconv_FormatUint.f ((x1) % 256) 10).bind fun t118 => (if t117.toList = t118.toList then ((whole_Text_uint16.f (IntKind.u16.wrap (x1))).bind fun t119 => ((strconv_FormatUint.f (IntKind.u64.wrap (IntKind.u16.wrap (x1))) 10).bind fun t120 => (if t119.toList = t120.toList then ((whole_Text_uint32.f ((x1) % 4294967296)).bind fun t121 => ((strconv_FormatUint.f ((x1) % 4294967296) 10).bind fun t122 => (if t121.toList = t122.toList then ((whole_Text_Long.f x1).bind fun t123 => ((strconv_FormatUint.f x1 10).bind fun t124 => (some (t123.toList == t124.toList)))) else (none)))) else (none)))) else (none))))
end
def quarrylaw12_WholeTexts.f (k : Nat) (a0 : Int) (a1 : Int) : Option (Bool) := (whole_Text_int64.f a0).bind fun t101 => ((strconv_FormatInt.f a0 10).bind fun t102 => (if t101.toList = t102.toList then ((whole_Text_int.f a0).bind fun t103 => ((strconv_FormatInt.f a0 10).bind fun t104 => (if t103.toList = t104.toList then ((whole_Text_uint64.f a1).bind fun t105 => ((strconv_FormatUint.f a1 10).bind fun t106 => (if t105.toList = t106.toList then ((whole_Text_uint.f a1).bind fun t107 => ((strconv_FormatUint.f a1 10).bind fun t108 => (quarrylaw12_WholeTexts.j0 k a0 a1 (t107.toList != t108.toList)))) else (quarrylaw12_WholeTexts.j0 k a0 a1 true)))) else (quarrylaw12_WholeTexts.j0 k a0 a1 true)))) else (quarrylaw12_WholeTexts.j0 k a0 a1 true)))
theorem quarrylaw12_WholeTexts.mono_l : ∀ k, (∀ y0 y1 y2, LeO (quarrylaw12_WholeTexts.j0 k y0 y1 y2) (quarrylaw12_WholeTexts.j0 (k + 1) y0 y1 y2)) ∧ (∀ y0 y1, LeO (quarrylaw12_WholeTexts.j1 k y0 y1) (quarrylaw12_WholeTexts.j1 (k + 1) y0 y1))
  | 0 => ⟨fun _ _ _ r h => by simp [quarrylaw12_WholeTexts.j0] at h, fun _ _ r h => by simp [quarrylaw12_WholeTexts.j1] at h⟩
  | k + 1 => by
    obtain ⟨ih0, ih1⟩ := quarrylaw12_WholeTexts.mono_l k
    refine ⟨?_, ?_⟩
    · intro y0 y1 y2
      unfold quarrylaw12_WholeTexts.j0
      repeat' first
      | (with_reducible exact ih0 _ _ _)
      | (with_reducible exact ih1 _ _)
      | (with_reducible exact LeO.refl _)
      | (with_reducible exact LeO.none _)
      | (with_reducible refine LeO.ite ?_ ?_)
      | (with_reducible refine LeO.bind ?_ (fun _ => ?_))
      | exact ih0 _ _ _
      | exact ih1 _ _
      | exact LeO.none _
      | refine LeO.ite ?_ ?_
      | refine LeO.bind ?_ (fun _ => ?_)
    · intro y0 y1
      unfold quarrylaw12_WholeTexts.j1
      repeat' first
      | (with_reducible exact ih0 _ _ _)
      | (with_reducible exact ih1 _ _)
      | (with_reducible exact LeO.refl _)
      | (with_reducible exact LeO.none _)
      | (with_reducible refine LeO.ite ?_ ?_)
      | (with_reducible refine LeO.bind ?_ (fun _ => ?_))
      | exact ih0 _ _ _
      | exact ih1 _ _
      | exact LeO.none _
      | refine LeO.ite ?_ ?_
      | refine LeO.bind ?_ (fun _ => ?_)
theorem quarrylaw12_WholeTexts.mono : ∀ a0 a1 k, LeO (quarrylaw12_WholeTexts.f k a0 a1) (quarrylaw12_WholeTexts.f (k + 1) a0 a1) := by
  intro a0 a1 k
  obtain ⟨ih0, ih1⟩ := quarrylaw12_WholeTexts.mono_l k
  unfold quarrylaw12_WholeTexts.f
  repeat' first
      | (with_reducible exact ih0 _ _ _)
      | (with_reducible exact ih1 _ _)
      | (with_reducible exact LeO.refl _)
      | (with_reducible exact LeO.none _)
      | (with_reducible refine LeO.ite ?_ ?_)
      | (with_reducible refine LeO.bind ?_ (fun _ => ?_))
      | exact ih0 _ _ _
      | exact ih1 _ _
      | exact LeO.none _
      | refine LeO.ite ?_ ?_
      | refine LeO.bind ?_ (fun _ => ?_)
set_option maxHeartbeats 8000000 in
set_option maxRecDepth 100000 in
theorem quarrylaw12_WholeTexts.calls (k : Nat) (a0 : Int) (a1 : Int) (r : Bool) (w : World) (h : quarrylaw12_WholeTexts.f k a0 a1 = some r) (hT : TabW w := by first | exact hT | exact TabW.drewN hT _ | (refine TabW.below hT ?_; repeat (first | (with_reducible exact HB.out) | (with_reducible exact Below.refl _ _) | apply below_alloc | apply pw_below_drewN | apply below_drew1 | apply below_drew | assumption | refine below_set ?_ (Aside0.out (by assumption))))) :
    Calls Tryd.prog 3 #[.int .i64 a0, .int .u64 a1] w fun e w' => e = .returned (.bool r) ∧ Below w.heap.size w w' := by
  have HB := Aside0.mk (Below.refl w.heap.size w)
  have H : ((whole_Text_int64.f a0).bind fun t101 => ((strconv_FormatInt.f a0 10).bind fun t102 => (if t101.toList = t102.toList then ((whole_Text_int.f a0).bind fun t103 => ((strconv_FormatInt.f a0 10).bind fun t104 => (if t103.toList = t104.toList then ((whole_Text_uint64.f a1).bind fun t105 => ((strconv_FormatUint.f a1 10).bind fun t106 => (if t105.toList = t106.toList then ((whole_Text_uint.f a1).bind fun t107 => ((strconv_FormatUint.f a1 10).bind fun t108 => (quarrylaw12_WholeTexts.j0 k a0 a1 (t107.toList != t108.toList)))) else (quarrylaw12_WholeTexts.j0 k a0 a1 true)))) else (quarrylaw12_WholeTexts.j0 k a0 a1 true)))) else (quarrylaw12_WholeTexts.j0 k a0 a1 true)))) = some r := h
  clear h
  have HC3 := Aside0.mk H
  clear H
  go_enter Tryd.func3, Tryd.ntmps3
  go_upto_region 1 with (fail)
  go_cut [36] (fun v36 wc => ∃ (kq : Nat) (x36_2 : Bool), v36 = .bool x36_2 ∧ Aside0 (quarrylaw12_WholeTexts.j0 kq a0 a1 x36_2 = some r) ∧ Aside0 (kq ≤ k) ∧ Aside0 (Below w.heap.size w wc))
  case first =>
    have H := HC3.out
    clear HC3
    replace H := Option.bind_eq_some_iff.mp H
    obtain ⟨t101, A40, H⟩ := H
    replace H : ((strconv_FormatInt.f a0 10).bind fun t102 => (if t101.toList = t102.toList then ((whole_Text_int.f a0).bind fun t103 => ((strconv_FormatInt.f a0 10).bind fun t104 => (if t103.toList = t104.toList then ((whole_Text_uint64.f a1).bind fun t105 => ((strconv_FormatUint.f a1 10).bind fun t106 => (if t105.toList = t106.toList then ((whole_Text_uint.f a1).bind fun t107 => ((strconv_FormatUint.f a1 10).bind fun t108 => (quarrylaw12_WholeTexts.j0 k a0 a1 (t107.toList != t108.toList)))) else (quarrylaw12_WholeTexts.j0 k a0 a1 true)))) else (quarrylaw12_WholeTexts.j0 k a0 a1 true)))) else (quarrylaw12_WholeTexts.j0 k a0 a1 true))) = some r := H
    have A4 := Aside0.mk A40
    clear A40
    replace H := Option.bind_eq_some_iff.mp H
    obtain ⟨t102, A50, H⟩ := H
    replace H : (if t101.toList = t102.toList then ((whole_Text_int.f a0).bind fun t103 => ((strconv_FormatInt.f a0 10).bind fun t104 => (if t103.toList = t104.toList then ((whole_Text_uint64.f a1).bind fun t105 => ((strconv_FormatUint.f a1 10).bind fun t106 => (if t105.toList = t106.toList then ((whole_Text_uint.f a1).bind fun t107 => ((strconv_FormatUint.f a1 10).bind fun t108 => (quarrylaw12_WholeTexts.j0 k a0 a1 (t107.toList != t108.toList)))) else (quarrylaw12_WholeTexts.j0 k a0 a1 true)))) else (quarrylaw12_WholeTexts.j0 k a0 a1 true)))) else (quarrylaw12_WholeTexts.j0 k a0 a1 true)) = some r := H
    have A5 := Aside0.mk A50
    clear A50
    by_cases c6 : t101.toList = t102.toList
    · rw [if_pos c6] at H
      have c6b0 : (t101.toList == t102.toList) = true := beq_iff_eq.mpr c6
      have c6b1 : (t101.toList != t102.toList) = false := bne_eq_false_iff_eq.mpr c6
      clear c6
      (first | rw [c6b0] | (simp only [i64_w, i32_w]; rw [c6b0]) | skip)
      replace H := Option.bind_eq_some_iff.mp H
      obtain ⟨t103, A70, H⟩ := H
      replace H : ((strconv_FormatInt.f a0 10).bind fun t104 => (if t103.toList = t104.toList then ((whole_Text_uint64.f a1).bind fun t105 => ((strconv_FormatUint.f a1 10).bind fun t106 => (if t105.toList = t106.toList then ((whole_Text_uint.f a1).bind fun t107 => ((strconv_FormatUint.f a1 10).bind fun t108 => (quarrylaw12_WholeTexts.j0 k a0 a1 (t107.toList != t108.toList)))) else (quarrylaw12_WholeTexts.j0 k a0 a1 true)))) else (quarrylaw12_WholeTexts.j0 k a0 a1 true))) = some r := H
      have A7 := Aside0.mk A70
      clear A70
      replace H := Option.bind_eq_some_iff.mp H
      obtain ⟨t104, A80, H⟩ := H
      replace H : (if t103.toList = t104.toList then ((whole_Text_uint64.f a1).bind fun t105 => ((strconv_FormatUint.f a1 10).bind fun t106 => (if t105.toList = t106.toList then ((whole_Text_uint.f a1).bind fun t107 => ((strconv_FormatUint.f a1 10).bind fun t108 => (quarrylaw12_WholeTexts.j0 k a0 a1 (t107.toList != t108.toList)))) else (quarrylaw12_WholeTexts.j0 k a0 a1 true)))) else (quarrylaw12_WholeTexts.j0 k a0 a1 true)) = some r := H
      have A8 := Aside0.mk A80
      clear A80
      by_cases c9 : t103.toList = t104.toList
      · rw [if_pos c9] at H
        have c9b0 : (t103.toList == t104.toList) = true := beq_iff_eq.mpr c9
        have c9b1 : (t103.toList != t104.toList) = false := bne_eq_false_iff_eq.mpr c9
        clear c9
        replace H := Option.bind_eq_some_iff.mp H
        obtain ⟨t105, A100, H⟩ := H
        replace H : ((strconv_FormatUint.f a1 10).bind fun t106 => (if t105.toList = t106.toList then ((whole_Text_uint.f a1).bind fun t107 => ((strconv_FormatUint.f a1 10).bind fun t108 => (quarrylaw12_WholeTexts.j0 k a0 a1 (t107.toList != t108.toList)))) else (quarrylaw12_WholeTexts.j0 k a0 a1 true))) = some r := H
        have A10 := Aside0.mk A100
        clear A100
        replace H := Option.bind_eq_some_iff.mp H
        obtain ⟨t106, A110, H⟩ := H
        replace H : (if t105.toList = t106.toList then ((whole_Text_uint.f a1).bind fun t107 => ((strconv_FormatUint.f a1 10).bind fun t108 => (quarrylaw12_WholeTexts.j0 k a0 a1 (t107.toList != t108.toList)))) else (quarrylaw12_WholeTexts.j0 k a0 a1 true)) = some r := H
        have A11 := Aside0.mk A110
        clear A110
        by_cases c12 : t105.toList = t106.toList
        · rw [if_pos c12] at H
          have c12b0 : (t105.toList == t106.toList) = true := beq_iff_eq.mpr c12
          have c12b1 : (t105.toList != t106.toList) = false := bne_eq_false_iff_eq.mpr c12
          clear c12
          replace H := Option.bind_eq_some_iff.mp H
          obtain ⟨t107, A130, H⟩ := H
          replace H : ((strconv_FormatUint.f a1 10).bind fun t108 => (quarrylaw12_WholeTexts.j0 k a0 a1 (t107.toList != t108.toList))) = some r := H
          have A13 := Aside0.mk A130
          clear A130
          replace H := Option.bind_eq_some_iff.mp H
          obtain ⟨t108, A140, H⟩ := H
          replace H : (quarrylaw12_WholeTexts.j0 k a0 a1 (t107.toList != t108.toList)) = some r := H
          have A14 := Aside0.mk A140
          clear A140
          have H' := Aside0.mk H
          clear H
          go_wp2_with (first | ((with_reducible refine gate_callee (f := 9) rfl ?_); refine goesL_ (some 12) rfl rfl Tryd.func9 (by kernel_rfl) rfl #[.int .i64 a0] rfl (by (try simp only [List.map_toArray, List.map_cons, List.map_nil]); first | done | rfl | (simp only [List.length_drop, List.length_take]; rfl)) ?_; (with_reducible refine (whole_Text_int64.calls a0 t101 _ A4.out).mono ?_); rintro e w15 ⟨rfl, hb⟩; refine ⟨_, rfl, ?_⟩; have n0_ := Aside0.mk (below_step (by repeat (first | (with_reducible first | exact HB.out | apply below_alloc | apply pw_below_drewN | apply below_drew1) | exact HB.out)) hb); clear HB; have HB := n0_; clear n0_; (try clear hb); (try clear hb2); (try clear hk); (try clear hi)) | ((with_reducible refine gate_callee (f := 10) rfl ?_); refine goesL_ (some 14) rfl rfl Tryd.func10 (by kernel_rfl) rfl #[.int .i64 a0, .int .i64 10] rfl (by (try simp only [List.map_toArray, List.map_cons, List.map_nil]); first | done | rfl | (simp only [List.length_drop, List.length_take]; rfl)) ?_; (with_reducible refine (strconv_FormatInt.calls a0 10 t102 _ A5.out).mono ?_); rintro e w16 ⟨rfl, hb⟩; refine ⟨_, rfl, ?_⟩; have n0_ := Aside0.mk (below_step (by repeat (first | (with_reducible first | exact HB.out | apply below_alloc | apply pw_below_drewN | apply below_drew1) | exact HB.out)) hb); clear HB; have HB := n0_; clear n0_; (try clear hb); (try clear hb2); (try clear hk); (try clear hi)) | (go_at_call 11; (with_reducible refine (whole_Text_int.calls a0 t103 _ A7.out).mono ?_); rintro e w17 ⟨rfl, hb⟩; have n0_ := Aside0.mk (below_step (by repeat (first | (with_reducible first | exact HB.out | apply below_alloc | apply pw_below_drewN | apply below_drew1) | exact HB.out)) hb); clear HB; have HB := n0_; clear n0_; (try clear hb); (try clear hb2); (try clear hk); (try clear hi)) | (go_at_call 10; (with_reducible refine (strconv_FormatInt.calls a0 10 t104 _ A8.out).mono ?_); rintro e w18 ⟨rfl, hb⟩; have n0_ := Aside0.mk (below_step (by repeat (first | (with_reducible first | exact HB.out | apply below_alloc | apply pw_below_drewN | apply below_drew1) | exact HB.out)) hb); clear HB; have HB := n0_; clear n0_; (try clear hb); (try clear hb2); (try clear hk); (try clear hi)) | (go_at_call 12; (with_reducible refine (whole_Text_uint64.calls a1 t105 _ A10.out).mono ?_); rintro e w19 ⟨rfl, hb⟩; have n0_ := Aside0.mk (below_step (by repeat (first | (with_reducible first | exact HB.out | apply below_alloc | apply pw_below_drewN | apply below_drew1) | exact HB.out)) hb); clear HB; have HB := n0_; clear n0_; (try clear hb); (try clear hb2); (try clear hk); (try clear hi)) | (go_at_call 13; (with_reducible refine (strconv_FormatUint.calls a1 10 t106 _ A11.out).mono ?_); rintro e w20 ⟨rfl, hb⟩; have n0_ := Aside0.mk (below_step (by repeat (first | (with_reducible first | exact HB.out | apply below_alloc | apply pw_below_drewN | apply below_drew1) | exact HB.out)) hb); clear HB; have HB := n0_; clear n0_; (try clear hb); (try clear hb2); (try clear hk); (try clear hi)) | (go_at_call 14; (with_reducible refine (whole_Text_uint.calls a1 t107 _ A13.out).mono ?_); rintro e w21 ⟨rfl, hb⟩; have n0_ := Aside0.mk (below_step (by repeat (first | (with_reducible first | exact HB.out | apply below_alloc | apply pw_below_drewN | apply below_drew1) | exact HB.out)) hb); clear HB; have HB := n0_; clear n0_; (try clear hb); (try clear hb2); (try clear hk); (try clear hi)) | (go_at_call 13; (with_reducible refine (strconv_FormatUint.calls a1 10 t108 _ A14.out).mono ?_); rintro e w22 ⟨rfl, hb⟩; have n0_ := Aside0.mk (below_step (by repeat (first | (with_reducible first | exact HB.out | apply below_alloc | apply pw_below_drewN | apply below_drew1) | exact HB.out)) hb); clear HB; have HB := n0_; clear n0_; (try clear hb); (try clear hb2); (try clear hk); (try clear hi)))
          go_meet
          case rel => exact ⟨_, ((t107.toList != t108.toList)), (by first | rfl | (simp; done) | (simp [*]; done) | (rw [show t106 = t108 from Option.some.inj (A11.out.symm.trans A14.out)]; simp only [bne, Bool.not_not])), H', ⟨by first | omega | exact Nat.le_refl _⟩, ⟨by repeat (first | (with_reducible first | exact HB.out | apply below_alloc | apply pw_below_drewN | apply below_drew1) | exact HB.out)⟩⟩
        · rw [if_neg c12] at H
          have c12b0 : (t105.toList == t106.toList) = false := beq_eq_false_iff_ne.mpr c12
          have c12b1 : (t105.toList != t106.toList) = true := bne_iff_ne.mpr c12
          have H' := Aside0.mk H
          clear H
          go_wp2_with (first | ((with_reducible refine gate_callee (f := 9) rfl ?_); refine goesL_ (some 12) rfl rfl Tryd.func9 (by kernel_rfl) rfl #[.int .i64 a0] rfl (by (try simp only [List.map_toArray, List.map_cons, List.map_nil]); first | done | rfl | (simp only [List.length_drop, List.length_take]; rfl)) ?_; (with_reducible refine (whole_Text_int64.calls a0 t101 _ A4.out).mono ?_); rintro e w23 ⟨rfl, hb⟩; refine ⟨_, rfl, ?_⟩; have n0_ := Aside0.mk (below_step (by repeat (first | (with_reducible first | exact HB.out | apply below_alloc | apply pw_below_drewN | apply below_drew1) | exact HB.out)) hb); clear HB; have HB := n0_; clear n0_; (try clear hb); (try clear hb2); (try clear hk); (try clear hi)) | ((with_reducible refine gate_callee (f := 10) rfl ?_); refine goesL_ (some 14) rfl rfl Tryd.func10 (by kernel_rfl) rfl #[.int .i64 a0, .int .i64 10] rfl (by (try simp only [List.map_toArray, List.map_cons, List.map_nil]); first | done | rfl | (simp only [List.length_drop, List.length_take]; rfl)) ?_; (with_reducible refine (strconv_FormatInt.calls a0 10 t102 _ A5.out).mono ?_); rintro e w24 ⟨rfl, hb⟩; refine ⟨_, rfl, ?_⟩; have n0_ := Aside0.mk (below_step (by repeat (first | (with_reducible first | exact HB.out | apply below_alloc | apply pw_below_drewN | apply below_drew1) | exact HB.out)) hb); clear HB; have HB := n0_; clear n0_; (try clear hb); (try clear hb2); (try clear hk); (try clear hi)) | (go_at_call 11; (with_reducible refine (whole_Text_int.calls a0 t103 _ A7.out).mono ?_); rintro e w25 ⟨rfl, hb⟩; have n0_ := Aside0.mk (below_step (by repeat (first | (with_reducible first | exact HB.out | apply below_alloc | apply pw_below_drewN | apply below_drew1) | exact HB.out)) hb); clear HB; have HB := n0_; clear n0_; (try clear hb); (try clear hb2); (try clear hk); (try clear hi)) | (go_at_call 10; (with_reducible refine (strconv_FormatInt.calls a0 10 t104 _ A8.out).mono ?_); rintro e w26 ⟨rfl, hb⟩; have n0_ := Aside0.mk (below_step (by repeat (first | (with_reducible first | exact HB.out | apply below_alloc | apply pw_below_drewN | apply below_drew1) | exact HB.out)) hb); clear HB; have HB := n0_; clear n0_; (try clear hb); (try clear hb2); (try clear hk); (try clear hi)) | (go_at_call 12; (with_reducible refine (whole_Text_uint64.calls a1 t105 _ A10.out).mono ?_); rintro e w27 ⟨rfl, hb⟩; have n0_ := Aside0.mk (below_step (by repeat (first | (with_reducible first | exact HB.out | apply below_alloc | apply pw_below_drewN | apply below_drew1) | exact HB.out)) hb); clear HB; have HB := n0_; clear n0_; (try clear hb); (try clear hb2); (try clear hk); (try clear hi)) | (go_at_call 13; (with_reducible refine (strconv_FormatUint.calls a1 10 t106 _ A11.out).mono ?_); rintro e w28 ⟨rfl, hb⟩; have n0_ := Aside0.mk (below_step (by repeat (first | (with_reducible first | exact HB.out | apply below_alloc | apply pw_below_drewN | apply below_drew1) | exact HB.out)) hb); clear HB; have HB := n0_; clear n0_; (try clear hb); (try clear hb2); (try clear hk); (try clear hi)))
          go_meet
          case rel => exact ⟨_, (true), (by first | rfl | (simp; done) | (simp [*]; done)), H', ⟨by first | omega | exact Nat.le_refl _⟩, ⟨by repeat (first | (with_reducible first | exact HB.out | apply below_alloc | apply pw_below_drewN | apply below_drew1) | exact HB.out)⟩⟩
      · rw [if_neg c9] at H
        have c9b0 : (t103.toList == t104.toList) = false := beq_eq_false_iff_ne.mpr c9
        have c9b1 : (t103.toList != t104.toList) = true := bne_iff_ne.mpr c9
        have H' := Aside0.mk H
        clear H
        go_wp2_with (first | ((with_reducible refine gate_callee (f := 9) rfl ?_); refine goesL_ (some 12) rfl rfl Tryd.func9 (by kernel_rfl) rfl #[.int .i64 a0] rfl (by (try simp only [List.map_toArray, List.map_cons, List.map_nil]); first | done | rfl | (simp only [List.length_drop, List.length_take]; rfl)) ?_; (with_reducible refine (whole_Text_int64.calls a0 t101 _ A4.out).mono ?_); rintro e w29 ⟨rfl, hb⟩; refine ⟨_, rfl, ?_⟩; have n0_ := Aside0.mk (below_step (by repeat (first | (with_reducible first | exact HB.out | apply below_alloc | apply pw_below_drewN | apply below_drew1) | exact HB.out)) hb); clear HB; have HB := n0_; clear n0_; (try clear hb); (try clear hb2); (try clear hk); (try clear hi)) | ((with_reducible refine gate_callee (f := 10) rfl ?_); refine goesL_ (some 14) rfl rfl Tryd.func10 (by kernel_rfl) rfl #[.int .i64 a0, .int .i64 10] rfl (by (try simp only [List.map_toArray, List.map_cons, List.map_nil]); first | done | rfl | (simp only [List.length_drop, List.length_take]; rfl)) ?_; (with_reducible refine (strconv_FormatInt.calls a0 10 t102 _ A5.out).mono ?_); rintro e w30 ⟨rfl, hb⟩; refine ⟨_, rfl, ?_⟩; have n0_ := Aside0.mk (below_step (by repeat (first | (with_reducible first | exact HB.out | apply below_alloc | apply pw_below_drewN | apply below_drew1) | exact HB.out)) hb); clear HB; have HB := n0_; clear n0_; (try clear hb); (try clear hb2); (try clear hk); (try clear hi)) | (go_at_call 11; (with_reducible refine (whole_Text_int.calls a0 t103 _ A7.out).mono ?_); rintro e w31 ⟨rfl, hb⟩; have n0_ := Aside0.mk (below_step (by repeat (first | (with_reducible first | exact HB.out | apply below_alloc | apply pw_below_drewN | apply below_drew1) | exact HB.out)) hb); clear HB; have HB := n0_; clear n0_; (try clear hb); (try clear hb2); (try clear hk); (try clear hi)) | (go_at_call 10; (with_reducible refine (strconv_FormatInt.calls a0 10 t104 _ A8.out).mono ?_); rintro e w32 ⟨rfl, hb⟩; have n0_ := Aside0.mk (below_step (by repeat (first | (with_reducible first | exact HB.out | apply below_alloc | apply pw_below_drewN | apply below_drew1) | exact HB.out)) hb); clear HB; have HB := n0_; clear n0_; (try clear hb); (try clear hb2); (try clear hk); (try clear hi)))
        go_meet
        case rel => exact ⟨_, (true), (by first | rfl | (simp; done) | (simp [*]; done)), H', ⟨by first | omega | exact Nat.le_refl _⟩, ⟨by repeat (first | (with_reducible first | exact HB.out | apply below_alloc | apply pw_below_drewN | apply below_drew1) | exact HB.out)⟩⟩
    · rw [if_neg c6] at H
      have c6b0 : (t101.toList == t102.toList) = false := beq_eq_false_iff_ne.mpr c6
      have c6b1 : (t101.toList != t102.toList) = true := bne_iff_ne.mpr c6
      (first | rw [c6b0] | (simp only [i64_w, i32_w]; rw [c6b0]) | skip)
      have H' := Aside0.mk H
      clear H
      go_wp2_with (first | ((with_reducible refine gate_callee (f := 9) rfl ?_); refine goesL_ (some 12) rfl rfl Tryd.func9 (by kernel_rfl) rfl #[.int .i64 a0] rfl (by (try simp only [List.map_toArray, List.map_cons, List.map_nil]); first | done | rfl | (simp only [List.length_drop, List.length_take]; rfl)) ?_; (with_reducible refine (whole_Text_int64.calls a0 t101 _ A4.out).mono ?_); rintro e w33 ⟨rfl, hb⟩; refine ⟨_, rfl, ?_⟩; have n0_ := Aside0.mk (below_step (by repeat (first | (with_reducible first | exact HB.out | apply below_alloc | apply pw_below_drewN | apply below_drew1) | exact HB.out)) hb); clear HB; have HB := n0_; clear n0_; (try clear hb); (try clear hb2); (try clear hk); (try clear hi)) | ((with_reducible refine gate_callee (f := 10) rfl ?_); refine goesL_ (some 14) rfl rfl Tryd.func10 (by kernel_rfl) rfl #[.int .i64 a0, .int .i64 10] rfl (by (try simp only [List.map_toArray, List.map_cons, List.map_nil]); first | done | rfl | (simp only [List.length_drop, List.length_take]; rfl)) ?_; (with_reducible refine (strconv_FormatInt.calls a0 10 t102 _ A5.out).mono ?_); rintro e w34 ⟨rfl, hb⟩; refine ⟨_, rfl, ?_⟩; have n0_ := Aside0.mk (below_step (by repeat (first | (with_reducible first | exact HB.out | apply below_alloc | apply pw_below_drewN | apply below_drew1) | exact HB.out)) hb); clear HB; have HB := n0_; clear n0_; (try clear hb); (try clear hb2); (try clear hk); (try clear hi)))
      go_meet
      case rel => exact ⟨_, (true), (by first | rfl | (simp; done) | (simp [*]; done)), H', ⟨by first | omega | exact Nat.le_refl _⟩, ⟨by repeat (first | (with_reducible first | exact HB.out | apply below_alloc | apply pw_below_drewN | apply below_drew1) | exact HB.out)⟩⟩
  case rest =>
    clear HC3
    try clear c1
    try clear p2
    try clear c3
    try clear c6
    try clear c6b0
    try clear c6b1
    try clear c9
    try clear c9b0
    try clear c9b1
    try clear c10
    try clear c12
    try clear c12b0
    try clear c12b1
    obtain ⟨kq, x36_2, rfl, HA, HJ2, HB⟩ := hcut
    cases kq with
    | zero => exact absurd HA.out (by simp [quarrylaw12_WholeTexts.j0])
    | succ kj2 =>
      have H := HA.out
      clear HA
      simp only [quarrylaw12_WholeTexts.j0] at H
      by_cases c35 : x36_2 = true
      · subst c35
        have H1 : (none) = some r := by rw [if_pos rfl] at H; exact H
        clear H
        have H := H1
        clear H1
        exact absurd H (by simp)
      · replace c35 := Bool.eq_false_iff.mpr c35
        subst c35
        have H1 : ((whole_Text_int8.f (IntKind.i8.wrap (a0))).bind fun t109 => ((strconv_FormatInt.f (wrap64 (IntKind.i8.wrap (a0))) 10).bind fun t110 => (if t109.toList = t110.toList then ((whole_Text_int16.f (IntKind.i16.wrap (a0))).bind fun t111 => ((strconv_FormatInt.f (wrap64 (IntKind.i16.wrap (a0))) 10).bind fun t112 => (if t111.toList = t112.toList then ((whole_Text_int32.f (wrap32 (a0))).bind fun t113 => ((strconv_FormatInt.f (wrap64 (wrap32 (a0))) 10).bind fun t114 => (if t113.toList = t114.toList then ((whole_Text_Small.f (IntKind.i8.wrap (a0))).bind fun t115 => ((strconv_FormatInt.f (wrap64 (IntKind.i8.wrap (a0))) 10).bind fun t116 => (quarrylaw12_WholeTexts.j1 kj2 a1 (t115.toList != t116.toList)))) else (quarrylaw12_WholeTexts.j1 kj2 a1 true)))) else (quarrylaw12_WholeTexts.j1 kj2 a1 true)))) else (quarrylaw12_WholeTexts.j1 kj2 a1 true)))) = some r := by rw [if_neg (show ¬ (false = true) by decide)] at H; exact H
        clear H
        have H := H1
        clear H1
        have HC36 := Aside0.mk H
        clear H
        go_upto_region 4 with (fail)
        go_cut [72] (fun v72 wc => ∃ (kq : Nat) (x72_35 : Bool), v72 = .bool x72_35 ∧ Aside0 (quarrylaw12_WholeTexts.j1 kq a1 x72_35 = some r) ∧ Aside0 (kq ≤ kj2) ∧ Aside0 (Below w.heap.size w wc))
        case first =>
          have H := HC36.out
          clear HC36
          replace H := Option.bind_eq_some_iff.mp H
          obtain ⟨t109, A370, H⟩ := H
          replace H : ((strconv_FormatInt.f (wrap64 (IntKind.i8.wrap (a0))) 10).bind fun t110 => (if t109.toList = t110.toList then ((whole_Text_int16.f (IntKind.i16.wrap (a0))).bind fun t111 => ((strconv_FormatInt.f (wrap64 (IntKind.i16.wrap (a0))) 10).bind fun t112 => (if t111.toList = t112.toList then ((whole_Text_int32.f (wrap32 (a0))).bind fun t113 => ((strconv_FormatInt.f (wrap64 (wrap32 (a0))) 10).bind fun t114 => (if t113.toList = t114.toList then ((whole_Text_Small.f (IntKind.i8.wrap (a0))).bind fun t115 => ((strconv_FormatInt.f (wrap64 (IntKind.i8.wrap (a0))) 10).bind fun t116 => (quarrylaw12_WholeTexts.j1 kj2 a1 (t115.toList != t116.toList)))) else (quarrylaw12_WholeTexts.j1 kj2 a1 true)))) else (quarrylaw12_WholeTexts.j1 kj2 a1 true)))) else (quarrylaw12_WholeTexts.j1 kj2 a1 true))) = some r := H
          have A37 := Aside0.mk A370
          clear A370
          replace H := Option.bind_eq_some_iff.mp H
          obtain ⟨t110, A380, H⟩ := H
          replace H : (if t109.toList = t110.toList then ((whole_Text_int16.f (IntKind.i16.wrap (a0))).bind fun t111 => ((strconv_FormatInt.f (wrap64 (IntKind.i16.wrap (a0))) 10).bind fun t112 => (if t111.toList = t112.toList then ((whole_Text_int32.f (wrap32 (a0))).bind fun t113 => ((strconv_FormatInt.f (wrap64 (wrap32 (a0))) 10).bind fun t114 => (if t113.toList = t114.toList then ((whole_Text_Small.f (IntKind.i8.wrap (a0))).bind fun t115 => ((strconv_FormatInt.f (wrap64 (IntKind.i8.wrap (a0))) 10).bind fun t116 => (quarrylaw12_WholeTexts.j1 kj2 a1 (t115.toList != t116.toList)))) else (quarrylaw12_WholeTexts.j1 kj2 a1 true)))) else (quarrylaw12_WholeTexts.j1 kj2 a1 true)))) else (quarrylaw12_WholeTexts.j1 kj2 a1 true)) = some r := H
          have A38 := Aside0.mk A380
          clear A380
          by_cases c39 : t109.toList = t110.toList
          · rw [if_pos c39] at H
            have c39b0 : (t109.toList == t110.toList) = true := beq_iff_eq.mpr c39
            have c39b1 : (t109.toList != t110.toList) = false := bne_eq_false_iff_eq.mpr c39
            clear c39
            (first | rw [c39b0] | (simp only [i64_w, i32_w]; rw [c39b0]) | skip)
            replace H := Option.bind_eq_some_iff.mp H
            obtain ⟨t111, A400, H⟩ := H
            replace H : ((strconv_FormatInt.f (wrap64 (IntKind.i16.wrap (a0))) 10).bind fun t112 => (if t111.toList = t112.toList then ((whole_Text_int32.f (wrap32 (a0))).bind fun t113 => ((strconv_FormatInt.f (wrap64 (wrap32 (a0))) 10).bind fun t114 => (if t113.toList = t114.toList then ((whole_Text_Small.f (IntKind.i8.wrap (a0))).bind fun t115 => ((strconv_FormatInt.f (wrap64 (IntKind.i8.wrap (a0))) 10).bind fun t116 => (quarrylaw12_WholeTexts.j1 kj2 a1 (t115.toList != t116.toList)))) else (quarrylaw12_WholeTexts.j1 kj2 a1 true)))) else (quarrylaw12_WholeTexts.j1 kj2 a1 true))) = some r := H
            have A40 := Aside0.mk A400
            clear A400
            replace H := Option.bind_eq_some_iff.mp H
            obtain ⟨t112, A410, H⟩ := H
            replace H : (if t111.toList = t112.toList then ((whole_Text_int32.f (wrap32 (a0))).bind fun t113 => ((strconv_FormatInt.f (wrap64 (wrap32 (a0))) 10).bind fun t114 => (if t113.toList = t114.toList then ((whole_Text_Small.f (IntKind.i8.wrap (a0))).bind fun t115 => ((strconv_FormatInt.f (wrap64 (IntKind.i8.wrap (a0))) 10).bind fun t116 => (quarrylaw12_WholeTexts.j1 kj2 a1 (t115.toList != t116.toList)))) else (quarrylaw12_WholeTexts.j1 kj2 a1 true)))) else (quarrylaw12_WholeTexts.j1 kj2 a1 true)) = some r := H
            have A41 := Aside0.mk A410
            clear A410
            by_cases c42 : t111.toList = t112.toList
            · rw [if_pos c42] at H
              have c42b0 : (t111.toList == t112.toList) = true := beq_iff_eq.mpr c42
              have c42b1 : (t111.toList != t112.toList) = false := bne_eq_false_iff_eq.mpr c42
              clear c42
              replace H := Option.bind_eq_some_iff.mp H
              obtain ⟨t113, A430, H⟩ := H
              replace H : ((strconv_FormatInt.f (wrap64 (wrap32 (a0))) 10).bind fun t114 => (if t113.toList = t114.toList then ((whole_Text_Small.f (IntKind.i8.wrap (a0))).bind fun t115 => ((strconv_FormatInt.f (wrap64 (IntKind.i8.wrap (a0))) 10).bind fun t116 => (quarrylaw12_WholeTexts.j1 kj2 a1 (t115.toList != t116.toList)))) else (quarrylaw12_WholeTexts.j1 kj2 a1 true))) = some r := H
              have A43 := Aside0.mk A430
              clear A430
              replace H := Option.bind_eq_some_iff.mp H
              obtain ⟨t114, A440, H⟩ := H
              replace H : (if t113.toList = t114.toList then ((whole_Text_Small.f (IntKind.i8.wrap (a0))).bind fun t115 => ((strconv_FormatInt.f (wrap64 (IntKind.i8.wrap (a0))) 10).bind fun t116 => (quarrylaw12_WholeTexts.j1 kj2 a1 (t115.toList != t116.toList)))) else (quarrylaw12_WholeTexts.j1 kj2 a1 true)) = some r := H
              have A44 := Aside0.mk A440
              clear A440
              by_cases c45 : t113.toList = t114.toList
              · rw [if_pos c45] at H
                have c45b0 : (t113.toList == t114.toList) = true := beq_iff_eq.mpr c45
                have c45b1 : (t113.toList != t114.toList) = false := bne_eq_false_iff_eq.mpr c45
                clear c45
                replace H := Option.bind_eq_some_iff.mp H
                obtain ⟨t115, A460, H⟩ := H
                replace H : ((strconv_FormatInt.f (wrap64 (IntKind.i8.wrap (a0))) 10).bind fun t116 => (quarrylaw12_WholeTexts.j1 kj2 a1 (t115.toList != t116.toList))) = some r := H
                have A46 := Aside0.mk A460
                clear A460
                replace H := Option.bind_eq_some_iff.mp H
                obtain ⟨t116, A470, H⟩ := H
                replace H : (quarrylaw12_WholeTexts.j1 kj2 a1 (t115.toList != t116.toList)) = some r := H
                have A47 := Aside0.mk A470
                clear A470
                have H' := Aside0.mk H
                clear H
                go_wp2_with (first | ((with_reducible refine gate_callee (f := 15) rfl ?_); refine goesL_ (some 44) rfl rfl Tryd.func15 (by kernel_rfl) rfl #[.int .i8 (IntKind.i8.wrap (a0))] rfl (by (try simp only [List.map_toArray, List.map_cons, List.map_nil]); first | done | rfl | (simp only [List.length_drop, List.length_take]; rfl)) ?_; (with_reducible refine (whole_Text_int8.calls (IntKind.i8.wrap (a0)) t109 _ A37.out).mono ?_); rintro e w48 ⟨rfl, hb⟩; refine ⟨_, rfl, ?_⟩; have n0_ := Aside0.mk (below_step (by repeat (first | (with_reducible first | exact HB.out | apply below_alloc | apply pw_below_drewN | apply below_drew1) | exact HB.out)) hb); clear HB; have HB := n0_; clear n0_; (try clear hb); (try clear hb2); (try clear hk); (try clear hi)) | ((with_reducible refine gate_callee (f := 10) rfl ?_); refine goesL_ (some 47) rfl rfl Tryd.func10 (by kernel_rfl) rfl #[.int .i64 (wrap64 (IntKind.i8.wrap (a0))), .int .i64 10] rfl (by (try simp only [List.map_toArray, List.map_cons, List.map_nil]); first | done | rfl | (simp only [List.length_drop, List.length_take]; rfl)) ?_; (with_reducible refine (strconv_FormatInt.calls (wrap64 (IntKind.i8.wrap (a0))) 10 t110 _ A38.out).mono ?_); rintro e w49 ⟨rfl, hb⟩; refine ⟨_, rfl, ?_⟩; have n0_ := Aside0.mk (below_step (by repeat (first | (with_reducible first | exact HB.out | apply below_alloc | apply pw_below_drewN | apply below_drew1) | exact HB.out)) hb); clear HB; have HB := n0_; clear n0_; (try clear hb); (try clear hb2); (try clear hk); (try clear hi)) | (go_at_call 16; (with_reducible refine (whole_Text_int16.calls (IntKind.i16.wrap (a0)) t111 _ A40.out).mono ?_); rintro e w50 ⟨rfl, hb⟩; have n0_ := Aside0.mk (below_step (by repeat (first | (with_reducible first | exact HB.out | apply below_alloc | apply pw_below_drewN | apply below_drew1) | exact HB.out)) hb); clear HB; have HB := n0_; clear n0_; (try clear hb); (try clear hb2); (try clear hk); (try clear hi)) | (go_at_call 10; (with_reducible refine (strconv_FormatInt.calls (wrap64 (IntKind.i16.wrap (a0))) 10 t112 _ A41.out).mono ?_); rintro e w51 ⟨rfl, hb⟩; have n0_ := Aside0.mk (below_step (by repeat (first | (with_reducible first | exact HB.out | apply below_alloc | apply pw_below_drewN | apply below_drew1) | exact HB.out)) hb); clear HB; have HB := n0_; clear n0_; (try clear hb); (try clear hb2); (try clear hk); (try clear hi)) | (go_at_call 17; (with_reducible refine (whole_Text_int32.calls (wrap32 (a0)) t113 _ A43.out).mono ?_); rintro e w52 ⟨rfl, hb⟩; have n0_ := Aside0.mk (below_step (by repeat (first | (with_reducible first | exact HB.out | apply below_alloc | apply pw_below_drewN | apply below_drew1) | exact HB.out)) hb); clear HB; have HB := n0_; clear n0_; (try clear hb); (try clear hb2); (try clear hk); (try clear hi)) | (go_at_call 10; (with_reducible refine (strconv_FormatInt.calls (wrap64 (wrap32 (a0))) 10 t114 _ A44.out).mono ?_); rintro e w53 ⟨rfl, hb⟩; have n0_ := Aside0.mk (below_step (by repeat (first | (with_reducible first | exact HB.out | apply below_alloc | apply pw_below_drewN | apply below_drew1) | exact HB.out)) hb); clear HB; have HB := n0_; clear n0_; (try clear hb); (try clear hb2); (try clear hk); (try clear hi)) | (go_at_call 18; (with_reducible refine (whole_Text_Small.calls (IntKind.i8.wrap (a0)) t115 _ A46.out).mono ?_); rintro e w54 ⟨rfl, hb⟩; have n0_ := Aside0.mk (below_step (by repeat (first | (with_reducible first | exact HB.out | apply below_alloc | apply pw_below_drewN | apply below_drew1) | exact HB.out)) hb); clear HB; have HB := n0_; clear n0_; (try clear hb); (try clear hb2); (try clear hk); (try clear hi)) | (go_at_call 10; (with_reducible refine (strconv_FormatInt.calls (wrap64 (IntKind.i8.wrap (a0))) 10 t116 _ A47.out).mono ?_); rintro e w55 ⟨rfl, hb⟩; have n0_ := Aside0.mk (below_step (by repeat (first | (with_reducible first | exact HB.out | apply below_alloc | apply pw_below_drewN | apply below_drew1) | exact HB.out)) hb); clear HB; have HB := n0_; clear n0_; (try clear hb); (try clear hb2); (try clear hk); (try clear hi)))
                go_meet
                case rel => exact ⟨_, ((t115.toList != t116.toList)), (by first | rfl | (simp; done) | (simp [*]; done)), H', ⟨by have := HJ2.out; first | omega | exact Nat.le_refl _⟩, ⟨by repeat (first | (with_reducible first | exact HB.out | apply below_alloc | apply pw_below_drewN | apply below_drew1) | exact HB.out)⟩⟩
              · rw [if_neg c45] at H
                have c45b0 : (t113.toList == t114.toList) = false := beq_eq_false_iff_ne.mpr c45
                have c45b1 : (t113.toList != t114.toList) = true := bne_iff_ne.mpr c45
                have H' := Aside0.mk H
                clear H
                go_wp2_with (first | ((with_reducible refine gate_callee (f := 15) rfl ?_); refine goesL_ (some 44) rfl rfl Tryd.func15 (by kernel_rfl) rfl #[.int .i8 (IntKind.i8.wrap (a0))] rfl (by (try simp only [List.map_toArray, List.map_cons, List.map_nil]); first | done | rfl | (simp only [List.length_drop, List.length_take]; rfl)) ?_; (with_reducible refine (whole_Text_int8.calls (IntKind.i8.wrap (a0)) t109 _ A37.out).mono ?_); rintro e w56 ⟨rfl, hb⟩; refine ⟨_, rfl, ?_⟩; have n0_ := Aside0.mk (below_step (by repeat (first | (with_reducible first | exact HB.out | apply below_alloc | apply pw_below_drewN | apply below_drew1) | exact HB.out)) hb); clear HB; have HB := n0_; clear n0_; (try clear hb); (try clear hb2); (try clear hk); (try clear hi)) | ((with_reducible refine gate_callee (f := 10) rfl ?_); refine goesL_ (some 47) rfl rfl Tryd.func10 (by kernel_rfl) rfl #[.int .i64 (wrap64 (IntKind.i8.wrap (a0))), .int .i64 10] rfl (by (try simp only [List.map_toArray, List.map_cons, List.map_nil]); first | done | rfl | (simp only [List.length_drop, List.length_take]; rfl)) ?_; (with_reducible refine (strconv_FormatInt.calls (wrap64 (IntKind.i8.wrap (a0))) 10 t110 _ A38.out).mono ?_); rintro e w57 ⟨rfl, hb⟩; refine ⟨_, rfl, ?_⟩; have n0_ := Aside0.mk (below_step (by repeat (first | (with_reducible first | exact HB.out | apply below_alloc | apply pw_below_drewN | apply below_drew1) | exact HB.out)) hb); clear HB; have HB := n0_; clear n0_; (try clear hb); (try clear hb2); (try clear hk); (try clear hi)) | (go_at_call 16; (with_reducible refine (whole_Text_int16.calls (IntKind.i16.wrap (a0)) t111 _ A40.out).mono ?_); rintro e w58 ⟨rfl, hb⟩; have n0_ := Aside0.mk (below_step (by repeat (first | (with_reducible first | exact HB.out | apply below_alloc | apply pw_below_drewN | apply below_drew1) | exact HB.out)) hb); clear HB; have HB := n0_; clear n0_; (try clear hb); (try clear hb2); (try clear hk); (try clear hi)) | (go_at_call 10; (with_reducible refine (strconv_FormatInt.calls (wrap64 (IntKind.i16.wrap (a0))) 10 t112 _ A41.out).mono ?_); rintro e w59 ⟨rfl, hb⟩; have n0_ := Aside0.mk (below_step (by repeat (first | (with_reducible first | exact HB.out | apply below_alloc | apply pw_below_drewN | apply below_drew1) | exact HB.out)) hb); clear HB; have HB := n0_; clear n0_; (try clear hb); (try clear hb2); (try clear hk); (try clear hi)) | (go_at_call 17; (with_reducible refine (whole_Text_int32.calls (wrap32 (a0)) t113 _ A43.out).mono ?_); rintro e w60 ⟨rfl, hb⟩; have n0_ := Aside0.mk (below_step (by repeat (first | (with_reducible first | exact HB.out | apply below_alloc | apply pw_below_drewN | apply below_drew1) | exact HB.out)) hb); clear HB; have HB := n0_; clear n0_; (try clear hb); (try clear hb2); (try clear hk); (try clear hi)) | (go_at_call 10; (with_reducible refine (strconv_FormatInt.calls (wrap64 (wrap32 (a0))) 10 t114 _ A44.out).mono ?_); rintro e w61 ⟨rfl, hb⟩; have n0_ := Aside0.mk (below_step (by repeat (first | (with_reducible first | exact HB.out | apply below_alloc | apply pw_below_drewN | apply below_drew1) | exact HB.out)) hb); clear HB; have HB := n0_; clear n0_; (try clear hb); (try clear hb2); (try clear hk); (try clear hi)))
                go_meet
                case rel => exact ⟨_, (true), (by first | rfl | (simp; done) | (simp [*]; done)), H', ⟨by have := HJ2.out; first | omega | exact Nat.le_refl _⟩, ⟨by repeat (first | (with_reducible first | exact HB.out | apply below_alloc | apply pw_below_drewN | apply below_drew1) | exact HB.out)⟩⟩
            · rw [if_neg c42] at H
              have c42b0 : (t111.toList == t112.toList) = false := beq_eq_false_iff_ne.mpr c42
              have c42b1 : (t111.toList != t112.toList) = true := bne_iff_ne.mpr c42
              have H' := Aside0.mk H
              clear H
              go_wp2_with (first | ((with_reducible refine gate_callee (f := 15) rfl ?_); refine goesL_ (some 44) rfl rfl Tryd.func15 (by kernel_rfl) rfl #[.int .i8 (IntKind.i8.wrap (a0))] rfl (by (try simp only [List.map_toArray, List.map_cons, List.map_nil]); first | done | rfl | (simp only [List.length_drop, List.length_take]; rfl)) ?_; (with_reducible refine (whole_Text_int8.calls (IntKind.i8.wrap (a0)) t109 _ A37.out).mono ?_); rintro e w62 ⟨rfl, hb⟩; refine ⟨_, rfl, ?_⟩; have n0_ := Aside0.mk (below_step (by repeat (first | (with_reducible first | exact HB.out | apply below_alloc | apply pw_below_drewN | apply below_drew1) | exact HB.out)) hb); clear HB; have HB := n0_; clear n0_; (try clear hb); (try clear hb2); (try clear hk); (try clear hi)) | ((with_reducible refine gate_callee (f := 10) rfl ?_); refine goesL_ (some 47) rfl rfl Tryd.func10 (by kernel_rfl) rfl #[.int .i64 (wrap64 (IntKind.i8.wrap (a0))), .int .i64 10] rfl (by (try simp only [List.map_toArray, List.map_cons, List.map_nil]); first | done | rfl | (simp only [List.length_drop, List.length_take]; rfl)) ?_; (with_reducible refine (strconv_FormatInt.calls (wrap64 (IntKind.i8.wrap (a0))) 10 t110 _ A38.out).mono ?_); rintro e w63 ⟨rfl, hb⟩; refine ⟨_, rfl, ?_⟩; have n0_ := Aside0.mk (below_step (by repeat (first | (with_reducible first | exact HB.out | apply below_alloc | apply pw_below_drewN | apply below_drew1) | exact HB.out)) hb); clear HB; have HB := n0_; clear n0_; (try clear hb); (try clear hb2); (try clear hk); (try clear hi)) | (go_at_call 16; (with_reducible refine (whole_Text_int16.calls (IntKind.i16.wrap (a0)) t111 _ A40.out).mono ?_); rintro e w64 ⟨rfl, hb⟩; have n0_ := Aside0.mk (below_step (by repeat (first | (with_reducible first | exact HB.out | apply below_alloc | apply pw_below_drewN | apply below_drew1) | exact HB.out)) hb); clear HB; have HB := n0_; clear n0_; (try clear hb); (try clear hb2); (try clear hk); (try clear hi)) | (go_at_call 10; (with_reducible refine (strconv_FormatInt.calls (wrap64 (IntKind.i16.wrap (a0))) 10 t112 _ A41.out).mono ?_); rintro e w65 ⟨rfl, hb⟩; have n0_ := Aside0.mk (below_step (by repeat (first | (with_reducible first | exact HB.out | apply below_alloc | apply pw_below_drewN | apply below_drew1) | exact HB.out)) hb); clear HB; have HB := n0_; clear n0_; (try clear hb); (try clear hb2); (try clear hk); (try clear hi)))
              go_meet
              case rel => exact ⟨_, (true), (by first | rfl | (simp; done) | (simp [*]; done)), H', ⟨by have := HJ2.out; first | omega | exact Nat.le_refl _⟩, ⟨by repeat (first | (with_reducible first | exact HB.out | apply below_alloc | apply pw_below_drewN | apply below_drew1) | exact HB.out)⟩⟩
          · rw [if_neg c39] at H
            have c39b0 : (t109.toList == t110.toList) = false := beq_eq_false_iff_ne.mpr c39
            have c39b1 : (t109.toList != t110.toList) = true := bne_iff_ne.mpr c39
            (first | rw [c39b0] | (simp only [i64_w, i32_w]; rw [c39b0]) | skip)
            have H' := Aside0.mk H
            clear H
            go_wp2_with (first | ((with_reducible refine gate_callee (f := 15) rfl ?_); refine goesL_ (some 44) rfl rfl Tryd.func15 (by kernel_rfl) rfl #[.int .i8 (IntKind.i8.wrap (a0))] rfl (by (try simp only [List.map_toArray, List.map_cons, List.map_nil]); first | done | rfl | (simp only [List.length_drop, List.length_take]; rfl)) ?_; (with_reducible refine (whole_Text_int8.calls (IntKind.i8.wrap (a0)) t109 _ A37.out).mono ?_); rintro e w66 ⟨rfl, hb⟩; refine ⟨_, rfl, ?_⟩; have n0_ := Aside0.mk (below_step (by repeat (first | (with_reducible first | exact HB.out | apply below_alloc | apply pw_below_drewN | apply below_drew1) | exact HB.out)) hb); clear HB; have HB := n0_; clear n0_; (try clear hb); (try clear hb2); (try clear hk); (try clear hi)) | ((with_reducible refine gate_callee (f := 10) rfl ?_); refine goesL_ (some 47) rfl rfl Tryd.func10 (by kernel_rfl) rfl #[.int .i64 (wrap64 (IntKind.i8.wrap (a0))), .int .i64 10] rfl (by (try simp only [List.map_toArray, List.map_cons, List.map_nil]); first | done | rfl | (simp only [List.length_drop, List.length_take]; rfl)) ?_; (with_reducible refine (strconv_FormatInt.calls (wrap64 (IntKind.i8.wrap (a0))) 10 t110 _ A38.out).mono ?_); rintro e w67 ⟨rfl, hb⟩; refine ⟨_, rfl, ?_⟩; have n0_ := Aside0.mk (below_step (by repeat (first | (with_reducible first | exact HB.out | apply below_alloc | apply pw_below_drewN | apply below_drew1) | exact HB.out)) hb); clear HB; have HB := n0_; clear n0_; (try clear hb); (try clear hb2); (try clear hk); (try clear hi)))
            go_meet
            case rel => exact ⟨_, (true), (by first | rfl | (simp; done) | (simp [*]; done)), H', ⟨by have := HJ2.out; first | omega | exact Nat.le_refl _⟩, ⟨by repeat (first | (with_reducible first | exact HB.out | apply below_alloc | apply pw_below_drewN | apply below_drew1) | exact HB.out)⟩⟩
        case rest =>
          clear HC36
          try clear c1
          try clear p2
          try clear c3
          try clear p3
          try clear c4
          try clear c6
          try clear c6b0
          try clear c6b1
          try clear p6
          try clear c9
          try clear c9b0
          try clear c9b1
          try clear c10
          try clear c12
          try clear c12b0
          try clear c12b1
          try clear c15
          try clear p32
          try clear c35
          try clear c39
          try clear c39b0
          try clear c39b1
          try clear c42
          try clear c42b0
          try clear c42b1
          try clear c45
          try clear c45b0
          try clear c45b1
          try clear p64
          try clear p2
          obtain ⟨kq, x72_35, rfl, HA, HJ35, HB⟩ := hcut
          cases kq with
          | zero => exact absurd HA.out (by simp [quarrylaw12_WholeTexts.j1])
          | succ kj35 =>
            have H := HA.out
            clear HA
            simp only [quarrylaw12_WholeTexts.j1] at H
            by_cases c68 : x72_35 = true
            · subst c68
              have H1 : (none) = some r := by rw [if_pos rfl] at H; exact H
              clear H
              have H := H1
              clear H1
              exact absurd H (by simp)
            · replace c68 := Bool.eq_false_iff.mpr c68
              subst c68
              have H1 : ((whole_Text_uint8.f ((a1) % 256)).bind fun t117 => ((strconv_FormatUint.f ((a1) % 256) 10).bind fun t118 => (if t117.toList = t118.toList then ((whole_Text_uint16.f (IntKind.u16.wrap (a1))).bind fun t119 => ((strconv_FormatUint.f (IntKind.u64.wrap (IntKind.u16.wrap (a1))) 10).bind fun t120 => (if t119.toList = t120.toList then ((whole_Text_uint32.f ((a1) % 4294967296)).bind fun t121 => ((strconv_FormatUint.f ((a1) % 4294967296) 10).bind fun t122 => (if t121.toList = t122.toList then ((whole_Text_Long.f a1).bind fun t123 => ((strconv_FormatUint.f a1 10).bind fun t124 => (some (t123.toList == t124.toList)))) else (none)))) else (none)))) else (none)))) = some r := by rw [if_neg (show ¬ (false = true) by decide)] at H; exact H
              clear H
              have H := H1
              clear H1
              replace H := Option.bind_eq_some_iff.mp H
              obtain ⟨t117, A690, H⟩ := H
              replace H : ((strconv_FormatUint.f ((a1) % 256) 10).bind fun t118 => (if t117.toList = t118.toList then ((whole_Text_uint16.f (IntKind.u16.wrap (a1))).bind fun t119 => ((strconv_FormatUint.f (IntKind.u64.wrap (IntKind.u16.wrap (a1))) 10).bind fun t120 => (if t119.toList = t120.toList then ((whole_Text_uint32.f ((a1) % 4294967296)).bind fun t121 => ((strconv_FormatUint.f ((a1) % 4294967296) 10).bind fun t122 => (if t121.toList = t122.toList then ((whole_Text_Long.f a1).bind fun t123 => ((strconv_FormatUint.f a1 10).bind fun t124 => (some (t123.toList == t124.toList)))) else (none)))) else (none)))) else (none))) = some r := H
              have A69 := Aside0.mk A690
              clear A690
              replace H := Option.bind_eq_some_iff.mp H
              obtain ⟨t118, A700, H⟩ := H
              replace H : (if t117.toList = t118.toList then ((whole_Text_uint16.f (IntKind.u16.wrap (a1))).bind fun t119 => ((strconv_FormatUint.f (IntKind.u64.wrap (IntKind.u16.wrap (a1))) 10).bind fun t120 => (if t119.toList = t120.toList then ((whole_Text_uint32.f ((a1) % 4294967296)).bind fun t121 => ((strconv_FormatUint.f ((a1) % 4294967296) 10).bind fun t122 => (if t121.toList = t122.toList then ((whole_Text_Long.f a1).bind fun t123 => ((strconv_FormatUint.f a1 10).bind fun t124 => (some (t123.toList == t124.toList)))) else (none)))) else (none)))) else (none)) = some r := H
              have A70 := Aside0.mk A700
              clear A700
              by_cases c71 : t117.toList = t118.toList
              · rw [if_pos c71] at H
                have c71b0 : (t117.toList == t118.toList) = true := beq_iff_eq.mpr c71
                have c71b1 : (t117.toList != t118.toList) = false := bne_eq_false_iff_eq.mpr c71
                clear c71
                replace H := Option.bind_eq_some_iff.mp H
                obtain ⟨t119, A720, H⟩ := H
                replace H : ((strconv_FormatUint.f (IntKind.u64.wrap (IntKind.u16.wrap (a1))) 10).bind fun t120 => (if t119.toList = t120.toList then ((whole_Text_uint32.f ((a1) % 4294967296)).bind fun t121 => ((strconv_FormatUint.f ((a1) % 4294967296) 10).bind fun t122 => (if t121.toList = t122.toList then ((whole_Text_Long.f a1).bind fun t123 => ((strconv_FormatUint.f a1 10).bind fun t124 => (some (t123.toList == t124.toList)))) else (none)))) else (none))) = some r := H
                have A72 := Aside0.mk A720
                clear A720
                replace H := Option.bind_eq_some_iff.mp H
                obtain ⟨t120, A730, H⟩ := H
                replace H : (if t119.toList = t120.toList then ((whole_Text_uint32.f ((a1) % 4294967296)).bind fun t121 => ((strconv_FormatUint.f ((a1) % 4294967296) 10).bind fun t122 => (if t121.toList = t122.toList then ((whole_Text_Long.f a1).bind fun t123 => ((strconv_FormatUint.f a1 10).bind fun t124 => (some (t123.toList == t124.toList)))) else (none)))) else (none)) = some r := H
                have A73 := Aside0.mk A730
                clear A730
                by_cases c74 : t119.toList = t120.toList
                · rw [if_pos c74] at H
                  have c74b0 : (t119.toList == t120.toList) = true := beq_iff_eq.mpr c74
                  have c74b1 : (t119.toList != t120.toList) = false := bne_eq_false_iff_eq.mpr c74
                  clear c74
                  replace H := Option.bind_eq_some_iff.mp H
                  obtain ⟨t121, A750, H⟩ := H
                  replace H : ((strconv_FormatUint.f ((a1) % 4294967296) 10).bind fun t122 => (if t121.toList = t122.toList then ((whole_Text_Long.f a1).bind fun t123 => ((strconv_FormatUint.f a1 10).bind fun t124 => (some (t123.toList == t124.toList)))) else (none))) = some r := H
                  have A75 := Aside0.mk A750
                  clear A750
                  replace H := Option.bind_eq_some_iff.mp H
                  obtain ⟨t122, A760, H⟩ := H
                  replace H : (if t121.toList = t122.toList then ((whole_Text_Long.f a1).bind fun t123 => ((strconv_FormatUint.f a1 10).bind fun t124 => (some (t123.toList == t124.toList)))) else (none)) = some r := H
                  have A76 := Aside0.mk A760
                  clear A760
                  by_cases c77 : t121.toList = t122.toList
                  · rw [if_pos c77] at H
                    have c77b0 : (t121.toList == t122.toList) = true := beq_iff_eq.mpr c77
                    have c77b1 : (t121.toList != t122.toList) = false := bne_eq_false_iff_eq.mpr c77
                    clear c77
                    replace H := Option.bind_eq_some_iff.mp H
                    obtain ⟨t123, A780, H⟩ := H
                    replace H : ((strconv_FormatUint.f a1 10).bind fun t124 => (some (t123.toList == t124.toList))) = some r := H
                    have A78 := Aside0.mk A780
                    clear A780
                    replace H := Option.bind_eq_some_iff.mp H
                    obtain ⟨t124, A790, H⟩ := H
                    replace H : (some (t123.toList == t124.toList)) = some r := H
                    have A79 := Aside0.mk A790
                    clear A790
                    obtain rfl := Option.some.inj H
                    go_wp2_with (first | ((with_reducible refine gate_callee (f := 19) rfl ?_); refine goesL_ (some 80) rfl rfl Tryd.func19 (by kernel_rfl) rfl #[.int .u8 ((a1) % 256)] rfl (by (try simp only [List.map_toArray, List.map_cons, List.map_nil]); first | done | rfl | (simp only [List.length_drop, List.length_take]; rfl)) ?_; (with_reducible refine (whole_Text_uint8.calls ((a1) % 256) t117 _ A69.out).mono ?_); rintro e w80 ⟨rfl, hb⟩; refine ⟨_, rfl, ?_⟩; have n0_ := Aside0.mk (below_step (by repeat (first | (with_reducible first | exact HB.out | apply below_alloc | apply pw_below_drewN | apply below_drew1) | exact HB.out)) hb); clear HB; have HB := n0_; clear n0_; (try clear hb); (try clear hb2); (try clear hk); (try clear hi)) | ((with_reducible refine gate_callee (f := 13) rfl ?_); refine goesL_ (some 83) rfl rfl Tryd.func13 (by kernel_rfl) rfl #[.int .u64 ((a1) % 256), .int .i64 10] rfl (by (try simp only [List.map_toArray, List.map_cons, List.map_nil]); first | done | rfl | (simp only [List.length_drop, List.length_take]; rfl)) ?_; (with_reducible refine (strconv_FormatUint.calls ((a1) % 256) 10 t118 _ A70.out).mono ?_); rintro e w81 ⟨rfl, hb⟩; refine ⟨_, rfl, ?_⟩; have n0_ := Aside0.mk (below_step (by repeat (first | (with_reducible first | exact HB.out | apply below_alloc | apply pw_below_drewN | apply below_drew1) | exact HB.out)) hb); clear HB; have HB := n0_; clear n0_; (try clear hb); (try clear hb2); (try clear hk); (try clear hi)) | (go_at_call 20; (with_reducible refine (whole_Text_uint16.calls (IntKind.u16.wrap (a1)) t119 _ A72.out).mono ?_); rintro e w82 ⟨rfl, hb⟩; have n0_ := Aside0.mk (below_step (by repeat (first | (with_reducible first | exact HB.out | apply below_alloc | apply pw_below_drewN | apply below_drew1) | exact HB.out)) hb); clear HB; have HB := n0_; clear n0_; (try clear hb); (try clear hb2); (try clear hk); (try clear hi)) | (go_at_call 13; (with_reducible refine (strconv_FormatUint.calls (IntKind.u64.wrap (IntKind.u16.wrap (a1))) 10 t120 _ A73.out).mono ?_); rintro e w83 ⟨rfl, hb⟩; have n0_ := Aside0.mk (below_step (by repeat (first | (with_reducible first | exact HB.out | apply below_alloc | apply pw_below_drewN | apply below_drew1) | exact HB.out)) hb); clear HB; have HB := n0_; clear n0_; (try clear hb); (try clear hb2); (try clear hk); (try clear hi)) | (go_at_call 21; (with_reducible refine (whole_Text_uint32.calls ((a1) % 4294967296) t121 _ A75.out).mono ?_); rintro e w84 ⟨rfl, hb⟩; have n0_ := Aside0.mk (below_step (by repeat (first | (with_reducible first | exact HB.out | apply below_alloc | apply pw_below_drewN | apply below_drew1) | exact HB.out)) hb); clear HB; have HB := n0_; clear n0_; (try clear hb); (try clear hb2); (try clear hk); (try clear hi)) | (go_at_call 13; (with_reducible refine (strconv_FormatUint.calls ((a1) % 4294967296) 10 t122 _ A76.out).mono ?_); rintro e w85 ⟨rfl, hb⟩; have n0_ := Aside0.mk (below_step (by repeat (first | (with_reducible first | exact HB.out | apply below_alloc | apply pw_below_drewN | apply below_drew1) | exact HB.out)) hb); clear HB; have HB := n0_; clear n0_; (try clear hb); (try clear hb2); (try clear hk); (try clear hi)) | (go_at_call 22; (with_reducible refine (whole_Text_Long.calls a1 t123 _ A78.out).mono ?_); rintro e w86 ⟨rfl, hb⟩; have n0_ := Aside0.mk (below_step (by repeat (first | (with_reducible first | exact HB.out | apply below_alloc | apply pw_below_drewN | apply below_drew1) | exact HB.out)) hb); clear HB; have HB := n0_; clear n0_; (try clear hb); (try clear hb2); (try clear hk); (try clear hi)) | (go_at_call 13; (with_reducible refine (strconv_FormatUint.calls a1 10 t124 _ A79.out).mono ?_); rintro e w87 ⟨rfl, hb⟩; have n0_ := Aside0.mk (below_step (by repeat (first | (with_reducible first | exact HB.out | apply below_alloc | apply pw_below_drewN | apply below_drew1) | exact HB.out)) hb); clear HB; have HB := n0_; clear n0_; (try clear hb); (try clear hb2); (try clear hk); (try clear hi)))
                    go_ret
                    exact ⟨by first | rfl | (simp [errW_none, errW_some] <;> rfl) | (simp [*, errW_none, errW_some] <;> rfl), by repeat (first | (with_reducible first | exact HB.out | apply below_alloc | apply pw_below_drewN | apply below_drew1) | exact HB.out)⟩
                  · rw [if_neg c77] at H
                    exact absurd H (by simp)
                · rw [if_neg c74] at H
                  exact absurd H (by simp)
              · rw [if_neg c71] at H
                exact absurd H (by simp)

end Go.Proofs.YtkjmbibnfohkjaaDoor.PWholeTexts
