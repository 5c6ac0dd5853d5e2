/- The machine side of a statement, laid by the kit's print program, run by wip/tools/gprint.py: some functions' contracts are given, proved by hand. -/
import Derived.Test.YtkjmbibnfohkjaaDoorPWholeBackx0
namespace Go.Proofs.YtkjmbibnfohkjaaDoor.PWholeBack
open Go.RowKit Go.Proofs.YtkjmbibnfohkjaaDoorW.PrintWords Go.Proofs.YtkjmbibnfohkjaaDoorW.PrintLast Go.Proofs.YtkjmbibnfohkjaaDoorW.PrintMore
attribute [local go_sem] max2_int min2_int max_two min_two max_three min_three max_four min_four   -- for this text's walks alone
set_option linter.unusedVariables false
set_option linter.unusedSimpArgs false

/-! ### quarrylaw12_awake: function 31 -/
def quarrylaw12_awake.f  : Option (Bool) := (whole_Int_int8.f (⟨#[45, 49, 50, 56]⟩ : ByteArray)).bind fun bt101 => (if bt101.1 = (-128) then (some (bt101.2 == 0)) else (some false))
set_option maxHeartbeats 8000000 in
set_option maxRecDepth 100000 in
theorem quarrylaw12_awake.calls  (r : Bool) (w : World) (h : quarrylaw12_awake.f  = some r) (hT : TabW w := by first | exact hT | exact TabW.drewN hT _ | (refine TabW.below hT ?_; repeat (first | (with_reducible exact HB.out) | (with_reducible exact Below.refl _ _) | apply below_alloc | apply pw_below_drewN | apply below_drew1 | apply below_drew | assumption | refine below_set ?_ (Aside0.out (by assumption))))) :
    Calls Tryd.prog 31 #[] w fun e w' => e = .returned (.bool r) ∧ Below w.heap.size w w' := by
  have HB := Aside0.mk (Below.refl w.heap.size w)
  have H : ((whole_Int_int8.f (⟨#[45, 49, 50, 56]⟩ : ByteArray)).bind fun bt101 => (if bt101.1 = (-128) then (some (bt101.2 == 0)) else (some false))) = some r := h
  clear h
  replace H := Option.bind_eq_some_iff.mp H
  obtain ⟨⟨t101, t102⟩, A10, H⟩ := H
  replace H : (if t101 = (-128) then (some (t102 == 0)) else (some false)) = some r := H
  have A1 := Aside0.mk A10
  clear A10
  by_cases c2 : t101 = (-128)
  · rw [if_pos c2] at H
    have c2b0 : (t101 == (-128)) = true := beq_iff_eq.mpr c2
    have c2b1 : (t101 != (-128)) = false := bne_eq_false_iff_eq.mpr c2
    clear c2
    obtain rfl := Option.some.inj H
    go_enter Tryd.func31, Tryd.ntmps31
    go_wp2_with (first | ((with_reducible refine gate_callee (f := 23) rfl ?_); refine goesL_ (some 4) rfl rfl Tryd.func23 (by kernel_rfl) rfl #[.string (⟨#[45, 49, 50, 56]⟩ : ByteArray)] rfl (by (try simp only [List.map_toArray, List.map_cons, List.map_nil]); first | done | rfl | (simp only [List.length_drop, List.length_take]; rfl)) ?_; (with_reducible refine (whole_Int_int8.calls (⟨#[45, 49, 50, 56]⟩ : ByteArray) t101 t102 _ A1.out).mono ?_); rintro e w3 ⟨rfl, hb⟩; refine ⟨_, rfl, ?_⟩; have n0_ := Aside0.mk (below_step (by repeat (first | (with_reducible first | exact HB.out | apply below_alloc | apply pw_below_drewN | apply below_drew1) | exact HB.out)) hb); clear HB; have HB := n0_; clear n0_; (try clear hb); (try clear hb2); (try clear hk); (try clear hi)))
    go_ret
    exact ⟨by first | rfl | (simp [errW_none, errW_some] <;> rfl) | (simp [*, errW_none, errW_some] <;> rfl), by repeat (first | (with_reducible first | exact HB.out | apply below_alloc | apply pw_below_drewN | apply below_drew1) | exact HB.out)⟩
  · rw [if_neg c2] at H
    have c2b0 : (t101 == (-128)) = false := beq_eq_false_iff_ne.mpr c2
    have c2b1 : (t101 != (-128)) = true := bne_iff_ne.mpr c2
    obtain rfl := Option.some.inj H
    go_enter Tryd.func31, Tryd.ntmps31
    go_wp2_with (first | ((with_reducible refine gate_callee (f := 23) rfl ?_); refine goesL_ (some 4) rfl rfl Tryd.func23 (by kernel_rfl) rfl #[.string (⟨#[45, 49, 50, 56]⟩ : ByteArray)] rfl (by (try simp only [List.map_toArray, List.map_cons, List.map_nil]); first | done | rfl | (simp only [List.length_drop, List.length_take]; rfl)) ?_; (with_reducible refine (whole_Int_int8.calls (⟨#[45, 49, 50, 56]⟩ : ByteArray) t101 t102 _ A1.out).mono ?_); rintro e w4 ⟨rfl, hb⟩; refine ⟨_, rfl, ?_⟩; have n0_ := Aside0.mk (below_step (by repeat (first | (with_reducible first | exact HB.out | apply below_alloc | apply pw_below_drewN | apply below_drew1) | exact HB.out)) hb); clear HB; have HB := n0_; clear n0_; (try clear hb); (try clear hb2); (try clear hk); (try clear hi)))
    go_ret
    exact ⟨by first | rfl | (simp [errW_none, errW_some] <;> rfl) | (simp [*, errW_none, errW_some] <;> rfl), by repeat (first | (with_reducible first | exact HB.out | apply below_alloc | apply pw_below_drewN | apply below_drew1) | exact HB.out)⟩

/-! ### quarrylaw12_WholeBack: function 5 -/
def quarrylaw12_WholeBack.j0 : Nat → Int → Bool → Option (Bool)
  | 0, _, _ => none
  | k + 1, x1, x80 => if x80 = true then (none) else ((whole_Text_uint8.f ((x1) % 256)).bind fun t115 => ((whole_Uint_uint8.f t115).bind fun bt116 => ((whole_Text_uint16.f (IntKind.u16.wrap (x1))).bind fun t118 => ((whole_Uint_uint16.f t118).bind fun bt119 => ((whole_Text_uint32.f ((x1) % 4294967296)).bind fun t121 => ((whole_Uint_uint32.f t121).bind fun bt122 => ((whole_Text_uint64.f x1).bind fun t124 => ((whole_Uint_uint64.f t124).bind fun bt125 => (if bt116.1 = ((x1) % 256) then (if bt119.1 = (IntKind.u16.wrap (x1)) then (if bt122.1 = ((x1) % 4294967296) then (if bt125.1 = x1 then (if bt116.2 = 0 then (if bt119.2 = 0 then (if bt122.2 = 0 then (if bt125.2 = 0 then ((quarrylaw12_awake.f).bind fun t127 => (some t127)) else (none)) else (none)) else (none)) else (none)) else (none)) else (none)) else (none)) else (none))))))))))
def quarrylaw12_WholeBack.f (k : Nat) (a0 : Int) (a1 : Int) : Option (Bool) := (whole_Text_int8.f (IntKind.i8.wrap (a0))).bind fun t103 => ((whole_Int_int8.f t103).bind fun bt104 => ((whole_Text_int16.f (IntKind.i16.wrap (a0))).bind fun t106 => ((whole_Int_int16.f t106).bind fun bt107 => ((whole_Text_int32.f (wrap32 (a0))).bind fun t109 => ((whole_Int_int32.f t109).bind fun bt110 => ((whole_Text_int64.f a0).bind fun t112 => ((whole_Int_int64.f t112).bind fun bt113 => (if bt104.1 = (IntKind.i8.wrap (a0)) then (if bt107.1 = (IntKind.i16.wrap (a0)) then (if bt110.1 = (wrap32 (a0)) then (if bt113.1 = a0 then (if bt104.2 = 0 then (if bt107.2 = 0 then (if bt110.2 = 0 then (quarrylaw12_WholeBack.j0 k a1 (bt113.2 != 0)) else (quarrylaw12_WholeBack.j0 k a1 true)) else (quarrylaw12_WholeBack.j0 k a1 true)) else (quarrylaw12_WholeBack.j0 k a1 true)) else (quarrylaw12_WholeBack.j0 k a1 true)) else (quarrylaw12_WholeBack.j0 k a1 true)) else (quarrylaw12_WholeBack.j0 k a1 true)) else (quarrylaw12_WholeBack.j0 k a1 true)))))))))
theorem quarrylaw12_WholeBack.mono_l : ∀ k, (∀ y0 y1, LeO (quarrylaw12_WholeBack.j0 k y0 y1) (quarrylaw12_WholeBack.j0 (k + 1) y0 y1))
  | 0 => fun _ _ r h => by simp [quarrylaw12_WholeBack.j0] at h
  | k + 1 => by
    have ih0 := quarrylaw12_WholeBack.mono_l k
    · intro y0 y1
      unfold quarrylaw12_WholeBack.j0
      repeat' first
      | (with_reducible exact ih0 _ _)
      | (with_reducible exact LeO.refl _)
      | (with_reducible exact LeO.none _)
      | (with_reducible refine LeO.ite ?_ ?_)
      | (with_reducible refine LeO.bind ?_ (fun _ => ?_))
      | exact ih0 _ _
      | exact LeO.none _
      | refine LeO.ite ?_ ?_
      | refine LeO.bind ?_ (fun _ => ?_)
theorem quarrylaw12_WholeBack.mono : ∀ a0 a1 k, LeO (quarrylaw12_WholeBack.f k a0 a1) (quarrylaw12_WholeBack.f (k + 1) a0 a1) := by
  intro a0 a1 k
  have ih0 := quarrylaw12_WholeBack.mono_l k
  unfold quarrylaw12_WholeBack.f
  repeat' first
      | (with_reducible exact ih0 _ _)
      | (with_reducible exact LeO.refl _)
      | (with_reducible exact LeO.none _)
      | (with_reducible refine LeO.ite ?_ ?_)
      | (with_reducible refine LeO.bind ?_ (fun _ => ?_))
      | exact ih0 _ _
      | exact LeO.none _
      | refine LeO.ite ?_ ?_
      | refine LeO.bind ?_ (fun _ => ?_)
set_option maxHeartbeats 8000000 in
set_option maxRecDepth 100000 in
theorem quarrylaw12_WholeBack.calls (k : Nat) (a0 : Int) (a1 : Int) (r : Bool) (w : World) (h : quarrylaw12_WholeBack.f k a0 a1 = some r) (hT : TabW w := by first | exact hT | exact TabW.drewN hT _ | (refine TabW.below hT ?_; repeat (first | (with_reducible exact HB.out) | (with_reducible exact Below.refl _ _) | apply below_alloc | apply pw_below_drewN | apply below_drew1 | apply below_drew | assumption | refine below_set ?_ (Aside0.out (by assumption))))) :
    Calls Tryd.prog 5 #[.int .i64 a0, .int .u64 a1] w fun e w' => e = .returned (.bool r) ∧ Below w.heap.size w w' := by
  have HB := Aside0.mk (Below.refl w.heap.size w)
  have H : ((whole_Text_int8.f (IntKind.i8.wrap (a0))).bind fun t103 => ((whole_Int_int8.f t103).bind fun bt104 => ((whole_Text_int16.f (IntKind.i16.wrap (a0))).bind fun t106 => ((whole_Int_int16.f t106).bind fun bt107 => ((whole_Text_int32.f (wrap32 (a0))).bind fun t109 => ((whole_Int_int32.f t109).bind fun bt110 => ((whole_Text_int64.f a0).bind fun t112 => ((whole_Int_int64.f t112).bind fun bt113 => (if bt104.1 = (IntKind.i8.wrap (a0)) then (if bt107.1 = (IntKind.i16.wrap (a0)) then (if bt110.1 = (wrap32 (a0)) then (if bt113.1 = a0 then (if bt104.2 = 0 then (if bt107.2 = 0 then (if bt110.2 = 0 then (quarrylaw12_WholeBack.j0 k a1 (bt113.2 != 0)) else (quarrylaw12_WholeBack.j0 k a1 true)) else (quarrylaw12_WholeBack.j0 k a1 true)) else (quarrylaw12_WholeBack.j0 k a1 true)) else (quarrylaw12_WholeBack.j0 k a1 true)) else (quarrylaw12_WholeBack.j0 k a1 true)) else (quarrylaw12_WholeBack.j0 k a1 true)) else (quarrylaw12_WholeBack.j0 k a1 true)))))))))) = some r := h
  clear h
  replace H := Option.bind_eq_some_iff.mp H
  obtain ⟨t103, A30, H⟩ := H
  replace H : ((whole_Int_int8.f t103).bind fun bt104 => ((whole_Text_int16.f (IntKind.i16.wrap (a0))).bind fun t106 => ((whole_Int_int16.f t106).bind fun bt107 => ((whole_Text_int32.f (wrap32 (a0))).bind fun t109 => ((whole_Int_int32.f t109).bind fun bt110 => ((whole_Text_int64.f a0).bind fun t112 => ((whole_Int_int64.f t112).bind fun bt113 => (if bt104.1 = (IntKind.i8.wrap (a0)) then (if bt107.1 = (IntKind.i16.wrap (a0)) then (if bt110.1 = (wrap32 (a0)) then (if bt113.1 = a0 then (if bt104.2 = 0 then (if bt107.2 = 0 then (if bt110.2 = 0 then (quarrylaw12_WholeBack.j0 k a1 (bt113.2 != 0)) else (quarrylaw12_WholeBack.j0 k a1 true)) else (quarrylaw12_WholeBack.j0 k a1 true)) else (quarrylaw12_WholeBack.j0 k a1 true)) else (quarrylaw12_WholeBack.j0 k a1 true)) else (quarrylaw12_WholeBack.j0 k a1 true)) else (quarrylaw12_WholeBack.j0 k a1 true)) else (quarrylaw12_WholeBack.j0 k a1 true))))))))) = some r := H
  have A3 := Aside0.mk A30
  clear A30
  replace H := Option.bind_eq_some_iff.mp H
  obtain ⟨⟨t104, t105⟩, A40, H⟩ := H
  replace H : ((whole_Text_int16.f (IntKind.i16.wrap (a0))).bind fun t106 => ((whole_Int_int16.f t106).bind fun bt107 => ((whole_Text_int32.f (wrap32 (a0))).bind fun t109 => ((whole_Int_int32.f t109).bind fun bt110 => ((whole_Text_int64.f a0).bind fun t112 => ((whole_Int_int64.f t112).bind fun bt113 => (if t104 = (IntKind.i8.wrap (a0)) then (if bt107.1 = (IntKind.i16.wrap (a0)) then (if bt110.1 = (wrap32 (a0)) then (if bt113.1 = a0 then (if t105 = 0 then (if bt107.2 = 0 then (if bt110.2 = 0 then (quarrylaw12_WholeBack.j0 k a1 (bt113.2 != 0)) else (quarrylaw12_WholeBack.j0 k a1 true)) else (quarrylaw12_WholeBack.j0 k a1 true)) else (quarrylaw12_WholeBack.j0 k a1 true)) else (quarrylaw12_WholeBack.j0 k a1 true)) else (quarrylaw12_WholeBack.j0 k a1 true)) else (quarrylaw12_WholeBack.j0 k a1 true)) else (quarrylaw12_WholeBack.j0 k a1 true)))))))) = some r := H
  have A4 := Aside0.mk A40
  clear A40
  replace H := Option.bind_eq_some_iff.mp H
  obtain ⟨t106, A50, H⟩ := H
  replace H : ((whole_Int_int16.f t106).bind fun bt107 => ((whole_Text_int32.f (wrap32 (a0))).bind fun t109 => ((whole_Int_int32.f t109).bind fun bt110 => ((whole_Text_int64.f a0).bind fun t112 => ((whole_Int_int64.f t112).bind fun bt113 => (if t104 = (IntKind.i8.wrap (a0)) then (if bt107.1 = (IntKind.i16.wrap (a0)) then (if bt110.1 = (wrap32 (a0)) then (if bt113.1 = a0 then (if t105 = 0 then (if bt107.2 = 0 then (if bt110.2 = 0 then (quarrylaw12_WholeBack.j0 k a1 (bt113.2 != 0)) else (quarrylaw12_WholeBack.j0 k a1 true)) else (quarrylaw12_WholeBack.j0 k a1 true)) else (quarrylaw12_WholeBack.j0 k a1 true)) else (quarrylaw12_WholeBack.j0 k a1 true)) else (quarrylaw12_WholeBack.j0 k a1 true)) else (quarrylaw12_WholeBack.j0 k a1 true)) else (quarrylaw12_WholeBack.j0 k a1 true))))))) = some r := H
  have A5 := Aside0.mk A50
  clear A50
  replace H := Option.bind_eq_some_iff.mp H
  obtain ⟨⟨t107, t108⟩, A60, H⟩ := H
  replace H : ((whole_Text_int32.f (wrap32 (a0))).bind fun t109 => ((whole_Int_int32.f t109).bind fun bt110 => ((whole_Text_int64.f a0).bind fun t112 => ((whole_Int_int64.f t112).bind fun bt113 => (if t104 = (IntKind.i8.wrap (a0)) then (if t107 = (IntKind.i16.wrap (a0)) then (if bt110.1 = (wrap32 (a0)) then (if bt113.1 = a0 then (if t105 = 0 then (if t108 = 0 then (if bt110.2 = 0 then (quarrylaw12_WholeBack.j0 k a1 (bt113.2 != 0)) else (quarrylaw12_WholeBack.j0 k a1 true)) else (quarrylaw12_WholeBack.j0 k a1 true)) else (quarrylaw12_WholeBack.j0 k a1 true)) else (quarrylaw12_WholeBack.j0 k a1 true)) else (quarrylaw12_WholeBack.j0 k a1 true)) else (quarrylaw12_WholeBack.j0 k a1 true)) else (quarrylaw12_WholeBack.j0 k a1 true)))))) = some r := H
  have A6 := Aside0.mk A60
  clear A60
  replace H := Option.bind_eq_some_iff.mp H
  obtain ⟨t109, A70, H⟩ := H
  replace H : ((whole_Int_int32.f t109).bind fun bt110 => ((whole_Text_int64.f a0).bind fun t112 => ((whole_Int_int64.f t112).bind fun bt113 => (if t104 = (IntKind.i8.wrap (a0)) then (if t107 = (IntKind.i16.wrap (a0)) then (if bt110.1 = (wrap32 (a0)) then (if bt113.1 = a0 then (if t105 = 0 then (if t108 = 0 then (if bt110.2 = 0 then (quarrylaw12_WholeBack.j0 k a1 (bt113.2 != 0)) else (quarrylaw12_WholeBack.j0 k a1 true)) else (quarrylaw12_WholeBack.j0 k a1 true)) else (quarrylaw12_WholeBack.j0 k a1 true)) else (quarrylaw12_WholeBack.j0 k a1 true)) else (quarrylaw12_WholeBack.j0 k a1 true)) else (quarrylaw12_WholeBack.j0 k a1 true)) else (quarrylaw12_WholeBack.j0 k a1 true))))) = some r := H
  have A7 := Aside0.mk A70
  clear A70
  replace H := Option.bind_eq_some_iff.mp H
  obtain ⟨⟨t110, t111⟩, A80, H⟩ := H
  replace H : ((whole_Text_int64.f a0).bind fun t112 => ((whole_Int_int64.f t112).bind fun bt113 => (if t104 = (IntKind.i8.wrap (a0)) then (if t107 = (IntKind.i16.wrap (a0)) then (if t110 = (wrap32 (a0)) then (if bt113.1 = a0 then (if t105 = 0 then (if t108 = 0 then (if t111 = 0 then (quarrylaw12_WholeBack.j0 k a1 (bt113.2 != 0)) else (quarrylaw12_WholeBack.j0 k a1 true)) else (quarrylaw12_WholeBack.j0 k a1 true)) else (quarrylaw12_WholeBack.j0 k a1 true)) else (quarrylaw12_WholeBack.j0 k a1 true)) else (quarrylaw12_WholeBack.j0 k a1 true)) else (quarrylaw12_WholeBack.j0 k a1 true)) else (quarrylaw12_WholeBack.j0 k a1 true)))) = some r := H
  have A8 := Aside0.mk A80
  clear A80
  replace H := Option.bind_eq_some_iff.mp H
  obtain ⟨t112, A90, H⟩ := H
  replace H : ((whole_Int_int64.f t112).bind fun bt113 => (if t104 = (IntKind.i8.wrap (a0)) then (if t107 = (IntKind.i16.wrap (a0)) then (if t110 = (wrap32 (a0)) then (if bt113.1 = a0 then (if t105 = 0 then (if t108 = 0 then (if t111 = 0 then (quarrylaw12_WholeBack.j0 k a1 (bt113.2 != 0)) else (quarrylaw12_WholeBack.j0 k a1 true)) else (quarrylaw12_WholeBack.j0 k a1 true)) else (quarrylaw12_WholeBack.j0 k a1 true)) else (quarrylaw12_WholeBack.j0 k a1 true)) else (quarrylaw12_WholeBack.j0 k a1 true)) else (quarrylaw12_WholeBack.j0 k a1 true)) else (quarrylaw12_WholeBack.j0 k a1 true))) = some r := H
  have A9 := Aside0.mk A90
  clear A90
  replace H := Option.bind_eq_some_iff.mp H
  obtain ⟨⟨t113, t114⟩, A100, H⟩ := H
  replace H : (if t104 = (IntKind.i8.wrap (a0)) then (if t107 = (IntKind.i16.wrap (a0)) then (if t110 = (wrap32 (a0)) then (if t113 = a0 then (if t105 = 0 then (if t108 = 0 then (if t111 = 0 then (quarrylaw12_WholeBack.j0 k a1 (t114 != 0)) else (quarrylaw12_WholeBack.j0 k a1 true)) else (quarrylaw12_WholeBack.j0 k a1 true)) else (quarrylaw12_WholeBack.j0 k a1 true)) else (quarrylaw12_WholeBack.j0 k a1 true)) else (quarrylaw12_WholeBack.j0 k a1 true)) else (quarrylaw12_WholeBack.j0 k a1 true)) else (quarrylaw12_WholeBack.j0 k a1 true)) = some r := H
  have A10 := Aside0.mk A100
  clear A100
  have HC11 := Aside0.mk H
  clear H
  go_enter Tryd.func5, Tryd.ntmps5
  go_upto_region 5 with (first | ((with_reducible refine gate_callee (f := 15) rfl ?_); refine goesL_ (some 20) rfl rfl Tryd.func15 (by kernel_rfl) rfl #[.int .i8 (IntKind.i8.wrap (a0))] rfl (by (try simp only [List.map_toArray, List.map_cons, List.map_nil]); first | done | rfl | (simp only [List.length_drop, List.length_take]; rfl)) ?_; (with_reducible refine (whole_Text_int8.calls (IntKind.i8.wrap (a0)) t103 _ A3.out).mono ?_); rintro e w12 ⟨rfl, hb⟩; refine ⟨_, rfl, ?_⟩; have n0_ := Aside0.mk (below_step (by repeat (first | (with_reducible first | exact HB.out | apply below_alloc | apply pw_below_drewN | apply below_drew1) | exact HB.out)) hb); clear HB; have HB := n0_; clear n0_; (try clear hb); (try clear hb2); (try clear hk); (try clear hi)) | ((with_reducible refine gate_callee (f := 23) rfl ?_); refine goesL_ (some 21) rfl rfl Tryd.func23 (by kernel_rfl) rfl #[.string t103] rfl (by (try simp only [List.map_toArray, List.map_cons, List.map_nil]); first | done | rfl | (simp only [List.length_drop, List.length_take]; rfl)) ?_; (with_reducible refine (whole_Int_int8.calls t103 t104 t105 _ A4.out).mono ?_); rintro e w13 ⟨rfl, hb⟩; refine ⟨_, rfl, ?_⟩; have n0_ := Aside0.mk (below_step (by repeat (first | (with_reducible first | exact HB.out | apply below_alloc | apply pw_below_drewN | apply below_drew1) | exact HB.out)) hb); clear HB; have HB := n0_; clear n0_; (try clear hb); (try clear hb2); (try clear hk); (try clear hi)) | ((with_reducible refine gate_callee (f := 16) rfl ?_); refine goesL_ (some 27) rfl rfl Tryd.func16 (by kernel_rfl) rfl #[.int .i16 (IntKind.i16.wrap (a0))] rfl (by (try simp only [List.map_toArray, List.map_cons, List.map_nil]); first | done | rfl | (simp only [List.length_drop, List.length_take]; rfl)) ?_; (with_reducible refine (whole_Text_int16.calls (IntKind.i16.wrap (a0)) t106 _ A5.out).mono ?_); rintro e w14 ⟨rfl, hb⟩; refine ⟨_, rfl, ?_⟩; have n0_ := Aside0.mk (below_step (by repeat (first | (with_reducible first | exact HB.out | apply below_alloc | apply pw_below_drewN | apply below_drew1) | exact HB.out)) hb); clear HB; have HB := n0_; clear n0_; (try clear hb); (try clear hb2); (try clear hk); (try clear hi)) | ((with_reducible refine gate_callee (f := 24) rfl ?_); refine goesL_ (some 28) rfl rfl Tryd.func24 (by kernel_rfl) rfl #[.string t106] rfl (by (try simp only [List.map_toArray, List.map_cons, List.map_nil]); first | done | rfl | (simp only [List.length_drop, List.length_take]; rfl)) ?_; (with_reducible refine (whole_Int_int16.calls t106 t107 t108 _ A6.out).mono ?_); rintro e w15 ⟨rfl, hb⟩; refine ⟨_, rfl, ?_⟩; have n0_ := Aside0.mk (below_step (by repeat (first | (with_reducible first | exact HB.out | apply below_alloc | apply pw_below_drewN | apply below_drew1) | exact HB.out)) hb); clear HB; have HB := n0_; clear n0_; (try clear hb); (try clear hb2); (try clear hk); (try clear hi)) | ((with_reducible refine gate_callee (f := 17) rfl ?_); refine goesL_ (some 34) rfl rfl Tryd.func17 (by kernel_rfl) rfl #[.int .i32 (wrap32 (a0))] rfl (by (try simp only [List.map_toArray, List.map_cons, List.map_nil]); first | done | rfl | (simp only [List.length_drop, List.length_take]; rfl)) ?_; (with_reducible refine (whole_Text_int32.calls (wrap32 (a0)) t109 _ A7.out).mono ?_); rintro e w16 ⟨rfl, hb⟩; refine ⟨_, rfl, ?_⟩; have n0_ := Aside0.mk (below_step (by repeat (first | (with_reducible first | exact HB.out | apply below_alloc | apply pw_below_drewN | apply below_drew1) | exact HB.out)) hb); clear HB; have HB := n0_; clear n0_; (try clear hb); (try clear hb2); (try clear hk); (try clear hi)) | ((with_reducible refine gate_callee (f := 25) rfl ?_); refine goesL_ (some 35) rfl rfl Tryd.func25 (by kernel_rfl) rfl #[.string t109] rfl (by (try simp only [List.map_toArray, List.map_cons, List.map_nil]); first | done | rfl | (simp only [List.length_drop, List.length_take]; rfl)) ?_; (with_reducible refine (whole_Int_int32.calls t109 t110 t111 _ A8.out).mono ?_); rintro e w17 ⟨rfl, hb⟩; refine ⟨_, rfl, ?_⟩; have n0_ := Aside0.mk (below_step (by repeat (first | (with_reducible first | exact HB.out | apply below_alloc | apply pw_below_drewN | apply below_drew1) | exact HB.out)) hb); clear HB; have HB := n0_; clear n0_; (try clear hb); (try clear hb2); (try clear hk); (try clear hi)) | ((with_reducible refine gate_callee (f := 9) rfl ?_); refine goesL_ (some 40) rfl rfl Tryd.func9 (by kernel_rfl) rfl #[.int .i64 a0] rfl (by (try simp only [List.map_toArray, List.map_cons, List.map_nil]); first | done | rfl | (simp only [List.length_drop, List.length_take]; rfl)) ?_; (with_reducible refine (whole_Text_int64.calls a0 t112 _ A9.out).mono ?_); rintro e w18 ⟨rfl, hb⟩; refine ⟨_, rfl, ?_⟩; have n0_ := Aside0.mk (below_step (by repeat (first | (with_reducible first | exact HB.out | apply below_alloc | apply pw_below_drewN | apply below_drew1) | exact HB.out)) hb); clear HB; have HB := n0_; clear n0_; (try clear hb); (try clear hb2); (try clear hk); (try clear hi)) | ((with_reducible refine gate_callee (f := 26) rfl ?_); refine goesL_ (some 41) rfl rfl Tryd.func26 (by kernel_rfl) rfl #[.string t112] rfl (by (try simp only [List.map_toArray, List.map_cons, List.map_nil]); first | done | rfl | (simp only [List.length_drop, List.length_take]; rfl)) ?_; (with_reducible refine (whole_Int_int64.calls t112 t113 t114 _ A10.out).mono ?_); rintro e w19 ⟨rfl, hb⟩; refine ⟨_, rfl, ?_⟩; have n0_ := Aside0.mk (below_step (by repeat (first | (with_reducible first | exact HB.out | apply below_alloc | apply pw_below_drewN | apply below_drew1) | exact HB.out)) hb); clear HB; have HB := n0_; clear n0_; (try clear hb); (try clear hb2); (try clear hk); (try clear hi)))
  (try simp only [Act.put, List.setIfInBounds_toArray, List.set_cons_zero, List.set_cons_succ])
  go_cut [80] (fun v80 wc => ∃ (kq : Nat) (x80_10 : Bool), v80 = .bool x80_10 ∧ Aside0 (quarrylaw12_WholeBack.j0 kq a1 x80_10 = some r) ∧ Aside0 (kq ≤ k) ∧ Aside0 (Below w.heap.size w wc))
  case first => as_aux_lemma =>
    have H := HC11.out
    clear HC11
    by_cases c20 : t104 = (IntKind.i8.wrap (a0))
    · rw [if_pos c20] at H
      have c20b0 : (t104 == (IntKind.i8.wrap (a0))) = true := beq_iff_eq.mpr c20
      have c20b1 : (t104 != (IntKind.i8.wrap (a0))) = false := bne_eq_false_iff_eq.mpr c20
      clear c20
      (first | rw [c20b0] | (simp only [i64_w, i32_w]; rw [c20b0]) | skip)
      by_cases c21 : t107 = (IntKind.i16.wrap (a0))
      · rw [if_pos c21] at H
        have c21b0 : (t107 == (IntKind.i16.wrap (a0))) = true := beq_iff_eq.mpr c21
        have c21b1 : (t107 != (IntKind.i16.wrap (a0))) = false := bne_eq_false_iff_eq.mpr c21
        clear c21
        by_cases c22 : t110 = (wrap32 (a0))
        · rw [if_pos c22] at H
          have c22b0 : (t110 == (wrap32 (a0))) = true := beq_iff_eq.mpr c22
          have c22b1 : (t110 != (wrap32 (a0))) = false := bne_eq_false_iff_eq.mpr c22
          clear c22
          by_cases c23 : t113 = a0
          · rw [if_pos c23] at H
            have c23b0 : (t113 == a0) = true := beq_iff_eq.mpr c23
            have c23b1 : (t113 != a0) = false := bne_eq_false_iff_eq.mpr c23
            clear c23
            by_cases c24 : t105 = 0
            · rw [if_pos c24] at H
              have c24b0 : (t105 == 0) = true := beq_iff_eq.mpr c24
              have c24b1 : (t105 != 0) = false := bne_eq_false_iff_eq.mpr c24
              clear c24
              by_cases c25 : t108 = 0
              · rw [if_pos c25] at H
                have c25b0 : (t108 == 0) = true := beq_iff_eq.mpr c25
                have c25b1 : (t108 != 0) = false := bne_eq_false_iff_eq.mpr c25
                clear c25
                by_cases c26 : t111 = 0
                · rw [if_pos c26] at H
                  have c26b0 : (t111 == 0) = true := beq_iff_eq.mpr c26
                  have c26b1 : (t111 != 0) = false := bne_eq_false_iff_eq.mpr c26
                  clear c26
                  have H' := Aside0.mk H
                  clear H
                  go_wp2
                  go_meet
                  case rel => exact ⟨_, ((t114 != 0)), (by first | rfl | (simp; done) | (simp [*]; done)), H', ⟨by first | omega | exact Nat.le_refl _⟩, ⟨by repeat (first | (with_reducible first | exact HB.out | apply below_alloc | apply pw_below_drewN | apply below_drew1) | exact HB.out)⟩⟩
                · rw [if_neg c26] at H
                  have c26b0 : (t111 == 0) = false := beq_eq_false_iff_ne.mpr c26
                  have c26b1 : (t111 != 0) = true := bne_iff_ne.mpr c26
                  have H' := Aside0.mk H
                  clear H
                  go_wp2
                  go_meet
                  case rel => exact ⟨_, (true), (by first | rfl | (simp; done) | (simp [*]; done)), H', ⟨by first | omega | exact Nat.le_refl _⟩, ⟨by repeat (first | (with_reducible first | exact HB.out | apply below_alloc | apply pw_below_drewN | apply below_drew1) | exact HB.out)⟩⟩
              · rw [if_neg c25] at H
                have c25b0 : (t108 == 0) = false := beq_eq_false_iff_ne.mpr c25
                have c25b1 : (t108 != 0) = true := bne_iff_ne.mpr c25
                have H' := Aside0.mk H
                clear H
                go_wp2
                go_meet
                case rel => exact ⟨_, (true), (by first | rfl | (simp; done) | (simp [*]; done)), H', ⟨by first | omega | exact Nat.le_refl _⟩, ⟨by repeat (first | (with_reducible first | exact HB.out | apply below_alloc | apply pw_below_drewN | apply below_drew1) | exact HB.out)⟩⟩
            · rw [if_neg c24] at H
              have c24b0 : (t105 == 0) = false := beq_eq_false_iff_ne.mpr c24
              have c24b1 : (t105 != 0) = true := bne_iff_ne.mpr c24
              have H' := Aside0.mk H
              clear H
              go_wp2
              go_meet
              case rel => exact ⟨_, (true), (by first | rfl | (simp; done) | (simp [*]; done)), H', ⟨by first | omega | exact Nat.le_refl _⟩, ⟨by repeat (first | (with_reducible first | exact HB.out | apply below_alloc | apply pw_below_drewN | apply below_drew1) | exact HB.out)⟩⟩
          · rw [if_neg c23] at H
            have c23b0 : (t113 == a0) = false := beq_eq_false_iff_ne.mpr c23
            have c23b1 : (t113 != a0) = true := bne_iff_ne.mpr c23
            have H' := Aside0.mk H
            clear H
            go_wp2
            go_meet
            case rel => exact ⟨_, (true), (by first | rfl | (simp; done) | (simp [*]; done)), H', ⟨by first | omega | exact Nat.le_refl _⟩, ⟨by repeat (first | (with_reducible first | exact HB.out | apply below_alloc | apply pw_below_drewN | apply below_drew1) | exact HB.out)⟩⟩
        · rw [if_neg c22] at H
          have c22b0 : (t110 == (wrap32 (a0))) = false := beq_eq_false_iff_ne.mpr c22
          have c22b1 : (t110 != (wrap32 (a0))) = true := bne_iff_ne.mpr c22
          have H' := Aside0.mk H
          clear H
          go_wp2
          go_meet
          case rel => exact ⟨_, (true), (by first | rfl | (simp; done) | (simp [*]; done)), H', ⟨by first | omega | exact Nat.le_refl _⟩, ⟨by repeat (first | (with_reducible first | exact HB.out | apply below_alloc | apply pw_below_drewN | apply below_drew1) | exact HB.out)⟩⟩
      · rw [if_neg c21] at H
        have c21b0 : (t107 == (IntKind.i16.wrap (a0))) = false := beq_eq_false_iff_ne.mpr c21
        have c21b1 : (t107 != (IntKind.i16.wrap (a0))) = true := bne_iff_ne.mpr c21
        have H' := Aside0.mk H
        clear H
        go_wp2
        go_meet
        case rel => exact ⟨_, (true), (by first | rfl | (simp; done) | (simp [*]; done)), H', ⟨by first | omega | exact Nat.le_refl _⟩, ⟨by repeat (first | (with_reducible first | exact HB.out | apply below_alloc | apply pw_below_drewN | apply below_drew1) | exact HB.out)⟩⟩
    · rw [if_neg c20] at H
      have c20b0 : (t104 == (IntKind.i8.wrap (a0))) = false := beq_eq_false_iff_ne.mpr c20
      have c20b1 : (t104 != (IntKind.i8.wrap (a0))) = true := bne_iff_ne.mpr c20
      (first | rw [c20b0] | (simp only [i64_w, i32_w]; rw [c20b0]) | skip)
      have H' := Aside0.mk H
      clear H
      go_wp2
      go_meet
      case rel => exact ⟨_, (true), (by first | rfl | (simp; done) | (simp [*]; done)), H', ⟨by first | omega | exact Nat.le_refl _⟩, ⟨by repeat (first | (with_reducible first | exact HB.out | apply below_alloc | apply pw_below_drewN | apply below_drew1) | exact HB.out)⟩⟩
  case rest => as_aux_lemma =>
    clear HC11
    try clear c1
    try clear c2
    try clear p2
    try clear p3
    try clear c5
    try clear c9
    try clear c15
    try clear c16
    try clear c17
    try clear c20
    try clear c20b0
    try clear c20b1
    try clear c21
    try clear c21b0
    try clear c21b1
    try clear c22
    try clear c22b0
    try clear c22b1
    try clear c23
    try clear c23b0
    try clear c23b1
    try clear c24
    try clear c24b0
    try clear c24b1
    try clear c25
    try clear c25b0
    try clear c25b1
    try clear c26
    try clear c26b0
    try clear c26b1
    obtain ⟨kq, x80_10, rfl, HA, HJ10, HB⟩ := hcut
    cases kq with
    | zero => exact absurd HA.out (by simp [quarrylaw12_WholeBack.j0])
    | succ kj10 =>
      have H := HA.out
      clear HA
      simp only [quarrylaw12_WholeBack.j0] at H
      by_cases c27 : x80_10 = true
      · subst c27
        have H1 : (none) = some r := by rw [if_pos rfl] at H; exact H
        clear H
        have H := H1
        clear H1
        exact absurd H (by simp)
      · replace c27 := Bool.eq_false_iff.mpr c27
        subst c27
        have H1 : ((whole_Text_uint8.f ((a1) % 256)).bind fun t115 => ((whole_Uint_uint8.f t115).bind fun bt116 => ((whole_Text_uint16.f (IntKind.u16.wrap (a1))).bind fun t118 => ((whole_Uint_uint16.f t118).bind fun bt119 => ((whole_Text_uint32.f ((a1) % 4294967296)).bind fun t121 => ((whole_Uint_uint32.f t121).bind fun bt122 => ((whole_Text_uint64.f a1).bind fun t124 => ((whole_Uint_uint64.f t124).bind fun bt125 => (if bt116.1 = ((a1) % 256) then (if bt119.1 = (IntKind.u16.wrap (a1)) then (if bt122.1 = ((a1) % 4294967296) then (if bt125.1 = a1 then (if bt116.2 = 0 then (if bt119.2 = 0 then (if bt122.2 = 0 then (if bt125.2 = 0 then ((quarrylaw12_awake.f).bind fun t127 => (some t127)) else (none)) else (none)) else (none)) else (none)) else (none)) else (none)) else (none)) else (none)))))))))) = some r := by rw [if_neg (show ¬ (false = true) by decide)] at H; exact H
        clear H
        have H := H1
        clear H1
        replace H := Option.bind_eq_some_iff.mp H
        obtain ⟨t115, A280, H⟩ := H
        replace H : ((whole_Uint_uint8.f t115).bind fun bt116 => ((whole_Text_uint16.f (IntKind.u16.wrap (a1))).bind fun t118 => ((whole_Uint_uint16.f t118).bind fun bt119 => ((whole_Text_uint32.f ((a1) % 4294967296)).bind fun t121 => ((whole_Uint_uint32.f t121).bind fun bt122 => ((whole_Text_uint64.f a1).bind fun t124 => ((whole_Uint_uint64.f t124).bind fun bt125 => (if bt116.1 = ((a1) % 256) then (if bt119.1 = (IntKind.u16.wrap (a1)) then (if bt122.1 = ((a1) % 4294967296) then (if bt125.1 = a1 then (if bt116.2 = 0 then (if bt119.2 = 0 then (if bt122.2 = 0 then (if bt125.2 = 0 then ((quarrylaw12_awake.f).bind fun t127 => (some t127)) else (none)) else (none)) else (none)) else (none)) else (none)) else (none)) else (none)) else (none))))))))) = some r := H
        have A28 := Aside0.mk A280
        clear A280
        replace H := Option.bind_eq_some_iff.mp H
        obtain ⟨⟨t116, t117⟩, A290, H⟩ := H
        replace H : ((whole_Text_uint16.f (IntKind.u16.wrap (a1))).bind fun t118 => ((whole_Uint_uint16.f t118).bind fun bt119 => ((whole_Text_uint32.f ((a1) % 4294967296)).bind fun t121 => ((whole_Uint_uint32.f t121).bind fun bt122 => ((whole_Text_uint64.f a1).bind fun t124 => ((whole_Uint_uint64.f t124).bind fun bt125 => (if t116 = ((a1) % 256) then (if bt119.1 = (IntKind.u16.wrap (a1)) then (if bt122.1 = ((a1) % 4294967296) then (if bt125.1 = a1 then (if t117 = 0 then (if bt119.2 = 0 then (if bt122.2 = 0 then (if bt125.2 = 0 then ((quarrylaw12_awake.f).bind fun t127 => (some t127)) else (none)) else (none)) else (none)) else (none)) else (none)) else (none)) else (none)) else (none)))))))) = some r := H
        have A29 := Aside0.mk A290
        clear A290
        replace H := Option.bind_eq_some_iff.mp H
        obtain ⟨t118, A300, H⟩ := H
        replace H : ((whole_Uint_uint16.f t118).bind fun bt119 => ((whole_Text_uint32.f ((a1) % 4294967296)).bind fun t121 => ((whole_Uint_uint32.f t121).bind fun bt122 => ((whole_Text_uint64.f a1).bind fun t124 => ((whole_Uint_uint64.f t124).bind fun bt125 => (if t116 = ((a1) % 256) then (if bt119.1 = (IntKind.u16.wrap (a1)) then (if bt122.1 = ((a1) % 4294967296) then (if bt125.1 = a1 then (if t117 = 0 then (if bt119.2 = 0 then (if bt122.2 = 0 then (if bt125.2 = 0 then ((quarrylaw12_awake.f).bind fun t127 => (some t127)) else (none)) else (none)) else (none)) else (none)) else (none)) else (none)) else (none)) else (none))))))) = some r := H
        have A30 := Aside0.mk A300
        clear A300
        replace H := Option.bind_eq_some_iff.mp H
        obtain ⟨⟨t119, t120⟩, A310, H⟩ := H
        replace H : ((whole_Text_uint32.f ((a1) % 4294967296)).bind fun t121 => ((whole_Uint_uint32.f t121).bind fun bt122 => ((whole_Text_uint64.f a1).bind fun t124 => ((whole_Uint_uint64.f t124).bind fun bt125 => (if t116 = ((a1) % 256) then (if t119 = (IntKind.u16.wrap (a1)) then (if bt122.1 = ((a1) % 4294967296) then (if bt125.1 = a1 then (if t117 = 0 then (if t120 = 0 then (if bt122.2 = 0 then (if bt125.2 = 0 then ((quarrylaw12_awake.f).bind fun t127 => (some t127)) else (none)) else (none)) else (none)) else (none)) else (none)) else (none)) else (none)) else (none)))))) = some r := H
        have A31 := Aside0.mk A310
        clear A310
        replace H := Option.bind_eq_some_iff.mp H
        obtain ⟨t121, A320, H⟩ := H
        replace H : ((whole_Uint_uint32.f t121).bind fun bt122 => ((whole_Text_uint64.f a1).bind fun t124 => ((whole_Uint_uint64.f t124).bind fun bt125 => (if t116 = ((a1) % 256) then (if t119 = (IntKind.u16.wrap (a1)) then (if bt122.1 = ((a1) % 4294967296) then (if bt125.1 = a1 then (if t117 = 0 then (if t120 = 0 then (if bt122.2 = 0 then (if bt125.2 = 0 then ((quarrylaw12_awake.f).bind fun t127 => (some t127)) else (none)) else (none)) else (none)) else (none)) else (none)) else (none)) else (none)) else (none))))) = some r := H
        have A32 := Aside0.mk A320
        clear A320
        replace H := Option.bind_eq_some_iff.mp H
        obtain ⟨⟨t122, t123⟩, A330, H⟩ := H
        replace H : ((whole_Text_uint64.f a1).bind fun t124 => ((whole_Uint_uint64.f t124).bind fun bt125 => (if t116 = ((a1) % 256) then (if t119 = (IntKind.u16.wrap (a1)) then (if t122 = ((a1) % 4294967296) then (if bt125.1 = a1 then (if t117 = 0 then (if t120 = 0 then (if t123 = 0 then (if bt125.2 = 0 then ((quarrylaw12_awake.f).bind fun t127 => (some t127)) else (none)) else (none)) else (none)) else (none)) else (none)) else (none)) else (none)) else (none)))) = some r := H
        have A33 := Aside0.mk A330
        clear A330
        replace H := Option.bind_eq_some_iff.mp H
        obtain ⟨t124, A340, H⟩ := H
        replace H : ((whole_Uint_uint64.f t124).bind fun bt125 => (if t116 = ((a1) % 256) then (if t119 = (IntKind.u16.wrap (a1)) then (if t122 = ((a1) % 4294967296) then (if bt125.1 = a1 then (if t117 = 0 then (if t120 = 0 then (if t123 = 0 then (if bt125.2 = 0 then ((quarrylaw12_awake.f).bind fun t127 => (some t127)) else (none)) else (none)) else (none)) else (none)) else (none)) else (none)) else (none)) else (none))) = some r := H
        have A34 := Aside0.mk A340
        clear A340
        replace H := Option.bind_eq_some_iff.mp H
        obtain ⟨⟨t125, t126⟩, A350, H⟩ := H
        replace H : (if t116 = ((a1) % 256) then (if t119 = (IntKind.u16.wrap (a1)) then (if t122 = ((a1) % 4294967296) then (if t125 = a1 then (if t117 = 0 then (if t120 = 0 then (if t123 = 0 then (if t126 = 0 then ((quarrylaw12_awake.f).bind fun t127 => (some t127)) else (none)) else (none)) else (none)) else (none)) else (none)) else (none)) else (none)) else (none)) = some r := H
        have A35 := Aside0.mk A350
        clear A350
        by_cases c36 : t116 = ((a1) % 256)
        · rw [if_pos c36] at H
          have c36b0 : (t116 == ((a1) % 256)) = true := beq_iff_eq.mpr c36
          have c36b1 : (t116 != ((a1) % 256)) = false := bne_eq_false_iff_eq.mpr c36
          clear c36
          by_cases c37 : t119 = (IntKind.u16.wrap (a1))
          · rw [if_pos c37] at H
            have c37b0 : (t119 == (IntKind.u16.wrap (a1))) = true := beq_iff_eq.mpr c37
            have c37b1 : (t119 != (IntKind.u16.wrap (a1))) = false := bne_eq_false_iff_eq.mpr c37
            clear c37
            by_cases c38 : t122 = ((a1) % 4294967296)
            · rw [if_pos c38] at H
              have c38b0 : (t122 == ((a1) % 4294967296)) = true := beq_iff_eq.mpr c38
              have c38b1 : (t122 != ((a1) % 4294967296)) = false := bne_eq_false_iff_eq.mpr c38
              clear c38
              by_cases c39 : t125 = a1
              · rw [if_pos c39] at H
                have c39b0 : (t125 == a1) = true := beq_iff_eq.mpr c39
                have c39b1 : (t125 != a1) = false := bne_eq_false_iff_eq.mpr c39
                clear c39
                by_cases c40 : t117 = 0
                · rw [if_pos c40] at H
                  have c40b0 : (t117 == 0) = true := beq_iff_eq.mpr c40
                  have c40b1 : (t117 != 0) = false := bne_eq_false_iff_eq.mpr c40
                  clear c40
                  by_cases c41 : t120 = 0
                  · rw [if_pos c41] at H
                    have c41b0 : (t120 == 0) = true := beq_iff_eq.mpr c41
                    have c41b1 : (t120 != 0) = false := bne_eq_false_iff_eq.mpr c41
                    clear c41
                    by_cases c42 : t123 = 0
                    · rw [if_pos c42] at H
                      have c42b0 : (t123 == 0) = true := beq_iff_eq.mpr c42
                      have c42b1 : (t123 != 0) = false := bne_eq_false_iff_eq.mpr c42
                      clear c42
                      by_cases c43 : t126 = 0
                      · rw [if_pos c43] at H
                        have c43b0 : (t126 == 0) = true := beq_iff_eq.mpr c43
                        have c43b1 : (t126 != 0) = false := bne_eq_false_iff_eq.mpr c43
                        clear c43
                        replace H := Option.bind_eq_some_iff.mp H
                        obtain ⟨t127, A440, H⟩ := H
                        replace H : (some t127) = some r := H
                        have A44 := Aside0.mk A440
                        clear A440
                        obtain rfl := Option.some.inj H
                        go_wp2_with (first | ((with_reducible refine gate_callee (f := 19) rfl ?_); refine goesL_ (some 84) rfl rfl Tryd.func19 (by kernel_rfl) rfl #[.int .u8 ((a1) % 256)] rfl (by (try simp only [List.map_toArray, List.map_cons, List.map_nil]); first | done | rfl | (simp only [List.length_drop, List.length_take]; rfl)) ?_; (with_reducible refine (whole_Text_uint8.calls ((a1) % 256) t115 _ A28.out).mono ?_); rintro e w45 ⟨rfl, hb⟩; refine ⟨_, rfl, ?_⟩; have n0_ := Aside0.mk (below_step (by repeat (first | (with_reducible first | exact HB.out | apply below_alloc | apply pw_below_drewN | apply below_drew1) | exact HB.out)) hb); clear HB; have HB := n0_; clear n0_; (try clear hb); (try clear hb2); (try clear hk); (try clear hi)) | ((with_reducible refine gate_callee (f := 27) rfl ?_); refine goesL_ (some 85) rfl rfl Tryd.func27 (by kernel_rfl) rfl #[.string t115] rfl (by (try simp only [List.map_toArray, List.map_cons, List.map_nil]); first | done | rfl | (simp only [List.length_drop, List.length_take]; rfl)) ?_; (with_reducible refine (whole_Uint_uint8.calls t115 t116 t117 _ A29.out).mono ?_); rintro e w46 ⟨rfl, hb⟩; refine ⟨_, rfl, ?_⟩; have n0_ := Aside0.mk (below_step (by repeat (first | (with_reducible first | exact HB.out | apply below_alloc | apply pw_below_drewN | apply below_drew1) | exact HB.out)) hb); clear HB; have HB := n0_; clear n0_; (try clear hb); (try clear hb2); (try clear hk); (try clear hi)) | ((with_reducible refine gate_callee (f := 20) rfl ?_); refine goesL_ (some 91) rfl rfl Tryd.func20 (by kernel_rfl) rfl #[.int .u16 (IntKind.u16.wrap (a1))] rfl (by (try simp only [List.map_toArray, List.map_cons, List.map_nil]); first | done | rfl | (simp only [List.length_drop, List.length_take]; rfl)) ?_; (with_reducible refine (whole_Text_uint16.calls (IntKind.u16.wrap (a1)) t118 _ A30.out).mono ?_); rintro e w47 ⟨rfl, hb⟩; refine ⟨_, rfl, ?_⟩; have n0_ := Aside0.mk (below_step (by repeat (first | (with_reducible first | exact HB.out | apply below_alloc | apply pw_below_drewN | apply below_drew1) | exact HB.out)) hb); clear HB; have HB := n0_; clear n0_; (try clear hb); (try clear hb2); (try clear hk); (try clear hi)) | ((with_reducible refine gate_callee (f := 28) rfl ?_); refine goesL_ (some 92) rfl rfl Tryd.func28 (by kernel_rfl) rfl #[.string t118] rfl (by (try simp only [List.map_toArray, List.map_cons, List.map_nil]); first | done | rfl | (simp only [List.length_drop, List.length_take]; rfl)) ?_; (with_reducible refine (whole_Uint_uint16.calls t118 t119 t120 _ A31.out).mono ?_); rintro e w48 ⟨rfl, hb⟩; refine ⟨_, rfl, ?_⟩; have n0_ := Aside0.mk (below_step (by repeat (first | (with_reducible first | exact HB.out | apply below_alloc | apply pw_below_drewN | apply below_drew1) | exact HB.out)) hb); clear HB; have HB := n0_; clear n0_; (try clear hb); (try clear hb2); (try clear hk); (try clear hi)) | ((with_reducible refine gate_callee (f := 21) rfl ?_); refine goesL_ (some 98) rfl rfl Tryd.func21 (by kernel_rfl) rfl #[.int .u32 ((a1) % 4294967296)] rfl (by (try simp only [List.map_toArray, List.map_cons, List.map_nil]); first | done | rfl | (simp only [List.length_drop, List.length_take]; rfl)) ?_; (with_reducible refine (whole_Text_uint32.calls ((a1) % 4294967296) t121 _ A32.out).mono ?_); rintro e w49 ⟨rfl, hb⟩; refine ⟨_, rfl, ?_⟩; have n0_ := Aside0.mk (below_step (by repeat (first | (with_reducible first | exact HB.out | apply below_alloc | apply pw_below_drewN | apply below_drew1) | exact HB.out)) hb); clear HB; have HB := n0_; clear n0_; (try clear hb); (try clear hb2); (try clear hk); (try clear hi)) | ((with_reducible refine gate_callee (f := 29) rfl ?_); refine goesL_ (some 99) rfl rfl Tryd.func29 (by kernel_rfl) rfl #[.string t121] rfl (by (try simp only [List.map_toArray, List.map_cons, List.map_nil]); first | done | rfl | (simp only [List.length_drop, List.length_take]; rfl)) ?_; (with_reducible refine (whole_Uint_uint32.calls t121 t122 t123 _ A33.out).mono ?_); rintro e w50 ⟨rfl, hb⟩; refine ⟨_, rfl, ?_⟩; have n0_ := Aside0.mk (below_step (by repeat (first | (with_reducible first | exact HB.out | apply below_alloc | apply pw_below_drewN | apply below_drew1) | exact HB.out)) hb); clear HB; have HB := n0_; clear n0_; (try clear hb); (try clear hb2); (try clear hk); (try clear hi)) | ((with_reducible refine gate_callee (f := 12) rfl ?_); refine goesL_ (some 104) rfl rfl Tryd.func12 (by kernel_rfl) rfl #[.int .u64 a1] rfl (by (try simp only [List.map_toArray, List.map_cons, List.map_nil]); first | done | rfl | (simp only [List.length_drop, List.length_take]; rfl)) ?_; (with_reducible refine (whole_Text_uint64.calls a1 t124 _ A34.out).mono ?_); rintro e w51 ⟨rfl, hb⟩; refine ⟨_, rfl, ?_⟩; have n0_ := Aside0.mk (below_step (by repeat (first | (with_reducible first | exact HB.out | apply below_alloc | apply pw_below_drewN | apply below_drew1) | exact HB.out)) hb); clear HB; have HB := n0_; clear n0_; (try clear hb); (try clear hb2); (try clear hk); (try clear hi)) | ((with_reducible refine gate_callee (f := 30) rfl ?_); refine goesL_ (some 105) rfl rfl Tryd.func30 (by kernel_rfl) rfl #[.string t124] rfl (by (try simp only [List.map_toArray, List.map_cons, List.map_nil]); first | done | rfl | (simp only [List.length_drop, List.length_take]; rfl)) ?_; (with_reducible refine (whole_Uint_uint64.calls t124 t125 t126 _ A35.out).mono ?_); rintro e w52 ⟨rfl, hb⟩; refine ⟨_, rfl, ?_⟩; have n0_ := Aside0.mk (below_step (by repeat (first | (with_reducible first | exact HB.out | apply below_alloc | apply pw_below_drewN | apply below_drew1) | exact HB.out)) hb); clear HB; have HB := n0_; clear n0_; (try clear hb); (try clear hb2); (try clear hk); (try clear hi)) | (go_at_call 31; (with_reducible refine (quarrylaw12_awake.calls  t127 _ A44.out).mono ?_); rintro e w53 ⟨rfl, hb⟩; have n0_ := Aside0.mk (below_step (by repeat (first | (with_reducible first | exact HB.out | apply below_alloc | apply pw_below_drewN | apply below_drew1) | exact HB.out)) hb); clear HB; have HB := n0_; clear n0_; (try clear hb); (try clear hb2); (try clear hk); (try clear hi)))
                        go_ret
                        exact ⟨by first | rfl | (simp [errW_none, errW_some] <;> rfl) | (simp [*, errW_none, errW_some] <;> rfl), by repeat (first | (with_reducible first | exact HB.out | apply below_alloc | apply pw_below_drewN | apply below_drew1) | exact HB.out)⟩
                      · rw [if_neg c43] at H
                        exact absurd H (by simp)
                    · rw [if_neg c42] at H
                      exact absurd H (by simp)
                  · rw [if_neg c41] at H
                    exact absurd H (by simp)
                · rw [if_neg c40] at H
                  exact absurd H (by simp)
              · rw [if_neg c39] at H
                exact absurd H (by simp)
            · rw [if_neg c38] at H
              exact absurd H (by simp)
          · rw [if_neg c37] at H
            exact absurd H (by simp)
        · rw [if_neg c36] at H
          exact absurd H (by simp)

end Go.Proofs.YtkjmbibnfohkjaaDoor.PWholeBack
