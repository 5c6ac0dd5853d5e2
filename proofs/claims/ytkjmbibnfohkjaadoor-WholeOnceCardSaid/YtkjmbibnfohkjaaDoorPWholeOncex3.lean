/- The machine side of a statement, laid by the kit's print program, run by wip/tools/gprint.py: some functions' contracts are given, proved by hand. -/
import Derived.Test.YtkjmbibnfohkjaaDoorPWholeOncex0
import Derived.Test.YtkjmbibnfohkjaaDoorPWholeOncex1
import Derived.Test.YtkjmbibnfohkjaaDoorPWholeOncex2
namespace Go.Proofs.YtkjmbibnfohkjaaDoor.PWholeOnce
open Go.RowKit Go.Proofs.YtkjmbibnfohkjaaDoorW.PrintWords Go.Proofs.YtkjmbibnfohkjaaDoorW.PrintLast Go.Proofs.YtkjmbibnfohkjaaDoorW.PrintMore
attribute [local go_sem] max2_int min2_int max_two min_two max_three min_three max_four min_four   -- for this text's walks alone
set_option linter.unusedVariables false
set_option linter.unusedSimpArgs false

attribute [local go_sem high] eqA65
/-! ### quarrylaw12_WholeOnce: function 6 -/
mutual
def quarrylaw12_WholeOnce.j0 : Nat → ByteArray → Int → Int → Int → Int → Bool → ByteArray → Int → Option (Bool)
  | 0, _, _, _, _, _, _, _, _ => none
  | k + 1, x0, x4, x5, x6, x8, x115000, x115001, x115002 => if x6 = 0 then ((whole_Text_uint64.f x5).bind fun t124 => ((decimal_Of.f t124).bind fun bt125 => (if x8 = 0 then (if bt125.2.2.2 = 0 then ((whole_Text_uint64.f x5).bind fun t130 => (if x0.toList = t130.toList then ((decimal_Whole.f k x115000 x115001 x115002).bind fun t131 => (if t131 = true then (if x0.toList = ([45, 48] : List UInt8) then (quarrylaw12_WholeOnce.j1 k x4 x6 x8 false) else (quarrylaw12_WholeOnce.j1 k x4 x6 x8 (!(x115000 == bt125.1) || (!(x115001.toList == bt125.2.1.toList) || (!(x115002 == bt125.2.2.1)))))) else (quarrylaw12_WholeOnce.j1 k x4 x6 x8 true))) else (if x0.toList = ([45, 48] : List UInt8) then ((decimal_Whole.f k x115000 x115001 x115002).bind fun t132 => (if t132 = true then (quarrylaw12_WholeOnce.j1 k x4 x6 x8 false) else (quarrylaw12_WholeOnce.j1 k x4 x6 x8 true))) else (quarrylaw12_WholeOnce.j1 k x4 x6 x8 true)))) else (quarrylaw12_WholeOnce.j1 k x4 x6 x8 true)) else (quarrylaw12_WholeOnce.j1 k x4 x6 x8 true)))) else (if ((x4 == 110) != (x8 == 110)) = true then (none) else (if ((x6 == 110) != (x8 == 110)) = true then (none) else (if ((x4 == 120) != (x6 == 120)) = true then (none) else ((quarrylaw12_awake.f).bind fun t134 => (some t134)))))
def quarrylaw12_WholeOnce.j1 : Nat → Int → Int → Int → Bool → Option (Bool)
  | 0, _, _, _, _ => none
  | k + 1, x4, x6, x8, x103 => if x103 = true then (none) else (if ((x4 == 110) != (x8 == 110)) = true then (none) else (if ((x6 == 110) != (x8 == 110)) = true then (none) else (if ((x4 == 120) != (x6 == 120)) = true then (none) else ((quarrylaw12_awake.f).bind fun t133 => (some t133)))))
end
def quarrylaw12_WholeOnce.f (k : Nat) (a0 : ByteArray) : Option (Bool) := (whole_Int_int64.f a0).bind fun bt106 => ((whole_Uint_uint64.f a0).bind fun bt108 => ((decimal_Of.f a0).bind fun bt110 => (if bt106.2 = 0 then ((whole_Text_int64.f bt106.1).bind fun t115 => ((decimal_Of.f t115).bind fun bt116 => (if bt110.2.2.2 = 0 then (if bt116.2.2.2 = 0 then ((whole_Text_int64.f bt106.1).bind fun t121 => (if a0.toList = t121.toList then ((decimal_Whole.f k bt110.1 bt110.2.1 bt110.2.2.1).bind fun t122 => (if t122 = true then (if a0.toList = ([45, 48] : List UInt8) then (quarrylaw12_WholeOnce.j0 k a0 bt106.2 bt108.1 bt108.2 bt110.2.2.2 bt110.1 bt110.2.1 bt110.2.2.1) else (if (!(bt110.1 == bt116.1) || (!(bt110.2.1.toList == bt116.2.1.toList) || (!(bt110.2.2.1 == bt116.2.2.1)))) = true then (none) else (quarrylaw12_WholeOnce.j0 k a0 bt106.2 bt108.1 bt108.2 bt110.2.2.2 bt110.1 bt110.2.1 bt110.2.2.1))) else (none))) else (if a0.toList = ([45, 48] : List UInt8) then ((decimal_Whole.f k bt110.1 bt110.2.1 bt110.2.2.1).bind fun t123 => (if t123 = true then (quarrylaw12_WholeOnce.j0 k a0 bt106.2 bt108.1 bt108.2 bt110.2.2.2 bt110.1 bt110.2.1 bt110.2.2.1) else (none))) else (none)))) else (none)) else (none)))) else (quarrylaw12_WholeOnce.j0 k a0 bt106.2 bt108.1 bt108.2 bt110.2.2.2 bt110.1 bt110.2.1 bt110.2.2.1))))
theorem quarrylaw12_WholeOnce.mono_l : ∀ k, (∀ y0 y1 y2 y3 y4 y5 y6 y7, LeO (quarrylaw12_WholeOnce.j0 k y0 y1 y2 y3 y4 y5 y6 y7) (quarrylaw12_WholeOnce.j0 (k + 1) y0 y1 y2 y3 y4 y5 y6 y7)) ∧ (∀ y0 y1 y2 y3, LeO (quarrylaw12_WholeOnce.j1 k y0 y1 y2 y3) (quarrylaw12_WholeOnce.j1 (k + 1) y0 y1 y2 y3))
  | 0 => ⟨fun _ _ _ _ _ _ _ _ r h => by simp [quarrylaw12_WholeOnce.j0] at h, fun _ _ _ _ r h => by simp [quarrylaw12_WholeOnce.j1] at h⟩
  | k + 1 => by
    obtain ⟨ih0, ih1⟩ := quarrylaw12_WholeOnce.mono_l k
    refine ⟨?_, ?_⟩
    · intro y0 y1 y2 y3 y4 y5 y6 y7
      unfold quarrylaw12_WholeOnce.j0
      repeat' first
      | (with_reducible exact ih0 _ _ _ _ _ _ _ _)
      | (with_reducible exact ih1 _ _ _ _)
      | (with_reducible exact decimal_Whole.mono _ _ _ _)
      | (with_reducible exact LeO.refl _)
      | (with_reducible exact LeO.none _)
      | (with_reducible refine LeO.ite ?_ ?_)
      | (with_reducible refine LeO.bind ?_ (fun _ => ?_))
      | exact ih0 _ _ _ _ _ _ _ _
      | exact ih1 _ _ _ _
      | exact decimal_Whole.mono _ _ _ _
      | exact LeO.none _
      | refine LeO.ite ?_ ?_
      | refine LeO.bind ?_ (fun _ => ?_)
    · intro y0 y1 y2 y3
      unfold quarrylaw12_WholeOnce.j1
      repeat' first
      | (with_reducible exact ih0 _ _ _ _ _ _ _ _)
      | (with_reducible exact ih1 _ _ _ _)
      | (with_reducible exact decimal_Whole.mono _ _ _ _)
      | (with_reducible exact LeO.refl _)
      | (with_reducible exact LeO.none _)
      | (with_reducible refine LeO.ite ?_ ?_)
      | (with_reducible refine LeO.bind ?_ (fun _ => ?_))
      | exact ih0 _ _ _ _ _ _ _ _
      | exact ih1 _ _ _ _
      | exact decimal_Whole.mono _ _ _ _
      | exact LeO.none _
      | refine LeO.ite ?_ ?_
      | refine LeO.bind ?_ (fun _ => ?_)
theorem quarrylaw12_WholeOnce.mono : ∀ a0 k, LeO (quarrylaw12_WholeOnce.f k a0) (quarrylaw12_WholeOnce.f (k + 1) a0) := by
  intro a0 k
  obtain ⟨ih0, ih1⟩ := quarrylaw12_WholeOnce.mono_l k
  unfold quarrylaw12_WholeOnce.f
  repeat' first
      | (with_reducible exact ih0 _ _ _ _ _ _ _ _)
      | (with_reducible exact ih1 _ _ _ _)
      | (with_reducible exact decimal_Whole.mono _ _ _ _)
      | (with_reducible exact LeO.refl _)
      | (with_reducible exact LeO.none _)
      | (with_reducible refine LeO.ite ?_ ?_)
      | (with_reducible refine LeO.bind ?_ (fun _ => ?_))
      | exact ih0 _ _ _ _ _ _ _ _
      | exact ih1 _ _ _ _
      | exact decimal_Whole.mono _ _ _ _
      | exact LeO.none _
      | refine LeO.ite ?_ ?_
      | refine LeO.bind ?_ (fun _ => ?_)
set_option maxHeartbeats 8000000 in
set_option maxRecDepth 100000 in
theorem quarrylaw12_WholeOnce.calls (k : Nat) (a0 : ByteArray) (r : Bool) (w : World) (h : quarrylaw12_WholeOnce.f k a0 = some r) (hT : TabW w := by first | exact hT | exact TabW.drewN hT _ | (refine TabW.below hT ?_; repeat (first | (with_reducible exact HB.out) | (with_reducible exact Below.refl _ _) | apply below_alloc | apply pw_below_drewN | apply below_drew1 | apply below_drew | assumption | refine below_set ?_ (Aside0.out (by assumption))))) :
    Calls Tryd.prog 6 #[.string a0] w fun e w' => e = .returned (.bool r) ∧ Below w.heap.size w w' := by
  have hu65 := Tryd.underlying65
  have HB := Aside0.mk (Below.refl w.heap.size w)
  have H : ((whole_Int_int64.f a0).bind fun bt106 => ((whole_Uint_uint64.f a0).bind fun bt108 => ((decimal_Of.f a0).bind fun bt110 => (if bt106.2 = 0 then ((whole_Text_int64.f bt106.1).bind fun t115 => ((decimal_Of.f t115).bind fun bt116 => (if bt110.2.2.2 = 0 then (if bt116.2.2.2 = 0 then ((whole_Text_int64.f bt106.1).bind fun t121 => (if a0.toList = t121.toList then ((decimal_Whole.f k bt110.1 bt110.2.1 bt110.2.2.1).bind fun t122 => (if t122 = true then (if a0.toList = ([45, 48] : List UInt8) then (quarrylaw12_WholeOnce.j0 k a0 bt106.2 bt108.1 bt108.2 bt110.2.2.2 bt110.1 bt110.2.1 bt110.2.2.1) else (if (!(bt110.1 == bt116.1) || (!(bt110.2.1.toList == bt116.2.1.toList) || (!(bt110.2.2.1 == bt116.2.2.1)))) = true then (none) else (quarrylaw12_WholeOnce.j0 k a0 bt106.2 bt108.1 bt108.2 bt110.2.2.2 bt110.1 bt110.2.1 bt110.2.2.1))) else (none))) else (if a0.toList = ([45, 48] : List UInt8) then ((decimal_Whole.f k bt110.1 bt110.2.1 bt110.2.2.1).bind fun t123 => (if t123 = true then (quarrylaw12_WholeOnce.j0 k a0 bt106.2 bt108.1 bt108.2 bt110.2.2.2 bt110.1 bt110.2.1 bt110.2.2.1) else (none))) else (none)))) else (none)) else (none)))) else (quarrylaw12_WholeOnce.j0 k a0 bt106.2 bt108.1 bt108.2 bt110.2.2.2 bt110.1 bt110.2.1 bt110.2.2.1))))) = some r := h
  clear h
  replace H := Option.bind_eq_some_iff.mp H
  obtain ⟨⟨t106, t107⟩, A20, H⟩ := H
  replace H : ((whole_Uint_uint64.f a0).bind fun bt108 => ((decimal_Of.f a0).bind fun bt110 => (if t107 = 0 then ((whole_Text_int64.f t106).bind fun t115 => ((decimal_Of.f t115).bind fun bt116 => (if bt110.2.2.2 = 0 then (if bt116.2.2.2 = 0 then ((whole_Text_int64.f t106).bind fun t121 => (if a0.toList = t121.toList then ((decimal_Whole.f k bt110.1 bt110.2.1 bt110.2.2.1).bind fun t122 => (if t122 = true then (if a0.toList = ([45, 48] : List UInt8) then (quarrylaw12_WholeOnce.j0 k a0 t107 bt108.1 bt108.2 bt110.2.2.2 bt110.1 bt110.2.1 bt110.2.2.1) else (if (!(bt110.1 == bt116.1) || (!(bt110.2.1.toList == bt116.2.1.toList) || (!(bt110.2.2.1 == bt116.2.2.1)))) = true then (none) else (quarrylaw12_WholeOnce.j0 k a0 t107 bt108.1 bt108.2 bt110.2.2.2 bt110.1 bt110.2.1 bt110.2.2.1))) else (none))) else (if a0.toList = ([45, 48] : List UInt8) then ((decimal_Whole.f k bt110.1 bt110.2.1 bt110.2.2.1).bind fun t123 => (if t123 = true then (quarrylaw12_WholeOnce.j0 k a0 t107 bt108.1 bt108.2 bt110.2.2.2 bt110.1 bt110.2.1 bt110.2.2.1) else (none))) else (none)))) else (none)) else (none)))) else (quarrylaw12_WholeOnce.j0 k a0 t107 bt108.1 bt108.2 bt110.2.2.2 bt110.1 bt110.2.1 bt110.2.2.1)))) = some r := H
  have A2 := Aside0.mk A20
  clear A20
  replace H := Option.bind_eq_some_iff.mp H
  obtain ⟨⟨t108, t109⟩, A30, H⟩ := H
  replace H : ((decimal_Of.f a0).bind fun bt110 => (if t107 = 0 then ((whole_Text_int64.f t106).bind fun t115 => ((decimal_Of.f t115).bind fun bt116 => (if bt110.2.2.2 = 0 then (if bt116.2.2.2 = 0 then ((whole_Text_int64.f t106).bind fun t121 => (if a0.toList = t121.toList then ((decimal_Whole.f k bt110.1 bt110.2.1 bt110.2.2.1).bind fun t122 => (if t122 = true then (if a0.toList = ([45, 48] : List UInt8) then (quarrylaw12_WholeOnce.j0 k a0 t107 t108 t109 bt110.2.2.2 bt110.1 bt110.2.1 bt110.2.2.1) else (if (!(bt110.1 == bt116.1) || (!(bt110.2.1.toList == bt116.2.1.toList) || (!(bt110.2.2.1 == bt116.2.2.1)))) = true then (none) else (quarrylaw12_WholeOnce.j0 k a0 t107 t108 t109 bt110.2.2.2 bt110.1 bt110.2.1 bt110.2.2.1))) else (none))) else (if a0.toList = ([45, 48] : List UInt8) then ((decimal_Whole.f k bt110.1 bt110.2.1 bt110.2.2.1).bind fun t123 => (if t123 = true then (quarrylaw12_WholeOnce.j0 k a0 t107 t108 t109 bt110.2.2.2 bt110.1 bt110.2.1 bt110.2.2.1) else (none))) else (none)))) else (none)) else (none)))) else (quarrylaw12_WholeOnce.j0 k a0 t107 t108 t109 bt110.2.2.2 bt110.1 bt110.2.1 bt110.2.2.1))) = some r := H
  have A3 := Aside0.mk A30
  clear A30
  replace H := Option.bind_eq_some_iff.mp H
  obtain ⟨⟨t110, t111, t112, t113⟩, A40, H⟩ := H
  replace H : (if t107 = 0 then ((whole_Text_int64.f t106).bind fun t115 => ((decimal_Of.f t115).bind fun bt116 => (if t113 = 0 then (if bt116.2.2.2 = 0 then ((whole_Text_int64.f t106).bind fun t121 => (if a0.toList = t121.toList then ((decimal_Whole.f k t110 t111 t112).bind fun t122 => (if t122 = true then (if a0.toList = ([45, 48] : List UInt8) then (quarrylaw12_WholeOnce.j0 k a0 t107 t108 t109 t113 t110 t111 t112) else (if (!(t110 == bt116.1) || (!(t111.toList == bt116.2.1.toList) || (!(t112 == bt116.2.2.1)))) = true then (none) else (quarrylaw12_WholeOnce.j0 k a0 t107 t108 t109 t113 t110 t111 t112))) else (none))) else (if a0.toList = ([45, 48] : List UInt8) then ((decimal_Whole.f k t110 t111 t112).bind fun t123 => (if t123 = true then (quarrylaw12_WholeOnce.j0 k a0 t107 t108 t109 t113 t110 t111 t112) else (none))) else (none)))) else (none)) else (none)))) else (quarrylaw12_WholeOnce.j0 k a0 t107 t108 t109 t113 t110 t111 t112)) = some r := H
  have A4 := Aside0.mk A40
  clear A40
  have HC5 := Aside0.mk H
  clear H
  go_enter Tryd.func6, Tryd.ntmps6
  go_upto_if 29 with (first | ((with_reducible refine gate_callee (f := 26) rfl ?_); refine goesL_ (some 15) rfl rfl Tryd.func26 (by kernel_rfl) rfl #[.string a0] rfl (by (try simp only [List.map_toArray, List.map_cons, List.map_nil]); first | done | rfl | (simp only [List.length_drop, List.length_take]; rfl)) ?_; (with_reducible refine (whole_Int_int64.calls a0 t106 t107 _ A2.out).mono ?_); rintro e w6 ⟨rfl, hb⟩; refine ⟨_, rfl, ?_⟩; have n0_ := Aside0.mk (below_step (by repeat (first | (with_reducible first | exact HB.out | apply below_alloc | apply pw_below_drewN | apply below_drew1) | exact HB.out)) hb); clear HB; have HB := n0_; clear n0_; (try clear hb); (try clear hb2); (try clear hk); (try clear hi)) | ((with_reducible refine gate_callee (f := 30) rfl ?_); refine goesL_ (some 20) rfl rfl Tryd.func30 (by kernel_rfl) rfl #[.string a0] rfl (by (try simp only [List.map_toArray, List.map_cons, List.map_nil]); first | done | rfl | (simp only [List.length_drop, List.length_take]; rfl)) ?_; (with_reducible refine (whole_Uint_uint64.calls a0 t108 t109 _ A3.out).mono ?_); rintro e w7 ⟨rfl, hb⟩; refine ⟨_, rfl, ?_⟩; have n0_ := Aside0.mk (below_step (by repeat (first | (with_reducible first | exact HB.out | apply below_alloc | apply pw_below_drewN | apply below_drew1) | exact HB.out)) hb); clear HB; have HB := n0_; clear n0_; (try clear hb); (try clear hb2); (try clear hk); (try clear hi)) | ((with_reducible refine gate_callee (f := 32) rfl ?_); refine goesL_ (some 25) rfl rfl Tryd.func32 (by kernel_rfl) rfl #[.string a0] rfl (by (try simp only [List.map_toArray, List.map_cons, List.map_nil]); first | done | rfl | (simp only [List.length_drop, List.length_take]; rfl)) ?_; (with_reducible refine (decimal_Of.calls a0 t110 t111 t112 t113 _ A4.out).mono ?_); rintro e w8 ⟨rfl, hb⟩; refine ⟨_, rfl, ?_⟩; have n0_ := Aside0.mk (below_step (by repeat (first | (with_reducible first | exact HB.out | apply below_alloc | apply pw_below_drewN | apply below_drew1) | exact HB.out)) hb); clear HB; have HB := n0_; clear n0_; (try clear hb); (try clear hb2); (try clear hk); (try clear hi)) | ((with_reducible refine gate_dst (N := 7) rfl ?_); refine box_event ?hg (N := 7) ?hd (cs := #[.bool false, .string (⟨#[]⟩ : ByteArray), .int .i64 0]) (t := 65) ?hr ?_; (case hd => rfl); (case hg => rfl); (case hr => first | (go_simp; done) | (go_simp; rfl)); intro gb114 hg w9 hbox hb; have n0_ := Aside0.mk (below_step (by repeat (first | (with_reducible first | exact HB.out | apply below_alloc | apply pw_below_drewN | apply below_drew1) | exact HB.out)) hb); have n1_ := Aside0.mk (hbox); have n2_ := Aside0.mk ((by rw [hg]; exact (below_size (by repeat (first | (with_reducible first | exact HB.out | apply below_alloc | apply pw_below_drewN | apply below_drew1) | exact HB.out))) : w.heap.size ≤ gb114)); have n3_ := Aside0.mk ((by rw [hg]; exact (below_size (by repeat (first | (with_reducible first | exact HB.out | apply below_alloc | apply pw_below_drewN | apply below_drew1) | exact HB.out))) : w.heap.size ≤ gb114)); clear HB; have HB := n0_; have BK114 := n1_; have GW114 := n2_; have GE114 := n3_; clear n0_ n1_ n2_ n3_; clear hb hbox hg; have hcz10_0 : w9.cell? ⟨gb114, 0, none⟩ = some (.bool false) := (blk_cell BK114.out 0).trans rfl; have hcz10_1 : w9.cell? ⟨gb114, 1, none⟩ = some (.string (⟨#[]⟩ : ByteArray)) := (blk_cell BK114.out 1).trans rfl; have hcz10_2 : w9.cell? ⟨gb114, 2, none⟩ = some (.int .i64 0) := (blk_cell BK114.out 2).trans rfl; have hfz10_0 := blk_frozen BK114.out 0; have hfz10_1 := blk_frozen BK114.out 1; have hfz10_2 := blk_frozen BK114.out 2))
  (try simp only [Act.put, List.setIfInBounds_toArray, List.set_cons_zero, List.set_cons_succ])
  go_cut [] (fun wc => ∃ (kq : Nat), Aside0 (quarrylaw12_WholeOnce.j0 kq a0 t107 t108 t109 t113 t110 t111 t112 = some r) ∧ Aside0 (kq ≤ k) ∧ Aside0 (wc.heap[gb114]? = some (.cells #[.bool t110, .string t111, .int .i64 t112] 65 (0, 0))) ∧ Aside0 (Below w.heap.size w wc))
  case first => as_aux_lemma =>
    have H := HC5.out
    clear HC5
    by_cases c11 : t107 = 0
    · rw [if_pos c11] at H
      have c11b0 : (t107 == 0) = true := beq_iff_eq.mpr c11
      have c11b1 : (t107 != 0) = false := bne_eq_false_iff_eq.mpr c11
      clear c11
      (first | rw [c11b0] | (simp only [i64_w, i32_w]; rw [c11b0]) | skip)
      replace H := Option.bind_eq_some_iff.mp H
      obtain ⟨t115, A120, H⟩ := H
      replace H : ((decimal_Of.f t115).bind fun bt116 => (if t113 = 0 then (if bt116.2.2.2 = 0 then ((whole_Text_int64.f t106).bind fun t121 => (if a0.toList = t121.toList then ((decimal_Whole.f k t110 t111 t112).bind fun t122 => (if t122 = true then (if a0.toList = ([45, 48] : List UInt8) then (quarrylaw12_WholeOnce.j0 k a0 t107 t108 t109 t113 t110 t111 t112) else (if (!(t110 == bt116.1) || (!(t111.toList == bt116.2.1.toList) || (!(t112 == bt116.2.2.1)))) = true then (none) else (quarrylaw12_WholeOnce.j0 k a0 t107 t108 t109 t113 t110 t111 t112))) else (none))) else (if a0.toList = ([45, 48] : List UInt8) then ((decimal_Whole.f k t110 t111 t112).bind fun t123 => (if t123 = true then (quarrylaw12_WholeOnce.j0 k a0 t107 t108 t109 t113 t110 t111 t112) else (none))) else (none)))) else (none)) else (none))) = some r := H
      have A12 := Aside0.mk A120
      clear A120
      replace H := Option.bind_eq_some_iff.mp H
      obtain ⟨⟨t116, t117, t118, t119⟩, A130, H⟩ := H
      replace H : (if t113 = 0 then (if t119 = 0 then ((whole_Text_int64.f t106).bind fun t121 => (if a0.toList = t121.toList then ((decimal_Whole.f k t110 t111 t112).bind fun t122 => (if t122 = true then (if a0.toList = ([45, 48] : List UInt8) then (quarrylaw12_WholeOnce.j0 k a0 t107 t108 t109 t113 t110 t111 t112) else (if (!(t110 == t116) || (!(t111.toList == t117.toList) || (!(t112 == t118)))) = true then (none) else (quarrylaw12_WholeOnce.j0 k a0 t107 t108 t109 t113 t110 t111 t112))) else (none))) else (if a0.toList = ([45, 48] : List UInt8) then ((decimal_Whole.f k t110 t111 t112).bind fun t123 => (if t123 = true then (quarrylaw12_WholeOnce.j0 k a0 t107 t108 t109 t113 t110 t111 t112) else (none))) else (none)))) else (none)) else (none)) = some r := H
      have A13 := Aside0.mk A130
      clear A130
      by_cases c14 : t113 = 0
      · rw [if_pos c14] at H
        have c14b0 : (t113 == 0) = true := beq_iff_eq.mpr c14
        have c14b1 : (t113 != 0) = false := bne_eq_false_iff_eq.mpr c14
        clear c14
        by_cases c15 : t119 = 0
        · rw [if_pos c15] at H
          have c15b0 : (t119 == 0) = true := beq_iff_eq.mpr c15
          have c15b1 : (t119 != 0) = false := bne_eq_false_iff_eq.mpr c15
          clear c15
          replace H := Option.bind_eq_some_iff.mp H
          obtain ⟨t121, A160, H⟩ := H
          replace H : (if a0.toList = t121.toList then ((decimal_Whole.f k t110 t111 t112).bind fun t122 => (if t122 = true then (if a0.toList = ([45, 48] : List UInt8) then (quarrylaw12_WholeOnce.j0 k a0 t107 t108 t109 t113 t110 t111 t112) else (if (!(t110 == t116) || (!(t111.toList == t117.toList) || (!(t112 == t118)))) = true then (none) else (quarrylaw12_WholeOnce.j0 k a0 t107 t108 t109 t113 t110 t111 t112))) else (none))) else (if a0.toList = ([45, 48] : List UInt8) then ((decimal_Whole.f k t110 t111 t112).bind fun t123 => (if t123 = true then (quarrylaw12_WholeOnce.j0 k a0 t107 t108 t109 t113 t110 t111 t112) else (none))) else (none))) = some r := H
          have A16 := Aside0.mk A160
          clear A160
          by_cases c17 : a0.toList = t121.toList
          · rw [if_pos c17] at H
            have c17b0 : (a0.toList == t121.toList) = true := beq_iff_eq.mpr c17
            have c17b1 : (a0.toList != t121.toList) = false := bne_eq_false_iff_eq.mpr c17
            clear c17
            replace H := Option.bind_eq_some_iff.mp H
            obtain ⟨t122, A180, H⟩ := H
            replace H : (if t122 = true then (if a0.toList = ([45, 48] : List UInt8) then (quarrylaw12_WholeOnce.j0 k a0 t107 t108 t109 t113 t110 t111 t112) else (if (!(t110 == t116) || (!(t111.toList == t117.toList) || (!(t112 == t118)))) = true then (none) else (quarrylaw12_WholeOnce.j0 k a0 t107 t108 t109 t113 t110 t111 t112))) else (none)) = some r := H
            have A18 := Aside0.mk A180
            clear A180
            by_cases c19 : t122 = true
            · subst c19
              have H1 : (if a0.toList = ([45, 48] : List UInt8) then (quarrylaw12_WholeOnce.j0 k a0 t107 t108 t109 t113 t110 t111 t112) else (if (!(t110 == t116) || (!(t111.toList == t117.toList) || (!(t112 == t118)))) = true then (none) else (quarrylaw12_WholeOnce.j0 k a0 t107 t108 t109 t113 t110 t111 t112))) = some r := by rw [if_pos rfl] at H; exact H
              clear H
              have H := H1
              clear H1
              by_cases c20 : a0.toList = ([45, 48] : List UInt8)
              · rw [if_pos c20] at H
                have c20b0 : (a0.toList == ([45, 48] : List UInt8)) = true := beq_iff_eq.mpr c20
                have c20b1 : (a0.toList != ([45, 48] : List UInt8)) = false := bne_eq_false_iff_eq.mpr c20
                clear c20
                have H' := Aside0.mk H
                clear H
                go_wp2_with (first | ((with_reducible refine gate_callee (f := 9) rfl ?_); refine goesL_ (some 32) rfl rfl Tryd.func9 (by kernel_rfl) rfl #[.int .i64 t106] rfl (by (try simp only [List.map_toArray, List.map_cons, List.map_nil]); first | done | rfl | (simp only [List.length_drop, List.length_take]; rfl)) ?_; (with_reducible refine (whole_Text_int64.calls t106 t115 _ A12.out).mono ?_); rintro e w21 ⟨rfl, hb⟩; refine ⟨_, rfl, ?_⟩; have n0_ := Aside0.mk (blk_below (g := gb114) (o := .cells #[.bool t110, .string t111, .int .i64 t112] 65 (0, 0)) (by (with_reducible repeat (first | refine blk_drewN ?_ _ | refine blk_drew ?_ | refine blk_alloc ?_ _)); refine blk_put (cs := #[.bool t110, .string t111, .int .i64 0]) ?_ 2 _ rfl; (with_reducible repeat (first | refine blk_drewN ?_ _ | refine blk_drew ?_ | refine blk_alloc ?_ _)); refine blk_put (cs := #[.bool t110, .string (⟨#[]⟩ : ByteArray), .int .i64 0]) ?_ 1 _ rfl; (with_reducible repeat (first | refine blk_drewN ?_ _ | refine blk_drew ?_ | refine blk_alloc ?_ _)); refine blk_put (cs := #[.bool false, .string (⟨#[]⟩ : ByteArray), .int .i64 0]) ?_ 0 _ rfl; (with_reducible repeat (first | refine blk_drewN ?_ _ | refine blk_drew ?_ | refine blk_alloc ?_ _)); exact BK114.out) hb); have n1_ := Aside0.mk (below_step (by repeat (first | (with_reducible first | exact HB.out | apply below_alloc | apply pw_below_drewN | apply below_drew1 | refine below_set ?_ GE114.out) | exact HB.out)) hb); clear BK114; clear HB; have BK114 := n0_; have HB := n1_; clear n0_ n1_; (try clear hb); (try clear hb2); (try clear hk); (try clear hi)) | ((with_reducible refine gate_callee (f := 32) rfl ?_); refine goesL_ (some 33) rfl rfl Tryd.func32 (by kernel_rfl) rfl #[.string t115] rfl (by (try simp only [List.map_toArray, List.map_cons, List.map_nil]); first | done | rfl | (simp only [List.length_drop, List.length_take]; rfl)) ?_; (with_reducible refine (decimal_Of.calls t115 t116 t117 t118 t119 _ A13.out).mono ?_); rintro e w22 ⟨rfl, hb⟩; refine ⟨_, rfl, ?_⟩; have n0_ := Aside0.mk (blk_below (g := gb114) (o := .cells #[.bool t110, .string t111, .int .i64 t112] 65 (0, 0)) (by (with_reducible repeat (first | refine blk_drewN ?_ _ | refine blk_drew ?_ | refine blk_alloc ?_ _)); exact BK114.out) hb); have n1_ := Aside0.mk (below_step (by repeat (first | (with_reducible first | exact HB.out | apply below_alloc | apply pw_below_drewN | apply below_drew1 | refine below_set ?_ GE114.out) | exact HB.out)) hb); clear BK114; clear HB; have BK114 := n0_; have HB := n1_; clear n0_ n1_; (try clear hb); (try clear hb2); (try clear hk); (try clear hi)) | ((with_reducible refine gate_dst (N := 9) rfl ?_); refine box_event ?hg (N := 9) ?hd (cs := #[.bool false, .string (⟨#[]⟩ : ByteArray), .int .i64 0]) (t := 65) ?hr ?_; (case hd => rfl); (case hg => rfl); (case hr => first | (go_simp; done) | (go_simp; rfl)); intro gb120 hg w23 hbox hb; have n0_ := Aside0.mk (blk_below (g := gb114) (o := .cells #[.bool t110, .string t111, .int .i64 t112] 65 (0, 0)) (by (with_reducible repeat (first | refine blk_drewN ?_ _ | refine blk_drew ?_ | refine blk_alloc ?_ _)); exact BK114.out) hb); have n1_ := Aside0.mk (below_step (by repeat (first | (with_reducible first | exact HB.out | apply below_alloc | apply pw_below_drewN | apply below_drew1 | refine below_set ?_ GE114.out) | exact HB.out)) hb); have n2_ := Aside0.mk (hbox); have n3_ := Aside0.mk ((by rw [hg]; exact (below_size (by repeat (first | (with_reducible first | exact HB.out | apply below_alloc | apply pw_below_drewN | apply below_drew1 | refine below_set ?_ GE114.out) | exact HB.out))) : w.heap.size ≤ gb120)); have n4_ := Aside0.mk ((by rw [hg]; exact (below_size (by repeat (first | (with_reducible first | exact HB.out | apply below_alloc | apply pw_below_drewN | apply below_drew1 | refine below_set ?_ GE114.out) | exact HB.out))) : w.heap.size ≤ gb120)); have n5_ := Aside0.mk ((by rw [hg]; exact Nat.ne_of_lt (blk_lt (g := gb114) (o := .cells #[.bool t110, .string t111, .int .i64 t112] 65 (0, 0)) (by (with_reducible repeat (first | refine blk_drewN ?_ _ | refine blk_drew ?_ | refine blk_alloc ?_ _)); exact BK114.out)) : gb114 ≠ gb120)); have n6_ := Aside0.mk ((by rw [hg]; exact Nat.ne_of_gt (blk_lt (g := gb114) (o := .cells #[.bool t110, .string t111, .int .i64 t112] 65 (0, 0)) (by (with_reducible repeat (first | refine blk_drewN ?_ _ | refine blk_drew ?_ | refine blk_alloc ?_ _)); exact BK114.out)) : gb120 ≠ gb114)); clear BK114; clear HB; have BK114 := n0_; have HB := n1_; have BK120 := n2_; have GW120 := n3_; have GE120 := n4_; have NB114_120 := n5_; have NB120_114 := n6_; clear n0_ n1_ n2_ n3_ n4_ n5_ n6_; clear hb hbox hg; have hnb24 := NB120_114.out; have hnc24 := NB114_120.out; have hcz25_0 : w23.cell? ⟨gb120, 0, none⟩ = some (.bool false) := (blk_cell BK120.out 0).trans rfl; have hcz25_1 : w23.cell? ⟨gb120, 1, none⟩ = some (.string (⟨#[]⟩ : ByteArray)) := (blk_cell BK120.out 1).trans rfl; have hcz25_2 : w23.cell? ⟨gb120, 2, none⟩ = some (.int .i64 0) := (blk_cell BK120.out 2).trans rfl; have hfz25_0 := blk_frozen BK120.out 0; have hfz25_1 := blk_frozen BK120.out 1; have hfz25_2 := blk_frozen BK120.out 2) | (go_at_call 9; (with_reducible refine (whole_Text_int64.calls t106 t121 _ A16.out).mono ?_); rintro e w26 ⟨rfl, hb⟩; have n0_ := Aside0.mk (blk_below (g := gb114) (o := .cells #[.bool t110, .string t111, .int .i64 t112] 65 (0, 0)) (by (with_reducible repeat (first | refine blk_drewN ?_ _ | refine blk_drew ?_ | refine blk_alloc ?_ _)); refine blk_far ?_ NB114_120.out _; (with_reducible repeat (first | refine blk_drewN ?_ _ | refine blk_drew ?_ | refine blk_alloc ?_ _)); refine blk_far ?_ NB114_120.out _; (with_reducible repeat (first | refine blk_drewN ?_ _ | refine blk_drew ?_ | refine blk_alloc ?_ _)); refine blk_far ?_ NB114_120.out _; (with_reducible repeat (first | refine blk_drewN ?_ _ | refine blk_drew ?_ | refine blk_alloc ?_ _)); exact BK114.out) hb); have n1_ := Aside0.mk (blk_below (g := gb120) (o := .cells #[.bool t116, .string t117, .int .i64 t118] 65 (0, 0)) (by (with_reducible repeat (first | refine blk_drewN ?_ _ | refine blk_drew ?_ | refine blk_alloc ?_ _)); refine blk_put (cs := #[.bool t116, .string t117, .int .i64 0]) ?_ 2 _ rfl; (with_reducible repeat (first | refine blk_drewN ?_ _ | refine blk_drew ?_ | refine blk_alloc ?_ _)); refine blk_put (cs := #[.bool t116, .string (⟨#[]⟩ : ByteArray), .int .i64 0]) ?_ 1 _ rfl; (with_reducible repeat (first | refine blk_drewN ?_ _ | refine blk_drew ?_ | refine blk_alloc ?_ _)); refine blk_put (cs := #[.bool false, .string (⟨#[]⟩ : ByteArray), .int .i64 0]) ?_ 0 _ rfl; (with_reducible repeat (first | refine blk_drewN ?_ _ | refine blk_drew ?_ | refine blk_alloc ?_ _)); exact BK120.out) hb); have n2_ := Aside0.mk (below_step (by repeat (first | (with_reducible first | exact HB.out | apply below_alloc | apply pw_below_drewN | apply below_drew1 | refine below_set ?_ GE114.out | refine below_set ?_ GE120.out) | exact HB.out)) hb); clear BK114; clear BK120; clear HB; have BK114 := n0_; have BK120 := n1_; have HB := n2_; clear n0_ n1_ n2_; (try clear hb); (try clear hb2); (try clear hk); (try clear hi); have hcz27_0 : w26.cell? ⟨gb114, 0, none⟩ = some (.bool t110) := (blk_cell BK114.out 0).trans rfl; have hcz27_1 : w26.cell? ⟨gb114, 1, none⟩ = some (.string t111) := (blk_cell BK114.out 1).trans rfl; have hcz27_2 : w26.cell? ⟨gb114, 2, none⟩ = some (.int .i64 t112) := (blk_cell BK114.out 2).trans rfl; have hfz27_0 := blk_frozen BK114.out 0; have hfz27_1 := blk_frozen BK114.out 1; have hfz27_2 := blk_frozen BK114.out 2) | (go_at_call 33; (with_reducible refine (decimal_Whole.calls k t110 t111 t112 true _ A18.out).mono ?_); rintro e w28 ⟨rfl, hb⟩; have n0_ := Aside0.mk (blk_below (g := gb114) (o := .cells #[.bool t110, .string t111, .int .i64 t112] 65 (0, 0)) (by (with_reducible repeat (first | refine blk_drewN ?_ _ | refine blk_drew ?_ | refine blk_alloc ?_ _)); exact BK114.out) hb); have n1_ := Aside0.mk (blk_below (g := gb120) (o := .cells #[.bool t116, .string t117, .int .i64 t118] 65 (0, 0)) (by (with_reducible repeat (first | refine blk_drewN ?_ _ | refine blk_drew ?_ | refine blk_alloc ?_ _)); exact BK120.out) hb); have n2_ := Aside0.mk (below_step (by repeat (first | (with_reducible first | exact HB.out | apply below_alloc | apply pw_below_drewN | apply below_drew1 | refine below_set ?_ GE114.out | refine below_set ?_ GE120.out) | exact HB.out)) hb); clear BK114; clear BK120; clear HB; have BK114 := n0_; have BK120 := n1_; have HB := n2_; clear n0_ n1_ n2_; (try clear hb); (try clear hb2); (try clear hk); (try clear hi)))
                go_meet
                case rel => exact ⟨_, H', ⟨by first | omega | exact Nat.le_refl _⟩, ⟨by (with_reducible repeat (first | refine blk_drewN ?_ _ | refine blk_drew ?_ | refine blk_alloc ?_ _)); exact BK114.out⟩, ⟨by repeat (first | (with_reducible first | exact HB.out | apply below_alloc | apply pw_below_drewN | apply below_drew1 | refine below_set ?_ GE114.out | refine below_set ?_ GE120.out) | exact HB.out)⟩⟩
              · rw [if_neg c20] at H
                have c20b0 : (a0.toList == ([45, 48] : List UInt8)) = false := beq_eq_false_iff_ne.mpr c20
                have c20b1 : (a0.toList != ([45, 48] : List UInt8)) = true := bne_iff_ne.mpr c20
                by_cases c29 : (!(t110 == t116) || (!(t111.toList == t117.toList) || (!(t112 == t118)))) = true
                · rw [if_pos c29] at H
                  exact absurd H (by simp)
                · rw [if_neg c29] at H
                  have c29b0 : (!(t110 == t116) || (!(t111.toList == t117.toList) || (!(t112 == t118)))) = false := by simpa using c29
                  clear c29
                  have H' := Aside0.mk H
                  clear H
                  go_wp2_with (first | ((with_reducible refine gate_callee (f := 9) rfl ?_); refine goesL_ (some 32) rfl rfl Tryd.func9 (by kernel_rfl) rfl #[.int .i64 t106] rfl (by (try simp only [List.map_toArray, List.map_cons, List.map_nil]); first | done | rfl | (simp only [List.length_drop, List.length_take]; rfl)) ?_; (with_reducible refine (whole_Text_int64.calls t106 t115 _ A12.out).mono ?_); rintro e w30 ⟨rfl, hb⟩; refine ⟨_, rfl, ?_⟩; have n0_ := Aside0.mk (blk_below (g := gb114) (o := .cells #[.bool t110, .string t111, .int .i64 t112] 65 (0, 0)) (by (with_reducible repeat (first | refine blk_drewN ?_ _ | refine blk_drew ?_ | refine blk_alloc ?_ _)); refine blk_put (cs := #[.bool t110, .string t111, .int .i64 0]) ?_ 2 _ rfl; (with_reducible repeat (first | refine blk_drewN ?_ _ | refine blk_drew ?_ | refine blk_alloc ?_ _)); refine blk_put (cs := #[.bool t110, .string (⟨#[]⟩ : ByteArray), .int .i64 0]) ?_ 1 _ rfl; (with_reducible repeat (first | refine blk_drewN ?_ _ | refine blk_drew ?_ | refine blk_alloc ?_ _)); refine blk_put (cs := #[.bool false, .string (⟨#[]⟩ : ByteArray), .int .i64 0]) ?_ 0 _ rfl; (with_reducible repeat (first | refine blk_drewN ?_ _ | refine blk_drew ?_ | refine blk_alloc ?_ _)); exact BK114.out) hb); have n1_ := Aside0.mk (below_step (by repeat (first | (with_reducible first | exact HB.out | apply below_alloc | apply pw_below_drewN | apply below_drew1 | refine below_set ?_ GE114.out) | exact HB.out)) hb); clear BK114; clear HB; have BK114 := n0_; have HB := n1_; clear n0_ n1_; (try clear hb); (try clear hb2); (try clear hk); (try clear hi)) | ((with_reducible refine gate_callee (f := 32) rfl ?_); refine goesL_ (some 33) rfl rfl Tryd.func32 (by kernel_rfl) rfl #[.string t115] rfl (by (try simp only [List.map_toArray, List.map_cons, List.map_nil]); first | done | rfl | (simp only [List.length_drop, List.length_take]; rfl)) ?_; (with_reducible refine (decimal_Of.calls t115 t116 t117 t118 t119 _ A13.out).mono ?_); rintro e w31 ⟨rfl, hb⟩; refine ⟨_, rfl, ?_⟩; have n0_ := Aside0.mk (blk_below (g := gb114) (o := .cells #[.bool t110, .string t111, .int .i64 t112] 65 (0, 0)) (by (with_reducible repeat (first | refine blk_drewN ?_ _ | refine blk_drew ?_ | refine blk_alloc ?_ _)); exact BK114.out) hb); have n1_ := Aside0.mk (below_step (by repeat (first | (with_reducible first | exact HB.out | apply below_alloc | apply pw_below_drewN | apply below_drew1 | refine below_set ?_ GE114.out) | exact HB.out)) hb); clear BK114; clear HB; have BK114 := n0_; have HB := n1_; clear n0_ n1_; (try clear hb); (try clear hb2); (try clear hk); (try clear hi)) | ((with_reducible refine gate_dst (N := 9) rfl ?_); refine box_event ?hg (N := 9) ?hd (cs := #[.bool false, .string (⟨#[]⟩ : ByteArray), .int .i64 0]) (t := 65) ?hr ?_; (case hd => rfl); (case hg => rfl); (case hr => first | (go_simp; done) | (go_simp; rfl)); intro gb120 hg w32 hbox hb; have n0_ := Aside0.mk (blk_below (g := gb114) (o := .cells #[.bool t110, .string t111, .int .i64 t112] 65 (0, 0)) (by (with_reducible repeat (first | refine blk_drewN ?_ _ | refine blk_drew ?_ | refine blk_alloc ?_ _)); exact BK114.out) hb); have n1_ := Aside0.mk (below_step (by repeat (first | (with_reducible first | exact HB.out | apply below_alloc | apply pw_below_drewN | apply below_drew1 | refine below_set ?_ GE114.out) | exact HB.out)) hb); have n2_ := Aside0.mk (hbox); have n3_ := Aside0.mk ((by rw [hg]; exact (below_size (by repeat (first | (with_reducible first | exact HB.out | apply below_alloc | apply pw_below_drewN | apply below_drew1 | refine below_set ?_ GE114.out) | exact HB.out))) : w.heap.size ≤ gb120)); have n4_ := Aside0.mk ((by rw [hg]; exact (below_size (by repeat (first | (with_reducible first | exact HB.out | apply below_alloc | apply pw_below_drewN | apply below_drew1 | refine below_set ?_ GE114.out) | exact HB.out))) : w.heap.size ≤ gb120)); have n5_ := Aside0.mk ((by rw [hg]; exact Nat.ne_of_lt (blk_lt (g := gb114) (o := .cells #[.bool t110, .string t111, .int .i64 t112] 65 (0, 0)) (by (with_reducible repeat (first | refine blk_drewN ?_ _ | refine blk_drew ?_ | refine blk_alloc ?_ _)); exact BK114.out)) : gb114 ≠ gb120)); have n6_ := Aside0.mk ((by rw [hg]; exact Nat.ne_of_gt (blk_lt (g := gb114) (o := .cells #[.bool t110, .string t111, .int .i64 t112] 65 (0, 0)) (by (with_reducible repeat (first | refine blk_drewN ?_ _ | refine blk_drew ?_ | refine blk_alloc ?_ _)); exact BK114.out)) : gb120 ≠ gb114)); clear BK114; clear HB; have BK114 := n0_; have HB := n1_; have BK120 := n2_; have GW120 := n3_; have GE120 := n4_; have NB114_120 := n5_; have NB120_114 := n6_; clear n0_ n1_ n2_ n3_ n4_ n5_ n6_; clear hb hbox hg; have hnb33 := NB120_114.out; have hnc33 := NB114_120.out; have hcz34_0 : w32.cell? ⟨gb120, 0, none⟩ = some (.bool false) := (blk_cell BK120.out 0).trans rfl; have hcz34_1 : w32.cell? ⟨gb120, 1, none⟩ = some (.string (⟨#[]⟩ : ByteArray)) := (blk_cell BK120.out 1).trans rfl; have hcz34_2 : w32.cell? ⟨gb120, 2, none⟩ = some (.int .i64 0) := (blk_cell BK120.out 2).trans rfl; have hfz34_0 := blk_frozen BK120.out 0; have hfz34_1 := blk_frozen BK120.out 1; have hfz34_2 := blk_frozen BK120.out 2) | (go_at_call 9; (with_reducible refine (whole_Text_int64.calls t106 t121 _ A16.out).mono ?_); rintro e w35 ⟨rfl, hb⟩; have n0_ := Aside0.mk (blk_below (g := gb114) (o := .cells #[.bool t110, .string t111, .int .i64 t112] 65 (0, 0)) (by (with_reducible repeat (first | refine blk_drewN ?_ _ | refine blk_drew ?_ | refine blk_alloc ?_ _)); refine blk_far ?_ NB114_120.out _; (with_reducible repeat (first | refine blk_drewN ?_ _ | refine blk_drew ?_ | refine blk_alloc ?_ _)); refine blk_far ?_ NB114_120.out _; (with_reducible repeat (first | refine blk_drewN ?_ _ | refine blk_drew ?_ | refine blk_alloc ?_ _)); refine blk_far ?_ NB114_120.out _; (with_reducible repeat (first | refine blk_drewN ?_ _ | refine blk_drew ?_ | refine blk_alloc ?_ _)); exact BK114.out) hb); have n1_ := Aside0.mk (blk_below (g := gb120) (o := .cells #[.bool t116, .string t117, .int .i64 t118] 65 (0, 0)) (by (with_reducible repeat (first | refine blk_drewN ?_ _ | refine blk_drew ?_ | refine blk_alloc ?_ _)); refine blk_put (cs := #[.bool t116, .string t117, .int .i64 0]) ?_ 2 _ rfl; (with_reducible repeat (first | refine blk_drewN ?_ _ | refine blk_drew ?_ | refine blk_alloc ?_ _)); refine blk_put (cs := #[.bool t116, .string (⟨#[]⟩ : ByteArray), .int .i64 0]) ?_ 1 _ rfl; (with_reducible repeat (first | refine blk_drewN ?_ _ | refine blk_drew ?_ | refine blk_alloc ?_ _)); refine blk_put (cs := #[.bool false, .string (⟨#[]⟩ : ByteArray), .int .i64 0]) ?_ 0 _ rfl; (with_reducible repeat (first | refine blk_drewN ?_ _ | refine blk_drew ?_ | refine blk_alloc ?_ _)); exact BK120.out) hb); have n2_ := Aside0.mk (below_step (by repeat (first | (with_reducible first | exact HB.out | apply below_alloc | apply pw_below_drewN | apply below_drew1 | refine below_set ?_ GE114.out | refine below_set ?_ GE120.out) | exact HB.out)) hb); clear BK114; clear BK120; clear HB; have BK114 := n0_; have BK120 := n1_; have HB := n2_; clear n0_ n1_ n2_; (try clear hb); (try clear hb2); (try clear hk); (try clear hi); have hcz36_0 : w35.cell? ⟨gb114, 0, none⟩ = some (.bool t110) := (blk_cell BK114.out 0).trans rfl; have hcz36_1 : w35.cell? ⟨gb114, 1, none⟩ = some (.string t111) := (blk_cell BK114.out 1).trans rfl; have hcz36_2 : w35.cell? ⟨gb114, 2, none⟩ = some (.int .i64 t112) := (blk_cell BK114.out 2).trans rfl; have hfz36_0 := blk_frozen BK114.out 0; have hfz36_1 := blk_frozen BK114.out 1; have hfz36_2 := blk_frozen BK114.out 2) | (go_at_call 33; (with_reducible refine (decimal_Whole.calls k t110 t111 t112 true _ A18.out).mono ?_); rintro e w37 ⟨rfl, hb⟩; have n0_ := Aside0.mk (blk_below (g := gb114) (o := .cells #[.bool t110, .string t111, .int .i64 t112] 65 (0, 0)) (by (with_reducible repeat (first | refine blk_drewN ?_ _ | refine blk_drew ?_ | refine blk_alloc ?_ _)); exact BK114.out) hb); have n1_ := Aside0.mk (blk_below (g := gb120) (o := .cells #[.bool t116, .string t117, .int .i64 t118] 65 (0, 0)) (by (with_reducible repeat (first | refine blk_drewN ?_ _ | refine blk_drew ?_ | refine blk_alloc ?_ _)); exact BK120.out) hb); have n2_ := Aside0.mk (below_step (by repeat (first | (with_reducible first | exact HB.out | apply below_alloc | apply pw_below_drewN | apply below_drew1 | refine below_set ?_ GE114.out | refine below_set ?_ GE120.out) | exact HB.out)) hb); clear BK114; clear BK120; clear HB; have BK114 := n0_; have BK120 := n1_; have HB := n2_; clear n0_ n1_ n2_; (try clear hb); (try clear hb2); (try clear hk); (try clear hi); have hcz38_0 : w37.cell? ⟨gb114, 0, none⟩ = some (.bool t110) := (blk_cell BK114.out 0).trans rfl; have hcz38_1 : w37.cell? ⟨gb114, 1, none⟩ = some (.string t111) := (blk_cell BK114.out 1).trans rfl; have hcz38_2 : w37.cell? ⟨gb114, 2, none⟩ = some (.int .i64 t112) := (blk_cell BK114.out 2).trans rfl; have hfz38_0 := blk_frozen BK114.out 0; have hfz38_1 := blk_frozen BK114.out 1; have hfz38_2 := blk_frozen BK114.out 2; have hcz39_0 : w37.cell? ⟨gb120, 0, none⟩ = some (.bool t116) := (blk_cell BK120.out 0).trans rfl; have hcz39_1 : w37.cell? ⟨gb120, 1, none⟩ = some (.string t117) := (blk_cell BK120.out 1).trans rfl; have hcz39_2 : w37.cell? ⟨gb120, 2, none⟩ = some (.int .i64 t118) := (blk_cell BK120.out 2).trans rfl; have hfz39_0 := blk_frozen BK120.out 0; have hfz39_1 := blk_frozen BK120.out 1; have hfz39_2 := blk_frozen BK120.out 2))
                  go_meet
                  case rel => exact ⟨_, H', ⟨by first | omega | exact Nat.le_refl _⟩, ⟨by (with_reducible repeat (first | refine blk_drewN ?_ _ | refine blk_drew ?_ | refine blk_alloc ?_ _)); exact BK114.out⟩, ⟨by repeat (first | (with_reducible first | exact HB.out | apply below_alloc | apply pw_below_drewN | apply below_drew1 | refine below_set ?_ GE114.out | refine below_set ?_ GE120.out) | exact HB.out)⟩⟩
            · replace c19 := Bool.eq_false_iff.mpr c19
              subst c19
              have H1 : (none) = some r := by rw [if_neg (show ¬ (false = true) by decide)] at H; exact H
              clear H
              have H := H1
              clear H1
              exact absurd H (by simp)
          · rw [if_neg c17] at H
            have c17b0 : (a0.toList == t121.toList) = false := beq_eq_false_iff_ne.mpr c17
            have c17b1 : (a0.toList != t121.toList) = true := bne_iff_ne.mpr c17
            by_cases c40 : a0.toList = ([45, 48] : List UInt8)
            · rw [if_pos c40] at H
              have c40b0 : (a0.toList == ([45, 48] : List UInt8)) = true := beq_iff_eq.mpr c40
              have c40b1 : (a0.toList != ([45, 48] : List UInt8)) = false := bne_eq_false_iff_eq.mpr c40
              clear c40
              replace H := Option.bind_eq_some_iff.mp H
              obtain ⟨t123, A410, H⟩ := H
              replace H : (if t123 = true then (quarrylaw12_WholeOnce.j0 k a0 t107 t108 t109 t113 t110 t111 t112) else (none)) = some r := H
              have A41 := Aside0.mk A410
              clear A410
              by_cases c42 : t123 = true
              · subst c42
                have H1 : (quarrylaw12_WholeOnce.j0 k a0 t107 t108 t109 t113 t110 t111 t112) = some r := by rw [if_pos rfl] at H; exact H
                clear H
                have H := H1
                clear H1
                have H' := Aside0.mk H
                clear H
                go_wp2_with (first | ((with_reducible refine gate_callee (f := 9) rfl ?_); refine goesL_ (some 32) rfl rfl Tryd.func9 (by kernel_rfl) rfl #[.int .i64 t106] rfl (by (try simp only [List.map_toArray, List.map_cons, List.map_nil]); first | done | rfl | (simp only [List.length_drop, List.length_take]; rfl)) ?_; (with_reducible refine (whole_Text_int64.calls t106 t115 _ A12.out).mono ?_); rintro e w43 ⟨rfl, hb⟩; refine ⟨_, rfl, ?_⟩; have n0_ := Aside0.mk (blk_below (g := gb114) (o := .cells #[.bool t110, .string t111, .int .i64 t112] 65 (0, 0)) (by (with_reducible repeat (first | refine blk_drewN ?_ _ | refine blk_drew ?_ | refine blk_alloc ?_ _)); refine blk_put (cs := #[.bool t110, .string t111, .int .i64 0]) ?_ 2 _ rfl; (with_reducible repeat (first | refine blk_drewN ?_ _ | refine blk_drew ?_ | refine blk_alloc ?_ _)); refine blk_put (cs := #[.bool t110, .string (⟨#[]⟩ : ByteArray), .int .i64 0]) ?_ 1 _ rfl; (with_reducible repeat (first | refine blk_drewN ?_ _ | refine blk_drew ?_ | refine blk_alloc ?_ _)); refine blk_put (cs := #[.bool false, .string (⟨#[]⟩ : ByteArray), .int .i64 0]) ?_ 0 _ rfl; (with_reducible repeat (first | refine blk_drewN ?_ _ | refine blk_drew ?_ | refine blk_alloc ?_ _)); exact BK114.out) hb); have n1_ := Aside0.mk (below_step (by repeat (first | (with_reducible first | exact HB.out | apply below_alloc | apply pw_below_drewN | apply below_drew1 | refine below_set ?_ GE114.out) | exact HB.out)) hb); clear BK114; clear HB; have BK114 := n0_; have HB := n1_; clear n0_ n1_; (try clear hb); (try clear hb2); (try clear hk); (try clear hi)) | ((with_reducible refine gate_callee (f := 32) rfl ?_); refine goesL_ (some 33) rfl rfl Tryd.func32 (by kernel_rfl) rfl #[.string t115] rfl (by (try simp only [List.map_toArray, List.map_cons, List.map_nil]); first | done | rfl | (simp only [List.length_drop, List.length_take]; rfl)) ?_; (with_reducible refine (decimal_Of.calls t115 t116 t117 t118 t119 _ A13.out).mono ?_); rintro e w44 ⟨rfl, hb⟩; refine ⟨_, rfl, ?_⟩; have n0_ := Aside0.mk (blk_below (g := gb114) (o := .cells #[.bool t110, .string t111, .int .i64 t112] 65 (0, 0)) (by (with_reducible repeat (first | refine blk_drewN ?_ _ | refine blk_drew ?_ | refine blk_alloc ?_ _)); exact BK114.out) hb); have n1_ := Aside0.mk (below_step (by repeat (first | (with_reducible first | exact HB.out | apply below_alloc | apply pw_below_drewN | apply below_drew1 | refine below_set ?_ GE114.out) | exact HB.out)) hb); clear BK114; clear HB; have BK114 := n0_; have HB := n1_; clear n0_ n1_; (try clear hb); (try clear hb2); (try clear hk); (try clear hi)) | ((with_reducible refine gate_dst (N := 9) rfl ?_); refine box_event ?hg (N := 9) ?hd (cs := #[.bool false, .string (⟨#[]⟩ : ByteArray), .int .i64 0]) (t := 65) ?hr ?_; (case hd => rfl); (case hg => rfl); (case hr => first | (go_simp; done) | (go_simp; rfl)); intro gb120 hg w45 hbox hb; have n0_ := Aside0.mk (blk_below (g := gb114) (o := .cells #[.bool t110, .string t111, .int .i64 t112] 65 (0, 0)) (by (with_reducible repeat (first | refine blk_drewN ?_ _ | refine blk_drew ?_ | refine blk_alloc ?_ _)); exact BK114.out) hb); have n1_ := Aside0.mk (below_step (by repeat (first | (with_reducible first | exact HB.out | apply below_alloc | apply pw_below_drewN | apply below_drew1 | refine below_set ?_ GE114.out) | exact HB.out)) hb); have n2_ := Aside0.mk (hbox); have n3_ := Aside0.mk ((by rw [hg]; exact (below_size (by repeat (first | (with_reducible first | exact HB.out | apply below_alloc | apply pw_below_drewN | apply below_drew1 | refine below_set ?_ GE114.out) | exact HB.out))) : w.heap.size ≤ gb120)); have n4_ := Aside0.mk ((by rw [hg]; exact (below_size (by repeat (first | (with_reducible first | exact HB.out | apply below_alloc | apply pw_below_drewN | apply below_drew1 | refine below_set ?_ GE114.out) | exact HB.out))) : w.heap.size ≤ gb120)); have n5_ := Aside0.mk ((by rw [hg]; exact Nat.ne_of_lt (blk_lt (g := gb114) (o := .cells #[.bool t110, .string t111, .int .i64 t112] 65 (0, 0)) (by (with_reducible repeat (first | refine blk_drewN ?_ _ | refine blk_drew ?_ | refine blk_alloc ?_ _)); exact BK114.out)) : gb114 ≠ gb120)); have n6_ := Aside0.mk ((by rw [hg]; exact Nat.ne_of_gt (blk_lt (g := gb114) (o := .cells #[.bool t110, .string t111, .int .i64 t112] 65 (0, 0)) (by (with_reducible repeat (first | refine blk_drewN ?_ _ | refine blk_drew ?_ | refine blk_alloc ?_ _)); exact BK114.out)) : gb120 ≠ gb114)); clear BK114; clear HB; have BK114 := n0_; have HB := n1_; have BK120 := n2_; have GW120 := n3_; have GE120 := n4_; have NB114_120 := n5_; have NB120_114 := n6_; clear n0_ n1_ n2_ n3_ n4_ n5_ n6_; clear hb hbox hg; have hnb46 := NB120_114.out; have hnc46 := NB114_120.out; have hcz47_0 : w45.cell? ⟨gb120, 0, none⟩ = some (.bool false) := (blk_cell BK120.out 0).trans rfl; have hcz47_1 : w45.cell? ⟨gb120, 1, none⟩ = some (.string (⟨#[]⟩ : ByteArray)) := (blk_cell BK120.out 1).trans rfl; have hcz47_2 : w45.cell? ⟨gb120, 2, none⟩ = some (.int .i64 0) := (blk_cell BK120.out 2).trans rfl; have hfz47_0 := blk_frozen BK120.out 0; have hfz47_1 := blk_frozen BK120.out 1; have hfz47_2 := blk_frozen BK120.out 2) | (go_at_call 9; (with_reducible refine (whole_Text_int64.calls t106 t121 _ A16.out).mono ?_); rintro e w48 ⟨rfl, hb⟩; have n0_ := Aside0.mk (blk_below (g := gb114) (o := .cells #[.bool t110, .string t111, .int .i64 t112] 65 (0, 0)) (by (with_reducible repeat (first | refine blk_drewN ?_ _ | refine blk_drew ?_ | refine blk_alloc ?_ _)); refine blk_far ?_ NB114_120.out _; (with_reducible repeat (first | refine blk_drewN ?_ _ | refine blk_drew ?_ | refine blk_alloc ?_ _)); refine blk_far ?_ NB114_120.out _; (with_reducible repeat (first | refine blk_drewN ?_ _ | refine blk_drew ?_ | refine blk_alloc ?_ _)); refine blk_far ?_ NB114_120.out _; (with_reducible repeat (first | refine blk_drewN ?_ _ | refine blk_drew ?_ | refine blk_alloc ?_ _)); exact BK114.out) hb); have n1_ := Aside0.mk (blk_below (g := gb120) (o := .cells #[.bool t116, .string t117, .int .i64 t118] 65 (0, 0)) (by (with_reducible repeat (first | refine blk_drewN ?_ _ | refine blk_drew ?_ | refine blk_alloc ?_ _)); refine blk_put (cs := #[.bool t116, .string t117, .int .i64 0]) ?_ 2 _ rfl; (with_reducible repeat (first | refine blk_drewN ?_ _ | refine blk_drew ?_ | refine blk_alloc ?_ _)); refine blk_put (cs := #[.bool t116, .string (⟨#[]⟩ : ByteArray), .int .i64 0]) ?_ 1 _ rfl; (with_reducible repeat (first | refine blk_drewN ?_ _ | refine blk_drew ?_ | refine blk_alloc ?_ _)); refine blk_put (cs := #[.bool false, .string (⟨#[]⟩ : ByteArray), .int .i64 0]) ?_ 0 _ rfl; (with_reducible repeat (first | refine blk_drewN ?_ _ | refine blk_drew ?_ | refine blk_alloc ?_ _)); exact BK120.out) hb); have n2_ := Aside0.mk (below_step (by repeat (first | (with_reducible first | exact HB.out | apply below_alloc | apply pw_below_drewN | apply below_drew1 | refine below_set ?_ GE114.out | refine below_set ?_ GE120.out) | exact HB.out)) hb); clear BK114; clear BK120; clear HB; have BK114 := n0_; have BK120 := n1_; have HB := n2_; clear n0_ n1_ n2_; (try clear hb); (try clear hb2); (try clear hk); (try clear hi); have hcz49_0 : w48.cell? ⟨gb114, 0, none⟩ = some (.bool t110) := (blk_cell BK114.out 0).trans rfl; have hcz49_1 : w48.cell? ⟨gb114, 1, none⟩ = some (.string t111) := (blk_cell BK114.out 1).trans rfl; have hcz49_2 : w48.cell? ⟨gb114, 2, none⟩ = some (.int .i64 t112) := (blk_cell BK114.out 2).trans rfl; have hfz49_0 := blk_frozen BK114.out 0; have hfz49_1 := blk_frozen BK114.out 1; have hfz49_2 := blk_frozen BK114.out 2) | (go_at_call 33; (with_reducible refine (decimal_Whole.calls k t110 t111 t112 true _ A41.out).mono ?_); rintro e w50 ⟨rfl, hb⟩; have n0_ := Aside0.mk (blk_below (g := gb114) (o := .cells #[.bool t110, .string t111, .int .i64 t112] 65 (0, 0)) (by (with_reducible repeat (first | refine blk_drewN ?_ _ | refine blk_drew ?_ | refine blk_alloc ?_ _)); exact BK114.out) hb); have n1_ := Aside0.mk (blk_below (g := gb120) (o := .cells #[.bool t116, .string t117, .int .i64 t118] 65 (0, 0)) (by (with_reducible repeat (first | refine blk_drewN ?_ _ | refine blk_drew ?_ | refine blk_alloc ?_ _)); exact BK120.out) hb); have n2_ := Aside0.mk (below_step (by repeat (first | (with_reducible first | exact HB.out | apply below_alloc | apply pw_below_drewN | apply below_drew1 | refine below_set ?_ GE114.out | refine below_set ?_ GE120.out) | exact HB.out)) hb); clear BK114; clear BK120; clear HB; have BK114 := n0_; have BK120 := n1_; have HB := n2_; clear n0_ n1_ n2_; (try clear hb); (try clear hb2); (try clear hk); (try clear hi)))
                go_meet
                case rel => exact ⟨_, H', ⟨by first | omega | exact Nat.le_refl _⟩, ⟨by (with_reducible repeat (first | refine blk_drewN ?_ _ | refine blk_drew ?_ | refine blk_alloc ?_ _)); exact BK114.out⟩, ⟨by repeat (first | (with_reducible first | exact HB.out | apply below_alloc | apply pw_below_drewN | apply below_drew1 | refine below_set ?_ GE114.out | refine below_set ?_ GE120.out) | exact HB.out)⟩⟩
              · replace c42 := Bool.eq_false_iff.mpr c42
                subst c42
                have H1 : (none) = some r := by rw [if_neg (show ¬ (false = true) by decide)] at H; exact H
                clear H
                have H := H1
                clear H1
                exact absurd H (by simp)
            · rw [if_neg c40] at H
              exact absurd H (by simp)
        · rw [if_neg c15] at H
          exact absurd H (by simp)
      · rw [if_neg c14] at H
        exact absurd H (by simp)
    · rw [if_neg c11] at H
      have c11b0 : (t107 == 0) = false := beq_eq_false_iff_ne.mpr c11
      have c11b1 : (t107 != 0) = true := bne_iff_ne.mpr c11
      (first | rw [c11b0] | (simp only [i64_w, i32_w]; rw [c11b0]) | skip)
      have H' := Aside0.mk H
      clear H
      go_wp2
      go_meet
      case rel => exact ⟨_, H', ⟨by first | omega | exact Nat.le_refl _⟩, ⟨by (with_reducible repeat (first | refine blk_drewN ?_ _ | refine blk_drew ?_ | refine blk_alloc ?_ _)); refine blk_put (cs := #[.bool t110, .string t111, .int .i64 0]) ?_ 2 _ rfl; (with_reducible repeat (first | refine blk_drewN ?_ _ | refine blk_drew ?_ | refine blk_alloc ?_ _)); refine blk_put (cs := #[.bool t110, .string (⟨#[]⟩ : ByteArray), .int .i64 0]) ?_ 1 _ rfl; (with_reducible repeat (first | refine blk_drewN ?_ _ | refine blk_drew ?_ | refine blk_alloc ?_ _)); refine blk_put (cs := #[.bool false, .string (⟨#[]⟩ : ByteArray), .int .i64 0]) ?_ 0 _ rfl; (with_reducible repeat (first | refine blk_drewN ?_ _ | refine blk_drew ?_ | refine blk_alloc ?_ _)); exact BK114.out⟩, ⟨by repeat (first | (with_reducible first | exact HB.out | apply below_alloc | apply pw_below_drewN | apply below_drew1 | refine below_set ?_ GE114.out) | exact HB.out)⟩⟩
  case rest => as_aux_lemma =>
    clear HC5
    try clear c1
    try clear c2
    try clear p2
    try clear c3
    try clear c4
    try clear c6
    try clear c9
    try clear c11
    try clear c11b0
    try clear c11b1
    try clear c14
    try clear c14b0
    try clear c14b1
    try clear c15
    try clear c15b0
    try clear c15b1
    try clear c17
    try clear c17b0
    try clear c17b1
    try clear c19
    try clear c20
    try clear c20b0
    try clear c20b1
    try clear c24
    try clear c26
    try clear c29
    try clear c29b0
    try clear c30
    try clear c32
    try clear c33
    try clear c40
    try clear c40b0
    try clear c40b1
    try clear c42
    try clear c46
    try clear hcz10_0
    try clear hcz10_1
    try clear hcz10_2
    try clear hcz25_0
    try clear hcz25_1
    try clear hcz25_2
    try clear hcz27_0
    try clear hcz27_1
    try clear hcz27_2
    try clear hcz34_0
    try clear hcz34_1
    try clear hcz34_2
    try clear hcz36_0
    try clear hcz36_1
    try clear hcz36_2
    try clear hcz38_0
    try clear hcz38_1
    try clear hcz38_2
    try clear hcz39_0
    try clear hcz39_1
    try clear hcz39_2
    try clear hcz47_0
    try clear hcz47_1
    try clear hcz47_2
    try clear hcz49_0
    try clear hcz49_1
    try clear hcz49_2
    try clear hfz10_0
    try clear hfz10_1
    try clear hfz10_2
    try clear hfz25_0
    try clear hfz25_1
    try clear hfz25_2
    try clear hfz27_0
    try clear hfz27_1
    try clear hfz27_2
    try clear hfz34_0
    try clear hfz34_1
    try clear hfz34_2
    try clear hfz36_0
    try clear hfz36_1
    try clear hfz36_2
    try clear hfz38_0
    try clear hfz38_1
    try clear hfz38_2
    try clear hfz39_0
    try clear hfz39_1
    try clear hfz39_2
    try clear hfz47_0
    try clear hfz47_1
    try clear hfz47_2
    try clear hfz49_0
    try clear hfz49_1
    try clear hfz49_2
    obtain ⟨kq, HA, HJ4, BK114, HB⟩ := hcut
    cases kq with
    | zero => exact absurd HA.out (by simp [quarrylaw12_WholeOnce.j0])
    | succ kj4 =>
      have H := HA.out
      clear HA
      simp only [quarrylaw12_WholeOnce.j0] at H
      by_cases c51 : t109 = 0
      · rw [if_pos c51] at H
        have c51b0 : (t109 == 0) = true := beq_iff_eq.mpr c51
        have c51b1 : (t109 != 0) = false := bne_eq_false_iff_eq.mpr c51
        clear c51
        replace H := Option.bind_eq_some_iff.mp H
        obtain ⟨t124, A520, H⟩ := H
        replace H : ((decimal_Of.f t124).bind fun bt125 => (if t113 = 0 then (if bt125.2.2.2 = 0 then ((whole_Text_uint64.f t108).bind fun t130 => (if a0.toList = t130.toList then ((decimal_Whole.f kj4 t110 t111 t112).bind fun t131 => (if t131 = true then (if a0.toList = ([45, 48] : List UInt8) then (quarrylaw12_WholeOnce.j1 kj4 t107 t109 t113 false) else (quarrylaw12_WholeOnce.j1 kj4 t107 t109 t113 (!(t110 == bt125.1) || (!(t111.toList == bt125.2.1.toList) || (!(t112 == bt125.2.2.1)))))) else (quarrylaw12_WholeOnce.j1 kj4 t107 t109 t113 true))) else (if a0.toList = ([45, 48] : List UInt8) then ((decimal_Whole.f kj4 t110 t111 t112).bind fun t132 => (if t132 = true then (quarrylaw12_WholeOnce.j1 kj4 t107 t109 t113 false) else (quarrylaw12_WholeOnce.j1 kj4 t107 t109 t113 true))) else (quarrylaw12_WholeOnce.j1 kj4 t107 t109 t113 true)))) else (quarrylaw12_WholeOnce.j1 kj4 t107 t109 t113 true)) else (quarrylaw12_WholeOnce.j1 kj4 t107 t109 t113 true))) = some r := H
        have A52 := Aside0.mk A520
        clear A520
        replace H := Option.bind_eq_some_iff.mp H
        obtain ⟨⟨t125, t126, t127, t128⟩, A530, H⟩ := H
        replace H : (if t113 = 0 then (if t128 = 0 then ((whole_Text_uint64.f t108).bind fun t130 => (if a0.toList = t130.toList then ((decimal_Whole.f kj4 t110 t111 t112).bind fun t131 => (if t131 = true then (if a0.toList = ([45, 48] : List UInt8) then (quarrylaw12_WholeOnce.j1 kj4 t107 t109 t113 false) else (quarrylaw12_WholeOnce.j1 kj4 t107 t109 t113 (!(t110 == t125) || (!(t111.toList == t126.toList) || (!(t112 == t127)))))) else (quarrylaw12_WholeOnce.j1 kj4 t107 t109 t113 true))) else (if a0.toList = ([45, 48] : List UInt8) then ((decimal_Whole.f kj4 t110 t111 t112).bind fun t132 => (if t132 = true then (quarrylaw12_WholeOnce.j1 kj4 t107 t109 t113 false) else (quarrylaw12_WholeOnce.j1 kj4 t107 t109 t113 true))) else (quarrylaw12_WholeOnce.j1 kj4 t107 t109 t113 true)))) else (quarrylaw12_WholeOnce.j1 kj4 t107 t109 t113 true)) else (quarrylaw12_WholeOnce.j1 kj4 t107 t109 t113 true)) = some r := H
        have A53 := Aside0.mk A530
        clear A530
        have HC54 := Aside0.mk H
        clear H
        go_upto_region 10 with (first | ((with_reducible refine gate_callee (f := 12) rfl ?_); refine goesL_ (some 70) rfl rfl Tryd.func12 (by kernel_rfl) rfl #[.int .u64 t108] rfl (by (try simp only [List.map_toArray, List.map_cons, List.map_nil]); first | done | rfl | (simp only [List.length_drop, List.length_take]; rfl)) ?_; (with_reducible refine (whole_Text_uint64.calls t108 t124 _ A52.out).mono ?_); rintro e w55 ⟨rfl, hb⟩; refine ⟨_, rfl, ?_⟩; have n0_ := Aside0.mk (blk_below (g := gb114) (o := .cells #[.bool t110, .string t111, .int .i64 t112] 65 (0, 0)) (by (with_reducible repeat (first | refine blk_drewN ?_ _ | refine blk_drew ?_ | refine blk_alloc ?_ _)); exact BK114.out) hb); have n1_ := Aside0.mk (below_step (by repeat (first | (with_reducible first | exact HB.out | apply below_alloc | apply pw_below_drewN | apply below_drew1 | refine below_set ?_ GE114.out) | exact HB.out)) hb); clear BK114; clear HB; have BK114 := n0_; have HB := n1_; clear n0_ n1_; (try clear hb); (try clear hb2); (try clear hk); (try clear hi)) | ((with_reducible refine gate_callee (f := 32) rfl ?_); refine goesL_ (some 71) rfl rfl Tryd.func32 (by kernel_rfl) rfl #[.string t124] rfl (by (try simp only [List.map_toArray, List.map_cons, List.map_nil]); first | done | rfl | (simp only [List.length_drop, List.length_take]; rfl)) ?_; (with_reducible refine (decimal_Of.calls t124 t125 t126 t127 t128 _ A53.out).mono ?_); rintro e w56 ⟨rfl, hb⟩; refine ⟨_, rfl, ?_⟩; have n0_ := Aside0.mk (blk_below (g := gb114) (o := .cells #[.bool t110, .string t111, .int .i64 t112] 65 (0, 0)) (by (with_reducible repeat (first | refine blk_drewN ?_ _ | refine blk_drew ?_ | refine blk_alloc ?_ _)); exact BK114.out) hb); have n1_ := Aside0.mk (below_step (by repeat (first | (with_reducible first | exact HB.out | apply below_alloc | apply pw_below_drewN | apply below_drew1 | refine below_set ?_ GE114.out) | exact HB.out)) hb); clear BK114; clear HB; have BK114 := n0_; have HB := n1_; clear n0_ n1_; (try clear hb); (try clear hb2); (try clear hk); (try clear hi)) | ((with_reducible refine gate_dst (N := 11) rfl ?_); refine box_event ?hg (N := 11) ?hd (cs := #[.bool false, .string (⟨#[]⟩ : ByteArray), .int .i64 0]) (t := 65) ?hr ?_; (case hd => rfl); (case hg => rfl); (case hr => first | (go_simp; done) | (go_simp; rfl)); intro gb129 hg w57 hbox hb; have n0_ := Aside0.mk (blk_below (g := gb114) (o := .cells #[.bool t110, .string t111, .int .i64 t112] 65 (0, 0)) (by (with_reducible repeat (first | refine blk_drewN ?_ _ | refine blk_drew ?_ | refine blk_alloc ?_ _)); exact BK114.out) hb); have n1_ := Aside0.mk (below_step (by repeat (first | (with_reducible first | exact HB.out | apply below_alloc | apply pw_below_drewN | apply below_drew1 | refine below_set ?_ GE114.out) | exact HB.out)) hb); have n2_ := Aside0.mk (hbox); have n3_ := Aside0.mk ((by rw [hg]; exact (below_size (by repeat (first | (with_reducible first | exact HB.out | apply below_alloc | apply pw_below_drewN | apply below_drew1 | refine below_set ?_ GE114.out) | exact HB.out))) : w.heap.size ≤ gb129)); have n4_ := Aside0.mk ((by rw [hg]; exact (below_size (by repeat (first | (with_reducible first | exact HB.out | apply below_alloc | apply pw_below_drewN | apply below_drew1 | refine below_set ?_ GE114.out) | exact HB.out))) : w.heap.size ≤ gb129)); have n5_ := Aside0.mk ((by rw [hg]; exact Nat.ne_of_lt (blk_lt (g := gb114) (o := .cells #[.bool t110, .string t111, .int .i64 t112] 65 (0, 0)) (by (with_reducible repeat (first | refine blk_drewN ?_ _ | refine blk_drew ?_ | refine blk_alloc ?_ _)); exact BK114.out)) : gb114 ≠ gb129)); have n6_ := Aside0.mk ((by rw [hg]; exact Nat.ne_of_gt (blk_lt (g := gb114) (o := .cells #[.bool t110, .string t111, .int .i64 t112] 65 (0, 0)) (by (with_reducible repeat (first | refine blk_drewN ?_ _ | refine blk_drew ?_ | refine blk_alloc ?_ _)); exact BK114.out)) : gb129 ≠ gb114)); clear BK114; clear HB; have BK114 := n0_; have HB := n1_; have BK129 := n2_; have GW129 := n3_; have GE129 := n4_; have NB114_129 := n5_; have NB129_114 := n6_; clear n0_ n1_ n2_ n3_ n4_ n5_ n6_; clear hb hbox hg; have hnb58 := NB129_114.out; have hnc58 := NB114_129.out; have hcz59_0 : w57.cell? ⟨gb129, 0, none⟩ = some (.bool false) := (blk_cell BK129.out 0).trans rfl; have hcz59_1 : w57.cell? ⟨gb129, 1, none⟩ = some (.string (⟨#[]⟩ : ByteArray)) := (blk_cell BK129.out 1).trans rfl; have hcz59_2 : w57.cell? ⟨gb129, 2, none⟩ = some (.int .i64 0) := (blk_cell BK129.out 2).trans rfl; have hfz59_0 := blk_frozen BK129.out 0; have hfz59_1 := blk_frozen BK129.out 1; have hfz59_2 := blk_frozen BK129.out 2))
        (try simp only [Act.put, List.setIfInBounds_toArray, List.set_cons_zero, List.set_cons_succ])
        go_cut [103] (fun v103 wc => ∃ (kq : Nat) (x103_53 : Bool), v103 = .bool x103_53 ∧ Aside0 (quarrylaw12_WholeOnce.j1 kq t107 t109 t113 x103_53 = some r) ∧ Aside0 (kq ≤ kj4) ∧ Aside0 (wc.heap[gb114]? = some (.cells #[.bool t110, .string t111, .int .i64 t112] 65 (0, 0))) ∧ Aside0 (wc.heap[gb129]? = some (.cells #[.bool t125, .string t126, .int .i64 t127] 65 (0, 0))) ∧ Aside0 (Below w.heap.size w wc))
        case first => as_aux_lemma =>
          have H := HC54.out
          clear HC54
          by_cases c60 : t113 = 0
          · rw [if_pos c60] at H
            have c60b0 : (t113 == 0) = true := beq_iff_eq.mpr c60
            have c60b1 : (t113 != 0) = false := bne_eq_false_iff_eq.mpr c60
            clear c60
            (first | rw [c60b0] | (simp only [i64_w, i32_w]; rw [c60b0]) | skip)
            by_cases c61 : t128 = 0
            · rw [if_pos c61] at H
              have c61b0 : (t128 == 0) = true := beq_iff_eq.mpr c61
              have c61b1 : (t128 != 0) = false := bne_eq_false_iff_eq.mpr c61
              clear c61
              replace H := Option.bind_eq_some_iff.mp H
              obtain ⟨t130, A620, H⟩ := H
              replace H : (if a0.toList = t130.toList then ((decimal_Whole.f kj4 t110 t111 t112).bind fun t131 => (if t131 = true then (if a0.toList = ([45, 48] : List UInt8) then (quarrylaw12_WholeOnce.j1 kj4 t107 t109 t113 false) else (quarrylaw12_WholeOnce.j1 kj4 t107 t109 t113 (!(t110 == t125) || (!(t111.toList == t126.toList) || (!(t112 == t127)))))) else (quarrylaw12_WholeOnce.j1 kj4 t107 t109 t113 true))) else (if a0.toList = ([45, 48] : List UInt8) then ((decimal_Whole.f kj4 t110 t111 t112).bind fun t132 => (if t132 = true then (quarrylaw12_WholeOnce.j1 kj4 t107 t109 t113 false) else (quarrylaw12_WholeOnce.j1 kj4 t107 t109 t113 true))) else (quarrylaw12_WholeOnce.j1 kj4 t107 t109 t113 true))) = some r := H
              have A62 := Aside0.mk A620
              clear A620
              by_cases c63 : a0.toList = t130.toList
              · rw [if_pos c63] at H
                have c63b0 : (a0.toList == t130.toList) = true := beq_iff_eq.mpr c63
                have c63b1 : (a0.toList != t130.toList) = false := bne_eq_false_iff_eq.mpr c63
                clear c63
                replace H := Option.bind_eq_some_iff.mp H
                obtain ⟨t131, A640, H⟩ := H
                replace H : (if t131 = true then (if a0.toList = ([45, 48] : List UInt8) then (quarrylaw12_WholeOnce.j1 kj4 t107 t109 t113 false) else (quarrylaw12_WholeOnce.j1 kj4 t107 t109 t113 (!(t110 == t125) || (!(t111.toList == t126.toList) || (!(t112 == t127)))))) else (quarrylaw12_WholeOnce.j1 kj4 t107 t109 t113 true)) = some r := H
                have A64 := Aside0.mk A640
                clear A640
                by_cases c65 : t131 = true
                · subst c65
                  have H1 : (if a0.toList = ([45, 48] : List UInt8) then (quarrylaw12_WholeOnce.j1 kj4 t107 t109 t113 false) else (quarrylaw12_WholeOnce.j1 kj4 t107 t109 t113 (!(t110 == t125) || (!(t111.toList == t126.toList) || (!(t112 == t127)))))) = some r := by rw [if_pos rfl] at H; exact H
                  clear H
                  have H := H1
                  clear H1
                  by_cases c66 : a0.toList = ([45, 48] : List UInt8)
                  · rw [if_pos c66] at H
                    have c66b0 : (a0.toList == ([45, 48] : List UInt8)) = true := beq_iff_eq.mpr c66
                    have c66b1 : (a0.toList != ([45, 48] : List UInt8)) = false := bne_eq_false_iff_eq.mpr c66
                    clear c66
                    have H' := Aside0.mk H
                    clear H
                    go_wp2_with (first | (go_at_call 12; (with_reducible refine (whole_Text_uint64.calls t108 t130 _ A62.out).mono ?_); rintro e w67 ⟨rfl, hb⟩; have n0_ := Aside0.mk (blk_below (g := gb114) (o := .cells #[.bool t110, .string t111, .int .i64 t112] 65 (0, 0)) (by (with_reducible repeat (first | refine blk_drewN ?_ _ | refine blk_drew ?_ | refine blk_alloc ?_ _)); refine blk_far ?_ NB114_129.out _; (with_reducible repeat (first | refine blk_drewN ?_ _ | refine blk_drew ?_ | refine blk_alloc ?_ _)); refine blk_far ?_ NB114_129.out _; (with_reducible repeat (first | refine blk_drewN ?_ _ | refine blk_drew ?_ | refine blk_alloc ?_ _)); refine blk_far ?_ NB114_129.out _; (with_reducible repeat (first | refine blk_drewN ?_ _ | refine blk_drew ?_ | refine blk_alloc ?_ _)); exact BK114.out) hb); have n1_ := Aside0.mk (blk_below (g := gb129) (o := .cells #[.bool t125, .string t126, .int .i64 t127] 65 (0, 0)) (by (with_reducible repeat (first | refine blk_drewN ?_ _ | refine blk_drew ?_ | refine blk_alloc ?_ _)); refine blk_put (cs := #[.bool t125, .string t126, .int .i64 0]) ?_ 2 _ rfl; (with_reducible repeat (first | refine blk_drewN ?_ _ | refine blk_drew ?_ | refine blk_alloc ?_ _)); refine blk_put (cs := #[.bool t125, .string (⟨#[]⟩ : ByteArray), .int .i64 0]) ?_ 1 _ rfl; (with_reducible repeat (first | refine blk_drewN ?_ _ | refine blk_drew ?_ | refine blk_alloc ?_ _)); refine blk_put (cs := #[.bool false, .string (⟨#[]⟩ : ByteArray), .int .i64 0]) ?_ 0 _ rfl; (with_reducible repeat (first | refine blk_drewN ?_ _ | refine blk_drew ?_ | refine blk_alloc ?_ _)); exact BK129.out) hb); have n2_ := Aside0.mk (below_step (by repeat (first | (with_reducible first | exact HB.out | apply below_alloc | apply pw_below_drewN | apply below_drew1 | refine below_set ?_ GE114.out | refine below_set ?_ GE129.out) | exact HB.out)) hb); clear BK114; clear BK129; clear HB; have BK114 := n0_; have BK129 := n1_; have HB := n2_; clear n0_ n1_ n2_; (try clear hb); (try clear hb2); (try clear hk); (try clear hi); have hnb68 := NB114_129.out; have hnc68 := NB129_114.out; have hcz69_0 : w67.cell? ⟨gb114, 0, none⟩ = some (.bool t110) := (blk_cell BK114.out 0).trans rfl; have hcz69_1 : w67.cell? ⟨gb114, 1, none⟩ = some (.string t111) := (blk_cell BK114.out 1).trans rfl; have hcz69_2 : w67.cell? ⟨gb114, 2, none⟩ = some (.int .i64 t112) := (blk_cell BK114.out 2).trans rfl; have hfz69_0 := blk_frozen BK114.out 0; have hfz69_1 := blk_frozen BK114.out 1; have hfz69_2 := blk_frozen BK114.out 2) | (go_at_call 33; (with_reducible refine (decimal_Whole.calls kj4 t110 t111 t112 true _ A64.out).mono ?_); rintro e w70 ⟨rfl, hb⟩; have n0_ := Aside0.mk (blk_below (g := gb114) (o := .cells #[.bool t110, .string t111, .int .i64 t112] 65 (0, 0)) (by (with_reducible repeat (first | refine blk_drewN ?_ _ | refine blk_drew ?_ | refine blk_alloc ?_ _)); exact BK114.out) hb); have n1_ := Aside0.mk (blk_below (g := gb129) (o := .cells #[.bool t125, .string t126, .int .i64 t127] 65 (0, 0)) (by (with_reducible repeat (first | refine blk_drewN ?_ _ | refine blk_drew ?_ | refine blk_alloc ?_ _)); exact BK129.out) hb); have n2_ := Aside0.mk (below_step (by repeat (first | (with_reducible first | exact HB.out | apply below_alloc | apply pw_below_drewN | apply below_drew1 | refine below_set ?_ GE114.out | refine below_set ?_ GE129.out) | exact HB.out)) hb); clear BK114; clear BK129; clear HB; have BK114 := n0_; have BK129 := n1_; have HB := n2_; clear n0_ n1_ n2_; (try clear hb); (try clear hb2); (try clear hk); (try clear hi)))
                    go_meet
                    case rel => exact ⟨_, (false), (by first | rfl | (simp; done) | (simp [*]; done)), H', ⟨by have := HJ4.out; first | omega | exact Nat.le_refl _⟩, ⟨by (with_reducible repeat (first | refine blk_drewN ?_ _ | refine blk_drew ?_ | refine blk_alloc ?_ _)); exact BK114.out⟩, ⟨by (with_reducible repeat (first | refine blk_drewN ?_ _ | refine blk_drew ?_ | refine blk_alloc ?_ _)); exact BK129.out⟩, ⟨by repeat (first | (with_reducible first | exact HB.out | apply below_alloc | apply pw_below_drewN | apply below_drew1 | refine below_set ?_ GE114.out | refine below_set ?_ GE129.out) | exact HB.out)⟩⟩
                  · rw [if_neg c66] at H
                    have c66b0 : (a0.toList == ([45, 48] : List UInt8)) = false := beq_eq_false_iff_ne.mpr c66
                    have c66b1 : (a0.toList != ([45, 48] : List UInt8)) = true := bne_iff_ne.mpr c66
                    have H' := Aside0.mk H
                    clear H
                    go_wp2_with (first | (go_at_call 12; (with_reducible refine (whole_Text_uint64.calls t108 t130 _ A62.out).mono ?_); rintro e w71 ⟨rfl, hb⟩; have n0_ := Aside0.mk (blk_below (g := gb114) (o := .cells #[.bool t110, .string t111, .int .i64 t112] 65 (0, 0)) (by (with_reducible repeat (first | refine blk_drewN ?_ _ | refine blk_drew ?_ | refine blk_alloc ?_ _)); refine blk_far ?_ NB114_129.out _; (with_reducible repeat (first | refine blk_drewN ?_ _ | refine blk_drew ?_ | refine blk_alloc ?_ _)); refine blk_far ?_ NB114_129.out _; (with_reducible repeat (first | refine blk_drewN ?_ _ | refine blk_drew ?_ | refine blk_alloc ?_ _)); refine blk_far ?_ NB114_129.out _; (with_reducible repeat (first | refine blk_drewN ?_ _ | refine blk_drew ?_ | refine blk_alloc ?_ _)); exact BK114.out) hb); have n1_ := Aside0.mk (blk_below (g := gb129) (o := .cells #[.bool t125, .string t126, .int .i64 t127] 65 (0, 0)) (by (with_reducible repeat (first | refine blk_drewN ?_ _ | refine blk_drew ?_ | refine blk_alloc ?_ _)); refine blk_put (cs := #[.bool t125, .string t126, .int .i64 0]) ?_ 2 _ rfl; (with_reducible repeat (first | refine blk_drewN ?_ _ | refine blk_drew ?_ | refine blk_alloc ?_ _)); refine blk_put (cs := #[.bool t125, .string (⟨#[]⟩ : ByteArray), .int .i64 0]) ?_ 1 _ rfl; (with_reducible repeat (first | refine blk_drewN ?_ _ | refine blk_drew ?_ | refine blk_alloc ?_ _)); refine blk_put (cs := #[.bool false, .string (⟨#[]⟩ : ByteArray), .int .i64 0]) ?_ 0 _ rfl; (with_reducible repeat (first | refine blk_drewN ?_ _ | refine blk_drew ?_ | refine blk_alloc ?_ _)); exact BK129.out) hb); have n2_ := Aside0.mk (below_step (by repeat (first | (with_reducible first | exact HB.out | apply below_alloc | apply pw_below_drewN | apply below_drew1 | refine below_set ?_ GE114.out | refine below_set ?_ GE129.out) | exact HB.out)) hb); clear BK114; clear BK129; clear HB; have BK114 := n0_; have BK129 := n1_; have HB := n2_; clear n0_ n1_ n2_; (try clear hb); (try clear hb2); (try clear hk); (try clear hi); have hnb72 := NB114_129.out; have hnc72 := NB129_114.out; have hcz73_0 : w71.cell? ⟨gb114, 0, none⟩ = some (.bool t110) := (blk_cell BK114.out 0).trans rfl; have hcz73_1 : w71.cell? ⟨gb114, 1, none⟩ = some (.string t111) := (blk_cell BK114.out 1).trans rfl; have hcz73_2 : w71.cell? ⟨gb114, 2, none⟩ = some (.int .i64 t112) := (blk_cell BK114.out 2).trans rfl; have hfz73_0 := blk_frozen BK114.out 0; have hfz73_1 := blk_frozen BK114.out 1; have hfz73_2 := blk_frozen BK114.out 2) | (go_at_call 33; (with_reducible refine (decimal_Whole.calls kj4 t110 t111 t112 true _ A64.out).mono ?_); rintro e w74 ⟨rfl, hb⟩; have n0_ := Aside0.mk (blk_below (g := gb114) (o := .cells #[.bool t110, .string t111, .int .i64 t112] 65 (0, 0)) (by (with_reducible repeat (first | refine blk_drewN ?_ _ | refine blk_drew ?_ | refine blk_alloc ?_ _)); exact BK114.out) hb); have n1_ := Aside0.mk (blk_below (g := gb129) (o := .cells #[.bool t125, .string t126, .int .i64 t127] 65 (0, 0)) (by (with_reducible repeat (first | refine blk_drewN ?_ _ | refine blk_drew ?_ | refine blk_alloc ?_ _)); exact BK129.out) hb); have n2_ := Aside0.mk (below_step (by repeat (first | (with_reducible first | exact HB.out | apply below_alloc | apply pw_below_drewN | apply below_drew1 | refine below_set ?_ GE114.out | refine below_set ?_ GE129.out) | exact HB.out)) hb); clear BK114; clear BK129; clear HB; have BK114 := n0_; have BK129 := n1_; have HB := n2_; clear n0_ n1_ n2_; (try clear hb); (try clear hb2); (try clear hk); (try clear hi); have hcz75_0 : w74.cell? ⟨gb114, 0, none⟩ = some (.bool t110) := (blk_cell BK114.out 0).trans rfl; have hcz75_1 : w74.cell? ⟨gb114, 1, none⟩ = some (.string t111) := (blk_cell BK114.out 1).trans rfl; have hcz75_2 : w74.cell? ⟨gb114, 2, none⟩ = some (.int .i64 t112) := (blk_cell BK114.out 2).trans rfl; have hfz75_0 := blk_frozen BK114.out 0; have hfz75_1 := blk_frozen BK114.out 1; have hfz75_2 := blk_frozen BK114.out 2; have hcz76_0 : w74.cell? ⟨gb129, 0, none⟩ = some (.bool t125) := (blk_cell BK129.out 0).trans rfl; have hcz76_1 : w74.cell? ⟨gb129, 1, none⟩ = some (.string t126) := (blk_cell BK129.out 1).trans rfl; have hcz76_2 : w74.cell? ⟨gb129, 2, none⟩ = some (.int .i64 t127) := (blk_cell BK129.out 2).trans rfl; have hfz76_0 := blk_frozen BK129.out 0; have hfz76_1 := blk_frozen BK129.out 1; have hfz76_2 := blk_frozen BK129.out 2))
                    go_meet
                    case rel => exact ⟨_, ((!(t110 == t125) || (!(t111.toList == t126.toList) || (!(t112 == t127))))), (by first | rfl | (simp; done) | (simp [*]; done)), H', ⟨by have := HJ4.out; first | omega | exact Nat.le_refl _⟩, ⟨by (with_reducible repeat (first | refine blk_drewN ?_ _ | refine blk_drew ?_ | refine blk_alloc ?_ _)); exact BK114.out⟩, ⟨by (with_reducible repeat (first | refine blk_drewN ?_ _ | refine blk_drew ?_ | refine blk_alloc ?_ _)); exact BK129.out⟩, ⟨by repeat (first | (with_reducible first | exact HB.out | apply below_alloc | apply pw_below_drewN | apply below_drew1 | refine below_set ?_ GE114.out | refine below_set ?_ GE129.out) | exact HB.out)⟩⟩
                · replace c65 := Bool.eq_false_iff.mpr c65
                  subst c65
                  have H1 : (quarrylaw12_WholeOnce.j1 kj4 t107 t109 t113 true) = some r := by rw [if_neg (show ¬ (false = true) by decide)] at H; exact H
                  clear H
                  have H := H1
                  clear H1
                  have H' := Aside0.mk H
                  clear H
                  go_wp2_with (first | (go_at_call 12; (with_reducible refine (whole_Text_uint64.calls t108 t130 _ A62.out).mono ?_); rintro e w77 ⟨rfl, hb⟩; have n0_ := Aside0.mk (blk_below (g := gb114) (o := .cells #[.bool t110, .string t111, .int .i64 t112] 65 (0, 0)) (by (with_reducible repeat (first | refine blk_drewN ?_ _ | refine blk_drew ?_ | refine blk_alloc ?_ _)); refine blk_far ?_ NB114_129.out _; (with_reducible repeat (first | refine blk_drewN ?_ _ | refine blk_drew ?_ | refine blk_alloc ?_ _)); refine blk_far ?_ NB114_129.out _; (with_reducible repeat (first | refine blk_drewN ?_ _ | refine blk_drew ?_ | refine blk_alloc ?_ _)); refine blk_far ?_ NB114_129.out _; (with_reducible repeat (first | refine blk_drewN ?_ _ | refine blk_drew ?_ | refine blk_alloc ?_ _)); exact BK114.out) hb); have n1_ := Aside0.mk (blk_below (g := gb129) (o := .cells #[.bool t125, .string t126, .int .i64 t127] 65 (0, 0)) (by (with_reducible repeat (first | refine blk_drewN ?_ _ | refine blk_drew ?_ | refine blk_alloc ?_ _)); refine blk_put (cs := #[.bool t125, .string t126, .int .i64 0]) ?_ 2 _ rfl; (with_reducible repeat (first | refine blk_drewN ?_ _ | refine blk_drew ?_ | refine blk_alloc ?_ _)); refine blk_put (cs := #[.bool t125, .string (⟨#[]⟩ : ByteArray), .int .i64 0]) ?_ 1 _ rfl; (with_reducible repeat (first | refine blk_drewN ?_ _ | refine blk_drew ?_ | refine blk_alloc ?_ _)); refine blk_put (cs := #[.bool false, .string (⟨#[]⟩ : ByteArray), .int .i64 0]) ?_ 0 _ rfl; (with_reducible repeat (first | refine blk_drewN ?_ _ | refine blk_drew ?_ | refine blk_alloc ?_ _)); exact BK129.out) hb); have n2_ := Aside0.mk (below_step (by repeat (first | (with_reducible first | exact HB.out | apply below_alloc | apply pw_below_drewN | apply below_drew1 | refine below_set ?_ GE114.out | refine below_set ?_ GE129.out) | exact HB.out)) hb); clear BK114; clear BK129; clear HB; have BK114 := n0_; have BK129 := n1_; have HB := n2_; clear n0_ n1_ n2_; (try clear hb); (try clear hb2); (try clear hk); (try clear hi); have hnb78 := NB114_129.out; have hnc78 := NB129_114.out; have hcz79_0 : w77.cell? ⟨gb114, 0, none⟩ = some (.bool t110) := (blk_cell BK114.out 0).trans rfl; have hcz79_1 : w77.cell? ⟨gb114, 1, none⟩ = some (.string t111) := (blk_cell BK114.out 1).trans rfl; have hcz79_2 : w77.cell? ⟨gb114, 2, none⟩ = some (.int .i64 t112) := (blk_cell BK114.out 2).trans rfl; have hfz79_0 := blk_frozen BK114.out 0; have hfz79_1 := blk_frozen BK114.out 1; have hfz79_2 := blk_frozen BK114.out 2) | (go_at_call 33; (with_reducible refine (decimal_Whole.calls kj4 t110 t111 t112 false _ A64.out).mono ?_); rintro e w80 ⟨rfl, hb⟩; have n0_ := Aside0.mk (blk_below (g := gb114) (o := .cells #[.bool t110, .string t111, .int .i64 t112] 65 (0, 0)) (by (with_reducible repeat (first | refine blk_drewN ?_ _ | refine blk_drew ?_ | refine blk_alloc ?_ _)); exact BK114.out) hb); have n1_ := Aside0.mk (blk_below (g := gb129) (o := .cells #[.bool t125, .string t126, .int .i64 t127] 65 (0, 0)) (by (with_reducible repeat (first | refine blk_drewN ?_ _ | refine blk_drew ?_ | refine blk_alloc ?_ _)); exact BK129.out) hb); have n2_ := Aside0.mk (below_step (by repeat (first | (with_reducible first | exact HB.out | apply below_alloc | apply pw_below_drewN | apply below_drew1 | refine below_set ?_ GE114.out | refine below_set ?_ GE129.out) | exact HB.out)) hb); clear BK114; clear BK129; clear HB; have BK114 := n0_; have BK129 := n1_; have HB := n2_; clear n0_ n1_ n2_; (try clear hb); (try clear hb2); (try clear hk); (try clear hi)))
                  go_meet
                  case rel => exact ⟨_, (true), (by first | rfl | (simp; done) | (simp [*]; done)), H', ⟨by have := HJ4.out; first | omega | exact Nat.le_refl _⟩, ⟨by (with_reducible repeat (first | refine blk_drewN ?_ _ | refine blk_drew ?_ | refine blk_alloc ?_ _)); exact BK114.out⟩, ⟨by (with_reducible repeat (first | refine blk_drewN ?_ _ | refine blk_drew ?_ | refine blk_alloc ?_ _)); exact BK129.out⟩, ⟨by repeat (first | (with_reducible first | exact HB.out | apply below_alloc | apply pw_below_drewN | apply below_drew1 | refine below_set ?_ GE114.out | refine below_set ?_ GE129.out) | exact HB.out)⟩⟩
              · rw [if_neg c63] at H
                have c63b0 : (a0.toList == t130.toList) = false := beq_eq_false_iff_ne.mpr c63
                have c63b1 : (a0.toList != t130.toList) = true := bne_iff_ne.mpr c63
                by_cases c81 : a0.toList = ([45, 48] : List UInt8)
                · rw [if_pos c81] at H
                  have c81b0 : (a0.toList == ([45, 48] : List UInt8)) = true := beq_iff_eq.mpr c81
                  have c81b1 : (a0.toList != ([45, 48] : List UInt8)) = false := bne_eq_false_iff_eq.mpr c81
                  clear c81
                  replace H := Option.bind_eq_some_iff.mp H
                  obtain ⟨t132, A820, H⟩ := H
                  replace H : (if t132 = true then (quarrylaw12_WholeOnce.j1 kj4 t107 t109 t113 false) else (quarrylaw12_WholeOnce.j1 kj4 t107 t109 t113 true)) = some r := H
                  have A82 := Aside0.mk A820
                  clear A820
                  by_cases c83 : t132 = true
                  · subst c83
                    have H1 : (quarrylaw12_WholeOnce.j1 kj4 t107 t109 t113 false) = some r := by rw [if_pos rfl] at H; exact H
                    clear H
                    have H := H1
                    clear H1
                    have H' := Aside0.mk H
                    clear H
                    go_wp2_with (first | (go_at_call 12; (with_reducible refine (whole_Text_uint64.calls t108 t130 _ A62.out).mono ?_); rintro e w84 ⟨rfl, hb⟩; have n0_ := Aside0.mk (blk_below (g := gb114) (o := .cells #[.bool t110, .string t111, .int .i64 t112] 65 (0, 0)) (by (with_reducible repeat (first | refine blk_drewN ?_ _ | refine blk_drew ?_ | refine blk_alloc ?_ _)); refine blk_far ?_ NB114_129.out _; (with_reducible repeat (first | refine blk_drewN ?_ _ | refine blk_drew ?_ | refine blk_alloc ?_ _)); refine blk_far ?_ NB114_129.out _; (with_reducible repeat (first | refine blk_drewN ?_ _ | refine blk_drew ?_ | refine blk_alloc ?_ _)); refine blk_far ?_ NB114_129.out _; (with_reducible repeat (first | refine blk_drewN ?_ _ | refine blk_drew ?_ | refine blk_alloc ?_ _)); exact BK114.out) hb); have n1_ := Aside0.mk (blk_below (g := gb129) (o := .cells #[.bool t125, .string t126, .int .i64 t127] 65 (0, 0)) (by (with_reducible repeat (first | refine blk_drewN ?_ _ | refine blk_drew ?_ | refine blk_alloc ?_ _)); refine blk_put (cs := #[.bool t125, .string t126, .int .i64 0]) ?_ 2 _ rfl; (with_reducible repeat (first | refine blk_drewN ?_ _ | refine blk_drew ?_ | refine blk_alloc ?_ _)); refine blk_put (cs := #[.bool t125, .string (⟨#[]⟩ : ByteArray), .int .i64 0]) ?_ 1 _ rfl; (with_reducible repeat (first | refine blk_drewN ?_ _ | refine blk_drew ?_ | refine blk_alloc ?_ _)); refine blk_put (cs := #[.bool false, .string (⟨#[]⟩ : ByteArray), .int .i64 0]) ?_ 0 _ rfl; (with_reducible repeat (first | refine blk_drewN ?_ _ | refine blk_drew ?_ | refine blk_alloc ?_ _)); exact BK129.out) hb); have n2_ := Aside0.mk (below_step (by repeat (first | (with_reducible first | exact HB.out | apply below_alloc | apply pw_below_drewN | apply below_drew1 | refine below_set ?_ GE114.out | refine below_set ?_ GE129.out) | exact HB.out)) hb); clear BK114; clear BK129; clear HB; have BK114 := n0_; have BK129 := n1_; have HB := n2_; clear n0_ n1_ n2_; (try clear hb); (try clear hb2); (try clear hk); (try clear hi); have hnb85 := NB114_129.out; have hnc85 := NB129_114.out; have hcz86_0 : w84.cell? ⟨gb114, 0, none⟩ = some (.bool t110) := (blk_cell BK114.out 0).trans rfl; have hcz86_1 : w84.cell? ⟨gb114, 1, none⟩ = some (.string t111) := (blk_cell BK114.out 1).trans rfl; have hcz86_2 : w84.cell? ⟨gb114, 2, none⟩ = some (.int .i64 t112) := (blk_cell BK114.out 2).trans rfl; have hfz86_0 := blk_frozen BK114.out 0; have hfz86_1 := blk_frozen BK114.out 1; have hfz86_2 := blk_frozen BK114.out 2) | (go_at_call 33; (with_reducible refine (decimal_Whole.calls kj4 t110 t111 t112 true _ A82.out).mono ?_); rintro e w87 ⟨rfl, hb⟩; have n0_ := Aside0.mk (blk_below (g := gb114) (o := .cells #[.bool t110, .string t111, .int .i64 t112] 65 (0, 0)) (by (with_reducible repeat (first | refine blk_drewN ?_ _ | refine blk_drew ?_ | refine blk_alloc ?_ _)); exact BK114.out) hb); have n1_ := Aside0.mk (blk_below (g := gb129) (o := .cells #[.bool t125, .string t126, .int .i64 t127] 65 (0, 0)) (by (with_reducible repeat (first | refine blk_drewN ?_ _ | refine blk_drew ?_ | refine blk_alloc ?_ _)); exact BK129.out) hb); have n2_ := Aside0.mk (below_step (by repeat (first | (with_reducible first | exact HB.out | apply below_alloc | apply pw_below_drewN | apply below_drew1 | refine below_set ?_ GE114.out | refine below_set ?_ GE129.out) | exact HB.out)) hb); clear BK114; clear BK129; clear HB; have BK114 := n0_; have BK129 := n1_; have HB := n2_; clear n0_ n1_ n2_; (try clear hb); (try clear hb2); (try clear hk); (try clear hi)))
                    go_meet
                    case rel => exact ⟨_, (false), (by first | rfl | (simp; done) | (simp [*]; done)), H', ⟨by have := HJ4.out; first | omega | exact Nat.le_refl _⟩, ⟨by (with_reducible repeat (first | refine blk_drewN ?_ _ | refine blk_drew ?_ | refine blk_alloc ?_ _)); exact BK114.out⟩, ⟨by (with_reducible repeat (first | refine blk_drewN ?_ _ | refine blk_drew ?_ | refine blk_alloc ?_ _)); exact BK129.out⟩, ⟨by repeat (first | (with_reducible first | exact HB.out | apply below_alloc | apply pw_below_drewN | apply below_drew1 | refine below_set ?_ GE114.out | refine below_set ?_ GE129.out) | exact HB.out)⟩⟩
                  · replace c83 := Bool.eq_false_iff.mpr c83
                    subst c83
                    have H1 : (quarrylaw12_WholeOnce.j1 kj4 t107 t109 t113 true) = some r := by rw [if_neg (show ¬ (false = true) by decide)] at H; exact H
                    clear H
                    have H := H1
                    clear H1
                    have H' := Aside0.mk H
                    clear H
                    go_wp2_with (first | (go_at_call 12; (with_reducible refine (whole_Text_uint64.calls t108 t130 _ A62.out).mono ?_); rintro e w88 ⟨rfl, hb⟩; have n0_ := Aside0.mk (blk_below (g := gb114) (o := .cells #[.bool t110, .string t111, .int .i64 t112] 65 (0, 0)) (by (with_reducible repeat (first | refine blk_drewN ?_ _ | refine blk_drew ?_ | refine blk_alloc ?_ _)); refine blk_far ?_ NB114_129.out _; (with_reducible repeat (first | refine blk_drewN ?_ _ | refine blk_drew ?_ | refine blk_alloc ?_ _)); refine blk_far ?_ NB114_129.out _; (with_reducible repeat (first | refine blk_drewN ?_ _ | refine blk_drew ?_ | refine blk_alloc ?_ _)); refine blk_far ?_ NB114_129.out _; (with_reducible repeat (first | refine blk_drewN ?_ _ | refine blk_drew ?_ | refine blk_alloc ?_ _)); exact BK114.out) hb); have n1_ := Aside0.mk (blk_below (g := gb129) (o := .cells #[.bool t125, .string t126, .int .i64 t127] 65 (0, 0)) (by (with_reducible repeat (first | refine blk_drewN ?_ _ | refine blk_drew ?_ | refine blk_alloc ?_ _)); refine blk_put (cs := #[.bool t125, .string t126, .int .i64 0]) ?_ 2 _ rfl; (with_reducible repeat (first | refine blk_drewN ?_ _ | refine blk_drew ?_ | refine blk_alloc ?_ _)); refine blk_put (cs := #[.bool t125, .string (⟨#[]⟩ : ByteArray), .int .i64 0]) ?_ 1 _ rfl; (with_reducible repeat (first | refine blk_drewN ?_ _ | refine blk_drew ?_ | refine blk_alloc ?_ _)); refine blk_put (cs := #[.bool false, .string (⟨#[]⟩ : ByteArray), .int .i64 0]) ?_ 0 _ rfl; (with_reducible repeat (first | refine blk_drewN ?_ _ | refine blk_drew ?_ | refine blk_alloc ?_ _)); exact BK129.out) hb); have n2_ := Aside0.mk (below_step (by repeat (first | (with_reducible first | exact HB.out | apply below_alloc | apply pw_below_drewN | apply below_drew1 | refine below_set ?_ GE114.out | refine below_set ?_ GE129.out) | exact HB.out)) hb); clear BK114; clear BK129; clear HB; have BK114 := n0_; have BK129 := n1_; have HB := n2_; clear n0_ n1_ n2_; (try clear hb); (try clear hb2); (try clear hk); (try clear hi); have hnb89 := NB114_129.out; have hnc89 := NB129_114.out; have hcz90_0 : w88.cell? ⟨gb114, 0, none⟩ = some (.bool t110) := (blk_cell BK114.out 0).trans rfl; have hcz90_1 : w88.cell? ⟨gb114, 1, none⟩ = some (.string t111) := (blk_cell BK114.out 1).trans rfl; have hcz90_2 : w88.cell? ⟨gb114, 2, none⟩ = some (.int .i64 t112) := (blk_cell BK114.out 2).trans rfl; have hfz90_0 := blk_frozen BK114.out 0; have hfz90_1 := blk_frozen BK114.out 1; have hfz90_2 := blk_frozen BK114.out 2) | (go_at_call 33; (with_reducible refine (decimal_Whole.calls kj4 t110 t111 t112 false _ A82.out).mono ?_); rintro e w91 ⟨rfl, hb⟩; have n0_ := Aside0.mk (blk_below (g := gb114) (o := .cells #[.bool t110, .string t111, .int .i64 t112] 65 (0, 0)) (by (with_reducible repeat (first | refine blk_drewN ?_ _ | refine blk_drew ?_ | refine blk_alloc ?_ _)); exact BK114.out) hb); have n1_ := Aside0.mk (blk_below (g := gb129) (o := .cells #[.bool t125, .string t126, .int .i64 t127] 65 (0, 0)) (by (with_reducible repeat (first | refine blk_drewN ?_ _ | refine blk_drew ?_ | refine blk_alloc ?_ _)); exact BK129.out) hb); have n2_ := Aside0.mk (below_step (by repeat (first | (with_reducible first | exact HB.out | apply below_alloc | apply pw_below_drewN | apply below_drew1 | refine below_set ?_ GE114.out | refine below_set ?_ GE129.out) | exact HB.out)) hb); clear BK114; clear BK129; clear HB; have BK114 := n0_; have BK129 := n1_; have HB := n2_; clear n0_ n1_ n2_; (try clear hb); (try clear hb2); (try clear hk); (try clear hi)))
                    go_meet
                    case rel => exact ⟨_, (true), (by first | rfl | (simp; done) | (simp [*]; done)), H', ⟨by have := HJ4.out; first | omega | exact Nat.le_refl _⟩, ⟨by (with_reducible repeat (first | refine blk_drewN ?_ _ | refine blk_drew ?_ | refine blk_alloc ?_ _)); exact BK114.out⟩, ⟨by (with_reducible repeat (first | refine blk_drewN ?_ _ | refine blk_drew ?_ | refine blk_alloc ?_ _)); exact BK129.out⟩, ⟨by repeat (first | (with_reducible first | exact HB.out | apply below_alloc | apply pw_below_drewN | apply below_drew1 | refine below_set ?_ GE114.out | refine below_set ?_ GE129.out) | exact HB.out)⟩⟩
                · rw [if_neg c81] at H
                  have c81b0 : (a0.toList == ([45, 48] : List UInt8)) = false := beq_eq_false_iff_ne.mpr c81
                  have c81b1 : (a0.toList != ([45, 48] : List UInt8)) = true := bne_iff_ne.mpr c81
                  have H' := Aside0.mk H
                  clear H
                  go_wp2_with (first | (go_at_call 12; (with_reducible refine (whole_Text_uint64.calls t108 t130 _ A62.out).mono ?_); rintro e w92 ⟨rfl, hb⟩; have n0_ := Aside0.mk (blk_below (g := gb114) (o := .cells #[.bool t110, .string t111, .int .i64 t112] 65 (0, 0)) (by (with_reducible repeat (first | refine blk_drewN ?_ _ | refine blk_drew ?_ | refine blk_alloc ?_ _)); refine blk_far ?_ NB114_129.out _; (with_reducible repeat (first | refine blk_drewN ?_ _ | refine blk_drew ?_ | refine blk_alloc ?_ _)); refine blk_far ?_ NB114_129.out _; (with_reducible repeat (first | refine blk_drewN ?_ _ | refine blk_drew ?_ | refine blk_alloc ?_ _)); refine blk_far ?_ NB114_129.out _; (with_reducible repeat (first | refine blk_drewN ?_ _ | refine blk_drew ?_ | refine blk_alloc ?_ _)); exact BK114.out) hb); have n1_ := Aside0.mk (blk_below (g := gb129) (o := .cells #[.bool t125, .string t126, .int .i64 t127] 65 (0, 0)) (by (with_reducible repeat (first | refine blk_drewN ?_ _ | refine blk_drew ?_ | refine blk_alloc ?_ _)); refine blk_put (cs := #[.bool t125, .string t126, .int .i64 0]) ?_ 2 _ rfl; (with_reducible repeat (first | refine blk_drewN ?_ _ | refine blk_drew ?_ | refine blk_alloc ?_ _)); refine blk_put (cs := #[.bool t125, .string (⟨#[]⟩ : ByteArray), .int .i64 0]) ?_ 1 _ rfl; (with_reducible repeat (first | refine blk_drewN ?_ _ | refine blk_drew ?_ | refine blk_alloc ?_ _)); refine blk_put (cs := #[.bool false, .string (⟨#[]⟩ : ByteArray), .int .i64 0]) ?_ 0 _ rfl; (with_reducible repeat (first | refine blk_drewN ?_ _ | refine blk_drew ?_ | refine blk_alloc ?_ _)); exact BK129.out) hb); have n2_ := Aside0.mk (below_step (by repeat (first | (with_reducible first | exact HB.out | apply below_alloc | apply pw_below_drewN | apply below_drew1 | refine below_set ?_ GE114.out | refine below_set ?_ GE129.out) | exact HB.out)) hb); clear BK114; clear BK129; clear HB; have BK114 := n0_; have BK129 := n1_; have HB := n2_; clear n0_ n1_ n2_; (try clear hb); (try clear hb2); (try clear hk); (try clear hi)))
                  go_meet
                  case rel => exact ⟨_, (true), (by first | rfl | (simp; done) | (simp [*]; done)), H', ⟨by have := HJ4.out; first | omega | exact Nat.le_refl _⟩, ⟨by (with_reducible repeat (first | refine blk_drewN ?_ _ | refine blk_drew ?_ | refine blk_alloc ?_ _)); exact BK114.out⟩, ⟨by (with_reducible repeat (first | refine blk_drewN ?_ _ | refine blk_drew ?_ | refine blk_alloc ?_ _)); exact BK129.out⟩, ⟨by repeat (first | (with_reducible first | exact HB.out | apply below_alloc | apply pw_below_drewN | apply below_drew1 | refine below_set ?_ GE114.out | refine below_set ?_ GE129.out) | exact HB.out)⟩⟩
            · rw [if_neg c61] at H
              have c61b0 : (t128 == 0) = false := beq_eq_false_iff_ne.mpr c61
              have c61b1 : (t128 != 0) = true := bne_iff_ne.mpr c61
              have H' := Aside0.mk H
              clear H
              go_wp2
              go_meet
              case rel => exact ⟨_, (true), (by first | rfl | (simp; done) | (simp [*]; done)), H', ⟨by have := HJ4.out; first | omega | exact Nat.le_refl _⟩, ⟨by (with_reducible repeat (first | refine blk_drewN ?_ _ | refine blk_drew ?_ | refine blk_alloc ?_ _)); refine blk_far ?_ NB114_129.out _; (with_reducible repeat (first | refine blk_drewN ?_ _ | refine blk_drew ?_ | refine blk_alloc ?_ _)); refine blk_far ?_ NB114_129.out _; (with_reducible repeat (first | refine blk_drewN ?_ _ | refine blk_drew ?_ | refine blk_alloc ?_ _)); refine blk_far ?_ NB114_129.out _; (with_reducible repeat (first | refine blk_drewN ?_ _ | refine blk_drew ?_ | refine blk_alloc ?_ _)); exact BK114.out⟩, ⟨by (with_reducible repeat (first | refine blk_drewN ?_ _ | refine blk_drew ?_ | refine blk_alloc ?_ _)); refine blk_put (cs := #[.bool t125, .string t126, .int .i64 0]) ?_ 2 _ rfl; (with_reducible repeat (first | refine blk_drewN ?_ _ | refine blk_drew ?_ | refine blk_alloc ?_ _)); refine blk_put (cs := #[.bool t125, .string (⟨#[]⟩ : ByteArray), .int .i64 0]) ?_ 1 _ rfl; (with_reducible repeat (first | refine blk_drewN ?_ _ | refine blk_drew ?_ | refine blk_alloc ?_ _)); refine blk_put (cs := #[.bool false, .string (⟨#[]⟩ : ByteArray), .int .i64 0]) ?_ 0 _ rfl; (with_reducible repeat (first | refine blk_drewN ?_ _ | refine blk_drew ?_ | refine blk_alloc ?_ _)); exact BK129.out⟩, ⟨by repeat (first | (with_reducible first | exact HB.out | apply below_alloc | apply pw_below_drewN | apply below_drew1 | refine below_set ?_ GE114.out | refine below_set ?_ GE129.out) | exact HB.out)⟩⟩
          · rw [if_neg c60] at H
            have c60b0 : (t113 == 0) = false := beq_eq_false_iff_ne.mpr c60
            have c60b1 : (t113 != 0) = true := bne_iff_ne.mpr c60
            (first | rw [c60b0] | (simp only [i64_w, i32_w]; rw [c60b0]) | skip)
            have H' := Aside0.mk H
            clear H
            go_wp2
            go_meet
            case rel => exact ⟨_, (true), (by first | rfl | (simp; done) | (simp [*]; done)), H', ⟨by have := HJ4.out; first | omega | exact Nat.le_refl _⟩, ⟨by (with_reducible repeat (first | refine blk_drewN ?_ _ | refine blk_drew ?_ | refine blk_alloc ?_ _)); refine blk_far ?_ NB114_129.out _; (with_reducible repeat (first | refine blk_drewN ?_ _ | refine blk_drew ?_ | refine blk_alloc ?_ _)); refine blk_far ?_ NB114_129.out _; (with_reducible repeat (first | refine blk_drewN ?_ _ | refine blk_drew ?_ | refine blk_alloc ?_ _)); refine blk_far ?_ NB114_129.out _; (with_reducible repeat (first | refine blk_drewN ?_ _ | refine blk_drew ?_ | refine blk_alloc ?_ _)); exact BK114.out⟩, ⟨by (with_reducible repeat (first | refine blk_drewN ?_ _ | refine blk_drew ?_ | refine blk_alloc ?_ _)); refine blk_put (cs := #[.bool t125, .string t126, .int .i64 0]) ?_ 2 _ rfl; (with_reducible repeat (first | refine blk_drewN ?_ _ | refine blk_drew ?_ | refine blk_alloc ?_ _)); refine blk_put (cs := #[.bool t125, .string (⟨#[]⟩ : ByteArray), .int .i64 0]) ?_ 1 _ rfl; (with_reducible repeat (first | refine blk_drewN ?_ _ | refine blk_drew ?_ | refine blk_alloc ?_ _)); refine blk_put (cs := #[.bool false, .string (⟨#[]⟩ : ByteArray), .int .i64 0]) ?_ 0 _ rfl; (with_reducible repeat (first | refine blk_drewN ?_ _ | refine blk_drew ?_ | refine blk_alloc ?_ _)); exact BK129.out⟩, ⟨by repeat (first | (with_reducible first | exact HB.out | apply below_alloc | apply pw_below_drewN | apply below_drew1 | refine below_set ?_ GE114.out | refine below_set ?_ GE129.out) | exact HB.out)⟩⟩
        case rest => as_aux_lemma =>
          clear HC54
          try clear c1
          try clear c2
          try clear p2
          try clear c3
          try clear c4
          try clear c5
          try clear c6
          try clear c7
          try clear c8
          try clear c9
          try clear c11
          try clear c11b0
          try clear c11b1
          try clear c12
          try clear c14
          try clear c14b0
          try clear c14b1
          try clear c15
          try clear c15b0
          try clear c15b1
          try clear c17
          try clear c17b0
          try clear c17b1
          try clear c19
          try clear c20
          try clear c20b0
          try clear c20b1
          try clear c24
          try clear c26
          try clear c29
          try clear c29b0
          try clear c30
          try clear c32
          try clear c33
          try clear c40
          try clear c40b0
          try clear c40b1
          try clear c42
          try clear c46
          try clear c51
          try clear c51b0
          try clear c51b1
          try clear c58
          try clear c60
          try clear c60b0
          try clear c60b1
          try clear c61
          try clear c61b0
          try clear c61b1
          try clear c63
          try clear c63b0
          try clear c63b1
          try clear c65
          try clear c66
          try clear c66b0
          try clear c66b1
          try clear c68
          try clear c72
          try clear c78
          try clear c81
          try clear c81b0
          try clear c81b1
          try clear c83
          try clear c85
          try clear c89
          try clear hcz10_0
          try clear hcz10_1
          try clear hcz10_2
          try clear hcz25_0
          try clear hcz25_1
          try clear hcz25_2
          try clear hcz27_0
          try clear hcz27_1
          try clear hcz27_2
          try clear hcz34_0
          try clear hcz34_1
          try clear hcz34_2
          try clear hcz36_0
          try clear hcz36_1
          try clear hcz36_2
          try clear hcz38_0
          try clear hcz38_1
          try clear hcz38_2
          try clear hcz39_0
          try clear hcz39_1
          try clear hcz39_2
          try clear hcz47_0
          try clear hcz47_1
          try clear hcz47_2
          try clear hcz49_0
          try clear hcz49_1
          try clear hcz49_2
          try clear hcz59_0
          try clear hcz59_1
          try clear hcz59_2
          try clear hcz69_0
          try clear hcz69_1
          try clear hcz69_2
          try clear hcz73_0
          try clear hcz73_1
          try clear hcz73_2
          try clear hcz75_0
          try clear hcz75_1
          try clear hcz75_2
          try clear hcz76_0
          try clear hcz76_1
          try clear hcz76_2
          try clear hcz79_0
          try clear hcz79_1
          try clear hcz79_2
          try clear hcz86_0
          try clear hcz86_1
          try clear hcz86_2
          try clear hcz90_0
          try clear hcz90_1
          try clear hcz90_2
          try clear hfz10_0
          try clear hfz10_1
          try clear hfz10_2
          try clear hfz25_0
          try clear hfz25_1
          try clear hfz25_2
          try clear hfz27_0
          try clear hfz27_1
          try clear hfz27_2
          try clear hfz34_0
          try clear hfz34_1
          try clear hfz34_2
          try clear hfz36_0
          try clear hfz36_1
          try clear hfz36_2
          try clear hfz38_0
          try clear hfz38_1
          try clear hfz38_2
          try clear hfz39_0
          try clear hfz39_1
          try clear hfz39_2
          try clear hfz47_0
          try clear hfz47_1
          try clear hfz47_2
          try clear hfz49_0
          try clear hfz49_1
          try clear hfz49_2
          try clear hfz59_0
          try clear hfz59_1
          try clear hfz59_2
          try clear hfz69_0
          try clear hfz69_1
          try clear hfz69_2
          try clear hfz73_0
          try clear hfz73_1
          try clear hfz73_2
          try clear hfz75_0
          try clear hfz75_1
          try clear hfz75_2
          try clear hfz76_0
          try clear hfz76_1
          try clear hfz76_2
          try clear hfz79_0
          try clear hfz79_1
          try clear hfz79_2
          try clear hfz86_0
          try clear hfz86_1
          try clear hfz86_2
          try clear hfz90_0
          try clear hfz90_1
          try clear hfz90_2
          try clear p2
          obtain ⟨kq, x103_53, rfl, HA, HJ53, BK114, BK129, HB⟩ := hcut
          cases kq with
          | zero => exact absurd HA.out (by simp [quarrylaw12_WholeOnce.j1])
          | succ kj53 =>
            have H := HA.out
            clear HA
            simp only [quarrylaw12_WholeOnce.j1] at H
            by_cases c93 : x103_53 = true
            · subst c93
              have H1 : (none) = some r := by rw [if_pos rfl] at H; exact H
              clear H
              have H := H1
              clear H1
              exact absurd H (by simp)
            · replace c93 := Bool.eq_false_iff.mpr c93
              subst c93
              have H1 : (if ((t107 == 110) != (t113 == 110)) = true then (none) else (if ((t109 == 110) != (t113 == 110)) = true then (none) else (if ((t107 == 120) != (t109 == 120)) = true then (none) else ((quarrylaw12_awake.f).bind fun t133 => (some t133))))) = some r := by rw [if_neg (show ¬ (false = true) by decide)] at H; exact H
              clear H
              have H := H1
              clear H1
              by_cases c94 : ((t107 == 110) != (t113 == 110)) = true
              · rw [if_pos c94] at H
                exact absurd H (by simp)
              · rw [if_neg c94] at H
                have c94b0 : ((t107 == 110) != (t113 == 110)) = false := by simpa using c94
                (try (have c94b1 : decide ((t107 == 110) = (t113 == 110)) = true := by simpa using c94))
                (try (have c94b2 : ((t107 == 110) == (t113 == 110)) = true := by simpa using c94))
                clear c94
                by_cases c95 : ((t109 == 110) != (t113 == 110)) = true
                · rw [if_pos c95] at H
                  exact absurd H (by simp)
                · rw [if_neg c95] at H
                  have c95b0 : ((t109 == 110) != (t113 == 110)) = false := by simpa using c95
                  (try (have c95b1 : decide ((t109 == 110) = (t113 == 110)) = true := by simpa using c95))
                  (try (have c95b2 : ((t109 == 110) == (t113 == 110)) = true := by simpa using c95))
                  clear c95
                  by_cases c96 : ((t107 == 120) != (t109 == 120)) = true
                  · rw [if_pos c96] at H
                    exact absurd H (by simp)
                  · rw [if_neg c96] at H
                    have c96b0 : ((t107 == 120) != (t109 == 120)) = false := by simpa using c96
                    (try (have c96b1 : decide ((t107 == 120) = (t109 == 120)) = true := by simpa using c96))
                    (try (have c96b2 : ((t107 == 120) == (t109 == 120)) = true := by simpa using c96))
                    clear c96
                    replace H := Option.bind_eq_some_iff.mp H
                    obtain ⟨t133, A970, H⟩ := H
                    replace H : (some t133) = some r := H
                    have A97 := Aside0.mk A970
                    clear A970
                    obtain rfl := Option.some.inj H
                    go_wp2_with (first | ((with_reducible refine gate_callee (f := 31) rfl ?_); refine goesL_ (some 123) rfl rfl Tryd.func31 (by kernel_rfl) rfl #[] rfl (by (try simp only [List.map_toArray, List.map_cons, List.map_nil]); first | done | rfl | (simp only [List.length_drop, List.length_take]; rfl)) ?_; (with_reducible refine (quarrylaw12_awake.calls  t133 _ A97.out).mono ?_); rintro e w98 ⟨rfl, hb⟩; refine ⟨_, rfl, ?_⟩; have n0_ := Aside0.mk (blk_below (g := gb114) (o := .cells #[.bool t110, .string t111, .int .i64 t112] 65 (0, 0)) (by (with_reducible repeat (first | refine blk_drewN ?_ _ | refine blk_drew ?_ | refine blk_alloc ?_ _)); exact BK114.out) hb); have n1_ := Aside0.mk (blk_below (g := gb129) (o := .cells #[.bool t125, .string t126, .int .i64 t127] 65 (0, 0)) (by (with_reducible repeat (first | refine blk_drewN ?_ _ | refine blk_drew ?_ | refine blk_alloc ?_ _)); exact BK129.out) hb); have n2_ := Aside0.mk (below_step (by repeat (first | (with_reducible first | exact HB.out | apply below_alloc | apply pw_below_drewN | apply below_drew1 | refine below_set ?_ GE114.out | refine below_set ?_ GE129.out) | exact HB.out)) hb); clear BK114; clear BK129; clear HB; have BK114 := n0_; have BK129 := n1_; have HB := n2_; clear n0_ n1_ n2_; (try clear hb); (try clear hb2); (try clear hk); (try clear hi)))
                    go_ret
                    exact ⟨by first | rfl | (simp [errW_none, errW_some] <;> rfl) | (simp [*, errW_none, errW_some] <;> rfl), by repeat (first | (with_reducible first | exact HB.out | apply below_alloc | apply pw_below_drewN | apply below_drew1 | refine below_set ?_ GE114.out | refine below_set ?_ GE129.out) | exact HB.out)⟩
      · rw [if_neg c51] at H
        have c51b0 : (t109 == 0) = false := beq_eq_false_iff_ne.mpr c51
        have c51b1 : (t109 != 0) = true := bne_iff_ne.mpr c51
        by_cases c99 : ((t107 == 110) != (t113 == 110)) = true
        · rw [if_pos c99] at H
          exact absurd H (by simp)
        · rw [if_neg c99] at H
          have c99b0 : ((t107 == 110) != (t113 == 110)) = false := by simpa using c99
          (try (have c99b1 : decide ((t107 == 110) = (t113 == 110)) = true := by simpa using c99))
          (try (have c99b2 : ((t107 == 110) == (t113 == 110)) = true := by simpa using c99))
          clear c99
          by_cases c100 : ((t109 == 110) != (t113 == 110)) = true
          · rw [if_pos c100] at H
            exact absurd H (by simp)
          · rw [if_neg c100] at H
            have c100b0 : ((t109 == 110) != (t113 == 110)) = false := by simpa using c100
            (try (have c100b1 : decide ((t109 == 110) = (t113 == 110)) = true := by simpa using c100))
            (try (have c100b2 : ((t109 == 110) == (t113 == 110)) = true := by simpa using c100))
            clear c100
            by_cases c101 : ((t107 == 120) != (t109 == 120)) = true
            · rw [if_pos c101] at H
              exact absurd H (by simp)
            · rw [if_neg c101] at H
              have c101b0 : ((t107 == 120) != (t109 == 120)) = false := by simpa using c101
              (try (have c101b1 : decide ((t107 == 120) = (t109 == 120)) = true := by simpa using c101))
              (try (have c101b2 : ((t107 == 120) == (t109 == 120)) = true := by simpa using c101))
              clear c101
              replace H := Option.bind_eq_some_iff.mp H
              obtain ⟨t134, A1020, H⟩ := H
              replace H : (some t134) = some r := H
              have A102 := Aside0.mk A1020
              clear A1020
              obtain rfl := Option.some.inj H
              go_wp2_with (first | ((with_reducible refine gate_callee (f := 31) rfl ?_); refine goesL_ (some 123) rfl rfl Tryd.func31 (by kernel_rfl) rfl #[] rfl (by (try simp only [List.map_toArray, List.map_cons, List.map_nil]); first | done | rfl | (simp only [List.length_drop, List.length_take]; rfl)) ?_; (with_reducible refine (quarrylaw12_awake.calls  t134 _ A102.out).mono ?_); rintro e w103 ⟨rfl, hb⟩; refine ⟨_, rfl, ?_⟩; have n0_ := Aside0.mk (blk_below (g := gb114) (o := .cells #[.bool t110, .string t111, .int .i64 t112] 65 (0, 0)) (by (with_reducible repeat (first | refine blk_drewN ?_ _ | refine blk_drew ?_ | refine blk_alloc ?_ _)); exact BK114.out) hb); have n1_ := Aside0.mk (below_step (by repeat (first | (with_reducible first | exact HB.out | apply below_alloc | apply pw_below_drewN | apply below_drew1 | refine below_set ?_ GE114.out) | exact HB.out)) hb); clear BK114; clear HB; have BK114 := n0_; have HB := n1_; clear n0_ n1_; (try clear hb); (try clear hb2); (try clear hk); (try clear hi)))
              go_ret
              exact ⟨by first | rfl | (simp [errW_none, errW_some] <;> rfl) | (simp [*, errW_none, errW_some] <;> rfl), by repeat (first | (with_reducible first | exact HB.out | apply below_alloc | apply pw_below_drewN | apply below_drew1 | refine below_set ?_ GE114.out) | exact HB.out)⟩

end Go.Proofs.YtkjmbibnfohkjaaDoor.PWholeOnce
