/- The machine side of a statement, laid by the kit's print program, run by wip/tools/gprint.py: some functions' contracts are given, proved by hand. -/
import Derived.Test.YtkjmbibnfohkjaaDoorPWholeWidensx0
import Derived.Test.YtkjmbibnfohkjaaDoorPWholeWidensx1
namespace Go.Proofs.YtkjmbibnfohkjaaDoor.PWholeWidens
open Go.RowKit Go.Proofs.YtkjmbibnfohkjaaDoorW.PrintWords Go.Proofs.YtkjmbibnfohkjaaDoorW.PrintLast Go.Proofs.YtkjmbibnfohkjaaDoorW.PrintMore
attribute [local go_sem] max2_int min2_int max_two min_two max_three min_three max_four min_four   -- for this text's walks alone
set_option linter.unusedVariables false
set_option linter.unusedSimpArgs false

/-! ### quarrylaw12_WholeWidens: function 4 -/
mutual
def quarrylaw12_WholeWidens.j0 : Nat → ByteArray → Int → Int → Int → Int → Int → Int → Bool → Option (Bool)
  | 0, _, _, _, _, _, _, _, _ => none
  | k + 1, x0, x4, x5, x6, x8, x9, x10, x78 => if x78 = true then (none) else ((whole_Uint_uint8.f x0).bind fun bt111 => ((whole_Uint_uint16.f x0).bind fun bt113 => ((whole_Uint_uint32.f x0).bind fun bt115 => ((whole_Uint_uint64.f x0).bind fun bt117 => (if bt111.2 = 0 then (if bt113.2 = 0 then (if (IntKind.u16.wrap (bt111.1)) = bt113.1 then (if x6 = 0 then (if (IntKind.i16.wrap (bt111.1)) = x5 then (if bt115.2 = 0 then (if ((bt113.1) % 4294967296) = bt115.1 then (if bt117.2 = 0 then (if (IntKind.u64.wrap (bt115.1)) = bt117.1 then (if x10 = 0 then (quarrylaw12_WholeWidens.j1 k x4 x6 x8 x10 bt111.2 bt113.2 bt115.2 bt117.2 ((wrap64 (bt115.1)) != x9)) else (quarrylaw12_WholeWidens.j1 k x4 x6 x8 x10 bt111.2 bt113.2 bt115.2 bt117.2 true)) else (quarrylaw12_WholeWidens.j1 k x4 x6 x8 x10 bt111.2 bt113.2 bt115.2 bt117.2 true)) else (quarrylaw12_WholeWidens.j1 k x4 x6 x8 x10 bt111.2 bt113.2 bt115.2 bt117.2 true)) else (quarrylaw12_WholeWidens.j1 k x4 x6 x8 x10 bt111.2 bt113.2 bt115.2 bt117.2 true)) else (quarrylaw12_WholeWidens.j1 k x4 x6 x8 x10 bt111.2 bt113.2 bt115.2 bt117.2 true)) else (quarrylaw12_WholeWidens.j1 k x4 x6 x8 x10 bt111.2 bt113.2 bt115.2 bt117.2 true)) else (quarrylaw12_WholeWidens.j1 k x4 x6 x8 x10 bt111.2 bt113.2 bt115.2 bt117.2 true)) else (quarrylaw12_WholeWidens.j1 k x4 x6 x8 x10 bt111.2 bt113.2 bt115.2 bt117.2 true)) else (quarrylaw12_WholeWidens.j1 k x4 x6 x8 x10 bt111.2 bt113.2 bt115.2 bt117.2 true)) else (if bt113.2 = 0 then (if bt115.2 = 0 then (if ((bt113.1) % 4294967296) = bt115.1 then (if bt117.2 = 0 then (if (IntKind.u64.wrap (bt115.1)) = bt117.1 then (if x10 = 0 then (quarrylaw12_WholeWidens.j1 k x4 x6 x8 x10 bt111.2 bt113.2 bt115.2 bt117.2 ((wrap64 (bt115.1)) != x9)) else (quarrylaw12_WholeWidens.j1 k x4 x6 x8 x10 bt111.2 bt113.2 bt115.2 bt117.2 true)) else (quarrylaw12_WholeWidens.j1 k x4 x6 x8 x10 bt111.2 bt113.2 bt115.2 bt117.2 true)) else (quarrylaw12_WholeWidens.j1 k x4 x6 x8 x10 bt111.2 bt113.2 bt115.2 bt117.2 true)) else (quarrylaw12_WholeWidens.j1 k x4 x6 x8 x10 bt111.2 bt113.2 bt115.2 bt117.2 true)) else (quarrylaw12_WholeWidens.j1 k x4 x6 x8 x10 bt111.2 bt113.2 bt115.2 bt117.2 true)) else (if bt115.2 = 0 then (if bt117.2 = 0 then (if (IntKind.u64.wrap (bt115.1)) = bt117.1 then (if x10 = 0 then (quarrylaw12_WholeWidens.j1 k x4 x6 x8 x10 bt111.2 bt113.2 bt115.2 bt117.2 ((wrap64 (bt115.1)) != x9)) else (quarrylaw12_WholeWidens.j1 k x4 x6 x8 x10 bt111.2 bt113.2 bt115.2 bt117.2 true)) else (quarrylaw12_WholeWidens.j1 k x4 x6 x8 x10 bt111.2 bt113.2 bt115.2 bt117.2 true)) else (quarrylaw12_WholeWidens.j1 k x4 x6 x8 x10 bt111.2 bt113.2 bt115.2 bt117.2 true)) else (quarrylaw12_WholeWidens.j1 k x4 x6 x8 x10 bt111.2 bt113.2 bt115.2 bt117.2 false))))))))
def quarrylaw12_WholeWidens.j1 : Nat → Int → Int → Int → Int → Int → Int → Int → Int → Bool → Option (Bool)
  | 0, _, _, _, _, _, _, _, _, _ => none
  | k + 1, x4, x6, x8, x10, x12, x14, x16, x18, x158 => if x158 = true then (none) else (if x10 = 0 then (quarrylaw12_WholeWidens.j2 k x4 x6 x8 x10 x12 x14 x16 x18 false) else (quarrylaw12_WholeWidens.j2 k x4 x6 x8 x10 x12 x14 x16 x18 (x10 != 121)))
def quarrylaw12_WholeWidens.j2 : Nat → Int → Int → Int → Int → Int → Int → Int → Int → Bool → Option (Bool)
  | 0, _, _, _, _, _, _, _, _, _ => none
  | k + 1, x4, x6, x8, x10, x12, x14, x16, x18, x164 => if x164 = true then (if x4 = x10 then (if x6 = x10 then (if x8 = x10 then (if x12 = x10 then (if x14 = x10 then (if x16 = x10 then (if x18 = x10 then ((quarrylaw12_awake.f).bind fun t119 => (some t119)) else (none)) else (none)) else (none)) else (none)) else (none)) else (none)) else (none)) else ((quarrylaw12_awake.f).bind fun t120 => (some t120))
end
def quarrylaw12_WholeWidens.f (k : Nat) (a0 : ByteArray) : Option (Bool) := (whole_Int_int8.f a0).bind fun bt103 => ((whole_Int_int16.f a0).bind fun bt105 => ((whole_Int_int32.f a0).bind fun bt107 => ((whole_Int_int64.f a0).bind fun bt109 => (if bt103.2 = 0 then (if bt105.2 = 0 then (if (IntKind.i16.wrap (bt103.1)) = bt105.1 then (if bt107.2 = 0 then (if (wrap32 (bt105.1)) = bt107.1 then (if bt109.2 = 0 then (quarrylaw12_WholeWidens.j0 k a0 bt103.2 bt105.1 bt105.2 bt107.2 bt109.1 bt109.2 ((wrap64 (bt107.1)) != bt109.1)) else (quarrylaw12_WholeWidens.j0 k a0 bt103.2 bt105.1 bt105.2 bt107.2 bt109.1 bt109.2 true)) else (quarrylaw12_WholeWidens.j0 k a0 bt103.2 bt105.1 bt105.2 bt107.2 bt109.1 bt109.2 true)) else (quarrylaw12_WholeWidens.j0 k a0 bt103.2 bt105.1 bt105.2 bt107.2 bt109.1 bt109.2 true)) else (quarrylaw12_WholeWidens.j0 k a0 bt103.2 bt105.1 bt105.2 bt107.2 bt109.1 bt109.2 true)) else (quarrylaw12_WholeWidens.j0 k a0 bt103.2 bt105.1 bt105.2 bt107.2 bt109.1 bt109.2 true)) else (if bt105.2 = 0 then (if bt107.2 = 0 then (if (wrap32 (bt105.1)) = bt107.1 then (if bt109.2 = 0 then (quarrylaw12_WholeWidens.j0 k a0 bt103.2 bt105.1 bt105.2 bt107.2 bt109.1 bt109.2 ((wrap64 (bt107.1)) != bt109.1)) else (quarrylaw12_WholeWidens.j0 k a0 bt103.2 bt105.1 bt105.2 bt107.2 bt109.1 bt109.2 true)) else (quarrylaw12_WholeWidens.j0 k a0 bt103.2 bt105.1 bt105.2 bt107.2 bt109.1 bt109.2 true)) else (quarrylaw12_WholeWidens.j0 k a0 bt103.2 bt105.1 bt105.2 bt107.2 bt109.1 bt109.2 true)) else (if bt107.2 = 0 then (if bt109.2 = 0 then (quarrylaw12_WholeWidens.j0 k a0 bt103.2 bt105.1 bt105.2 bt107.2 bt109.1 bt109.2 ((wrap64 (bt107.1)) != bt109.1)) else (quarrylaw12_WholeWidens.j0 k a0 bt103.2 bt105.1 bt105.2 bt107.2 bt109.1 bt109.2 true)) else (quarrylaw12_WholeWidens.j0 k a0 bt103.2 bt105.1 bt105.2 bt107.2 bt109.1 bt109.2 false)))))))
theorem quarrylaw12_WholeWidens.mono_l : ∀ k, (∀ y0 y1 y2 y3 y4 y5 y6 y7, LeO (quarrylaw12_WholeWidens.j0 k y0 y1 y2 y3 y4 y5 y6 y7) (quarrylaw12_WholeWidens.j0 (k + 1) y0 y1 y2 y3 y4 y5 y6 y7)) ∧ (∀ y0 y1 y2 y3 y4 y5 y6 y7 y8, LeO (quarrylaw12_WholeWidens.j1 k y0 y1 y2 y3 y4 y5 y6 y7 y8) (quarrylaw12_WholeWidens.j1 (k + 1) y0 y1 y2 y3 y4 y5 y6 y7 y8)) ∧ (∀ y0 y1 y2 y3 y4 y5 y6 y7 y8, LeO (quarrylaw12_WholeWidens.j2 k y0 y1 y2 y3 y4 y5 y6 y7 y8) (quarrylaw12_WholeWidens.j2 (k + 1) y0 y1 y2 y3 y4 y5 y6 y7 y8))
  | 0 => ⟨fun _ _ _ _ _ _ _ _ r h => by simp [quarrylaw12_WholeWidens.j0] at h, fun _ _ _ _ _ _ _ _ _ r h => by simp [quarrylaw12_WholeWidens.j1] at h, fun _ _ _ _ _ _ _ _ _ r h => by simp [quarrylaw12_WholeWidens.j2] at h⟩
  | k + 1 => by
    obtain ⟨ih0, ih1, ih2⟩ := quarrylaw12_WholeWidens.mono_l k
    refine ⟨?_, ?_, ?_⟩
    · intro y0 y1 y2 y3 y4 y5 y6 y7
      unfold quarrylaw12_WholeWidens.j0
      repeat' first
      | (with_reducible exact ih0 _ _ _ _ _ _ _ _)
      | (with_reducible exact ih1 _ _ _ _ _ _ _ _ _)
      | (with_reducible exact ih2 _ _ _ _ _ _ _ _ _)
      | (with_reducible exact LeO.refl _)
      | (with_reducible exact LeO.none _)
      | (with_reducible refine LeO.ite ?_ ?_)
      | (with_reducible refine LeO.bind ?_ (fun _ => ?_))
      | exact ih0 _ _ _ _ _ _ _ _
      | exact ih1 _ _ _ _ _ _ _ _ _
      | exact ih2 _ _ _ _ _ _ _ _ _
      | exact LeO.none _
      | refine LeO.ite ?_ ?_
      | refine LeO.bind ?_ (fun _ => ?_)
    · intro y0 y1 y2 y3 y4 y5 y6 y7 y8
      unfold quarrylaw12_WholeWidens.j1
      repeat' first
      | (with_reducible exact ih0 _ _ _ _ _ _ _ _)
      | (with_reducible exact ih1 _ _ _ _ _ _ _ _ _)
      | (with_reducible exact ih2 _ _ _ _ _ _ _ _ _)
      | (with_reducible exact LeO.refl _)
      | (with_reducible exact LeO.none _)
      | (with_reducible refine LeO.ite ?_ ?_)
      | (with_reducible refine LeO.bind ?_ (fun _ => ?_))
      | exact ih0 _ _ _ _ _ _ _ _
      | exact ih1 _ _ _ _ _ _ _ _ _
      | exact ih2 _ _ _ _ _ _ _ _ _
      | exact LeO.none _
      | refine LeO.ite ?_ ?_
      | refine LeO.bind ?_ (fun _ => ?_)
    · intro y0 y1 y2 y3 y4 y5 y6 y7 y8
      unfold quarrylaw12_WholeWidens.j2
      repeat' first
      | (with_reducible exact ih0 _ _ _ _ _ _ _ _)
      | (with_reducible exact ih1 _ _ _ _ _ _ _ _ _)
      | (with_reducible exact ih2 _ _ _ _ _ _ _ _ _)
      | (with_reducible exact LeO.refl _)
      | (with_reducible exact LeO.none _)
      | (with_reducible refine LeO.ite ?_ ?_)
      | (with_reducible refine LeO.bind ?_ (fun _ => ?_))
      | exact ih0 _ _ _ _ _ _ _ _
      | exact ih1 _ _ _ _ _ _ _ _ _
      | exact ih2 _ _ _ _ _ _ _ _ _
      | exact LeO.none _
      | refine LeO.ite ?_ ?_
      | refine LeO.bind ?_ (fun _ => ?_)
theorem quarrylaw12_WholeWidens.mono : ∀ a0 k, LeO (quarrylaw12_WholeWidens.f k a0) (quarrylaw12_WholeWidens.f (k + 1) a0) := by
  intro a0 k
  obtain ⟨ih0, ih1, ih2⟩ := quarrylaw12_WholeWidens.mono_l k
  unfold quarrylaw12_WholeWidens.f
  repeat' first
      | (with_reducible exact ih0 _ _ _ _ _ _ _ _)
      | (with_reducible exact ih1 _ _ _ _ _ _ _ _ _)
      | (with_reducible exact ih2 _ _ _ _ _ _ _ _ _)
      | (with_reducible exact LeO.refl _)
      | (with_reducible exact LeO.none _)
      | (with_reducible refine LeO.ite ?_ ?_)
      | (with_reducible refine LeO.bind ?_ (fun _ => ?_))
      | exact ih0 _ _ _ _ _ _ _ _
      | exact ih1 _ _ _ _ _ _ _ _ _
      | exact ih2 _ _ _ _ _ _ _ _ _
      | exact LeO.none _
      | refine LeO.ite ?_ ?_
      | refine LeO.bind ?_ (fun _ => ?_)
set_option maxHeartbeats 8000000 in
set_option maxRecDepth 100000 in
theorem quarrylaw12_WholeWidens.calls (k : Nat) (a0 : ByteArray) (r : Bool) (w : World) (h : quarrylaw12_WholeWidens.f k a0 = some r) (hT : TabW w := by first | exact hT | exact TabW.drewN hT _ | (refine TabW.below hT ?_; repeat (first | (with_reducible exact HB.out) | (with_reducible exact Below.refl _ _) | apply below_alloc | apply pw_below_drewN | apply below_drew1 | apply below_drew | assumption | refine below_set ?_ (Aside0.out (by assumption))))) :
    Calls Tryd.prog 4 #[.string a0] w fun e w' => e = .returned (.bool r) ∧ Below w.heap.size w w' := by
  have HB := Aside0.mk (Below.refl w.heap.size w)
  have H : ((whole_Int_int8.f a0).bind fun bt103 => ((whole_Int_int16.f a0).bind fun bt105 => ((whole_Int_int32.f a0).bind fun bt107 => ((whole_Int_int64.f a0).bind fun bt109 => (if bt103.2 = 0 then (if bt105.2 = 0 then (if (IntKind.i16.wrap (bt103.1)) = bt105.1 then (if bt107.2 = 0 then (if (wrap32 (bt105.1)) = bt107.1 then (if bt109.2 = 0 then (quarrylaw12_WholeWidens.j0 k a0 bt103.2 bt105.1 bt105.2 bt107.2 bt109.1 bt109.2 ((wrap64 (bt107.1)) != bt109.1)) else (quarrylaw12_WholeWidens.j0 k a0 bt103.2 bt105.1 bt105.2 bt107.2 bt109.1 bt109.2 true)) else (quarrylaw12_WholeWidens.j0 k a0 bt103.2 bt105.1 bt105.2 bt107.2 bt109.1 bt109.2 true)) else (quarrylaw12_WholeWidens.j0 k a0 bt103.2 bt105.1 bt105.2 bt107.2 bt109.1 bt109.2 true)) else (quarrylaw12_WholeWidens.j0 k a0 bt103.2 bt105.1 bt105.2 bt107.2 bt109.1 bt109.2 true)) else (quarrylaw12_WholeWidens.j0 k a0 bt103.2 bt105.1 bt105.2 bt107.2 bt109.1 bt109.2 true)) else (if bt105.2 = 0 then (if bt107.2 = 0 then (if (wrap32 (bt105.1)) = bt107.1 then (if bt109.2 = 0 then (quarrylaw12_WholeWidens.j0 k a0 bt103.2 bt105.1 bt105.2 bt107.2 bt109.1 bt109.2 ((wrap64 (bt107.1)) != bt109.1)) else (quarrylaw12_WholeWidens.j0 k a0 bt103.2 bt105.1 bt105.2 bt107.2 bt109.1 bt109.2 true)) else (quarrylaw12_WholeWidens.j0 k a0 bt103.2 bt105.1 bt105.2 bt107.2 bt109.1 bt109.2 true)) else (quarrylaw12_WholeWidens.j0 k a0 bt103.2 bt105.1 bt105.2 bt107.2 bt109.1 bt109.2 true)) else (if bt107.2 = 0 then (if bt109.2 = 0 then (quarrylaw12_WholeWidens.j0 k a0 bt103.2 bt105.1 bt105.2 bt107.2 bt109.1 bt109.2 ((wrap64 (bt107.1)) != bt109.1)) else (quarrylaw12_WholeWidens.j0 k a0 bt103.2 bt105.1 bt105.2 bt107.2 bt109.1 bt109.2 true)) else (quarrylaw12_WholeWidens.j0 k a0 bt103.2 bt105.1 bt105.2 bt107.2 bt109.1 bt109.2 false)))))))) = some r := h
  clear h
  replace H := Option.bind_eq_some_iff.mp H
  obtain ⟨⟨t103, t104⟩, A20, H⟩ := H
  replace H : ((whole_Int_int16.f a0).bind fun bt105 => ((whole_Int_int32.f a0).bind fun bt107 => ((whole_Int_int64.f a0).bind fun bt109 => (if t104 = 0 then (if bt105.2 = 0 then (if (IntKind.i16.wrap (t103)) = bt105.1 then (if bt107.2 = 0 then (if (wrap32 (bt105.1)) = bt107.1 then (if bt109.2 = 0 then (quarrylaw12_WholeWidens.j0 k a0 t104 bt105.1 bt105.2 bt107.2 bt109.1 bt109.2 ((wrap64 (bt107.1)) != bt109.1)) else (quarrylaw12_WholeWidens.j0 k a0 t104 bt105.1 bt105.2 bt107.2 bt109.1 bt109.2 true)) else (quarrylaw12_WholeWidens.j0 k a0 t104 bt105.1 bt105.2 bt107.2 bt109.1 bt109.2 true)) else (quarrylaw12_WholeWidens.j0 k a0 t104 bt105.1 bt105.2 bt107.2 bt109.1 bt109.2 true)) else (quarrylaw12_WholeWidens.j0 k a0 t104 bt105.1 bt105.2 bt107.2 bt109.1 bt109.2 true)) else (quarrylaw12_WholeWidens.j0 k a0 t104 bt105.1 bt105.2 bt107.2 bt109.1 bt109.2 true)) else (if bt105.2 = 0 then (if bt107.2 = 0 then (if (wrap32 (bt105.1)) = bt107.1 then (if bt109.2 = 0 then (quarrylaw12_WholeWidens.j0 k a0 t104 bt105.1 bt105.2 bt107.2 bt109.1 bt109.2 ((wrap64 (bt107.1)) != bt109.1)) else (quarrylaw12_WholeWidens.j0 k a0 t104 bt105.1 bt105.2 bt107.2 bt109.1 bt109.2 true)) else (quarrylaw12_WholeWidens.j0 k a0 t104 bt105.1 bt105.2 bt107.2 bt109.1 bt109.2 true)) else (quarrylaw12_WholeWidens.j0 k a0 t104 bt105.1 bt105.2 bt107.2 bt109.1 bt109.2 true)) else (if bt107.2 = 0 then (if bt109.2 = 0 then (quarrylaw12_WholeWidens.j0 k a0 t104 bt105.1 bt105.2 bt107.2 bt109.1 bt109.2 ((wrap64 (bt107.1)) != bt109.1)) else (quarrylaw12_WholeWidens.j0 k a0 t104 bt105.1 bt105.2 bt107.2 bt109.1 bt109.2 true)) else (quarrylaw12_WholeWidens.j0 k a0 t104 bt105.1 bt105.2 bt107.2 bt109.1 bt109.2 false))))))) = some r := H
  have A2 := Aside0.mk A20
  clear A20
  replace H := Option.bind_eq_some_iff.mp H
  obtain ⟨⟨t105, t106⟩, A30, H⟩ := H
  replace H : ((whole_Int_int32.f a0).bind fun bt107 => ((whole_Int_int64.f a0).bind fun bt109 => (if t104 = 0 then (if t106 = 0 then (if (IntKind.i16.wrap (t103)) = t105 then (if bt107.2 = 0 then (if (wrap32 (t105)) = bt107.1 then (if bt109.2 = 0 then (quarrylaw12_WholeWidens.j0 k a0 t104 t105 t106 bt107.2 bt109.1 bt109.2 ((wrap64 (bt107.1)) != bt109.1)) else (quarrylaw12_WholeWidens.j0 k a0 t104 t105 t106 bt107.2 bt109.1 bt109.2 true)) else (quarrylaw12_WholeWidens.j0 k a0 t104 t105 t106 bt107.2 bt109.1 bt109.2 true)) else (quarrylaw12_WholeWidens.j0 k a0 t104 t105 t106 bt107.2 bt109.1 bt109.2 true)) else (quarrylaw12_WholeWidens.j0 k a0 t104 t105 t106 bt107.2 bt109.1 bt109.2 true)) else (quarrylaw12_WholeWidens.j0 k a0 t104 t105 t106 bt107.2 bt109.1 bt109.2 true)) else (if t106 = 0 then (if bt107.2 = 0 then (if (wrap32 (t105)) = bt107.1 then (if bt109.2 = 0 then (quarrylaw12_WholeWidens.j0 k a0 t104 t105 t106 bt107.2 bt109.1 bt109.2 ((wrap64 (bt107.1)) != bt109.1)) else (quarrylaw12_WholeWidens.j0 k a0 t104 t105 t106 bt107.2 bt109.1 bt109.2 true)) else (quarrylaw12_WholeWidens.j0 k a0 t104 t105 t106 bt107.2 bt109.1 bt109.2 true)) else (quarrylaw12_WholeWidens.j0 k a0 t104 t105 t106 bt107.2 bt109.1 bt109.2 true)) else (if bt107.2 = 0 then (if bt109.2 = 0 then (quarrylaw12_WholeWidens.j0 k a0 t104 t105 t106 bt107.2 bt109.1 bt109.2 ((wrap64 (bt107.1)) != bt109.1)) else (quarrylaw12_WholeWidens.j0 k a0 t104 t105 t106 bt107.2 bt109.1 bt109.2 true)) else (quarrylaw12_WholeWidens.j0 k a0 t104 t105 t106 bt107.2 bt109.1 bt109.2 false)))))) = some r := H
  have A3 := Aside0.mk A30
  clear A30
  replace H := Option.bind_eq_some_iff.mp H
  obtain ⟨⟨t107, t108⟩, A40, H⟩ := H
  replace H : ((whole_Int_int64.f a0).bind fun bt109 => (if t104 = 0 then (if t106 = 0 then (if (IntKind.i16.wrap (t103)) = t105 then (if t108 = 0 then (if (wrap32 (t105)) = t107 then (if bt109.2 = 0 then (quarrylaw12_WholeWidens.j0 k a0 t104 t105 t106 t108 bt109.1 bt109.2 ((wrap64 (t107)) != bt109.1)) else (quarrylaw12_WholeWidens.j0 k a0 t104 t105 t106 t108 bt109.1 bt109.2 true)) else (quarrylaw12_WholeWidens.j0 k a0 t104 t105 t106 t108 bt109.1 bt109.2 true)) else (quarrylaw12_WholeWidens.j0 k a0 t104 t105 t106 t108 bt109.1 bt109.2 true)) else (quarrylaw12_WholeWidens.j0 k a0 t104 t105 t106 t108 bt109.1 bt109.2 true)) else (quarrylaw12_WholeWidens.j0 k a0 t104 t105 t106 t108 bt109.1 bt109.2 true)) else (if t106 = 0 then (if t108 = 0 then (if (wrap32 (t105)) = t107 then (if bt109.2 = 0 then (quarrylaw12_WholeWidens.j0 k a0 t104 t105 t106 t108 bt109.1 bt109.2 ((wrap64 (t107)) != bt109.1)) else (quarrylaw12_WholeWidens.j0 k a0 t104 t105 t106 t108 bt109.1 bt109.2 true)) else (quarrylaw12_WholeWidens.j0 k a0 t104 t105 t106 t108 bt109.1 bt109.2 true)) else (quarrylaw12_WholeWidens.j0 k a0 t104 t105 t106 t108 bt109.1 bt109.2 true)) else (if t108 = 0 then (if bt109.2 = 0 then (quarrylaw12_WholeWidens.j0 k a0 t104 t105 t106 t108 bt109.1 bt109.2 ((wrap64 (t107)) != bt109.1)) else (quarrylaw12_WholeWidens.j0 k a0 t104 t105 t106 t108 bt109.1 bt109.2 true)) else (quarrylaw12_WholeWidens.j0 k a0 t104 t105 t106 t108 bt109.1 bt109.2 false))))) = some r := H
  have A4 := Aside0.mk A40
  clear A40
  replace H := Option.bind_eq_some_iff.mp H
  obtain ⟨⟨t109, t110⟩, A50, H⟩ := H
  replace H : (if t104 = 0 then (if t106 = 0 then (if (IntKind.i16.wrap (t103)) = t105 then (if t108 = 0 then (if (wrap32 (t105)) = t107 then (if t110 = 0 then (quarrylaw12_WholeWidens.j0 k a0 t104 t105 t106 t108 t109 t110 ((wrap64 (t107)) != t109)) else (quarrylaw12_WholeWidens.j0 k a0 t104 t105 t106 t108 t109 t110 true)) else (quarrylaw12_WholeWidens.j0 k a0 t104 t105 t106 t108 t109 t110 true)) else (quarrylaw12_WholeWidens.j0 k a0 t104 t105 t106 t108 t109 t110 true)) else (quarrylaw12_WholeWidens.j0 k a0 t104 t105 t106 t108 t109 t110 true)) else (quarrylaw12_WholeWidens.j0 k a0 t104 t105 t106 t108 t109 t110 true)) else (if t106 = 0 then (if t108 = 0 then (if (wrap32 (t105)) = t107 then (if t110 = 0 then (quarrylaw12_WholeWidens.j0 k a0 t104 t105 t106 t108 t109 t110 ((wrap64 (t107)) != t109)) else (quarrylaw12_WholeWidens.j0 k a0 t104 t105 t106 t108 t109 t110 true)) else (quarrylaw12_WholeWidens.j0 k a0 t104 t105 t106 t108 t109 t110 true)) else (quarrylaw12_WholeWidens.j0 k a0 t104 t105 t106 t108 t109 t110 true)) else (if t108 = 0 then (if t110 = 0 then (quarrylaw12_WholeWidens.j0 k a0 t104 t105 t106 t108 t109 t110 ((wrap64 (t107)) != t109)) else (quarrylaw12_WholeWidens.j0 k a0 t104 t105 t106 t108 t109 t110 true)) else (quarrylaw12_WholeWidens.j0 k a0 t104 t105 t106 t108 t109 t110 false)))) = some r := H
  have A5 := Aside0.mk A50
  clear A50
  have HC6 := Aside0.mk H
  clear H
  go_enter Tryd.func4, Tryd.ntmps4
  go_upto_region 5 with (first | ((with_reducible refine gate_callee (f := 23) rfl ?_); refine goesL_ (some 21) rfl rfl Tryd.func23 (by kernel_rfl) rfl #[.string a0] rfl (by (try simp only [List.map_toArray, List.map_cons, List.map_nil]); first | done | rfl | (simp only [List.length_drop, List.length_take]; rfl)) ?_; (with_reducible refine (whole_Int_int8.calls a0 t103 t104 _ A2.out).mono ?_); rintro e w7 ⟨rfl, hb⟩; refine ⟨_, rfl, ?_⟩; have n0_ := Aside0.mk (below_step (by repeat (first | (with_reducible first | exact HB.out | apply below_alloc | apply pw_below_drewN | apply below_drew1) | exact HB.out)) hb); clear HB; have HB := n0_; clear n0_; (try clear hb); (try clear hb2); (try clear hk); (try clear hi)) | ((with_reducible refine gate_callee (f := 24) rfl ?_); refine goesL_ (some 26) rfl rfl Tryd.func24 (by kernel_rfl) rfl #[.string a0] rfl (by (try simp only [List.map_toArray, List.map_cons, List.map_nil]); first | done | rfl | (simp only [List.length_drop, List.length_take]; rfl)) ?_; (with_reducible refine (whole_Int_int16.calls a0 t105 t106 _ A3.out).mono ?_); rintro e w8 ⟨rfl, hb⟩; refine ⟨_, rfl, ?_⟩; have n0_ := Aside0.mk (below_step (by repeat (first | (with_reducible first | exact HB.out | apply below_alloc | apply pw_below_drewN | apply below_drew1) | exact HB.out)) hb); clear HB; have HB := n0_; clear n0_; (try clear hb); (try clear hb2); (try clear hk); (try clear hi)) | ((with_reducible refine gate_callee (f := 25) rfl ?_); refine goesL_ (some 31) rfl rfl Tryd.func25 (by kernel_rfl) rfl #[.string a0] rfl (by (try simp only [List.map_toArray, List.map_cons, List.map_nil]); first | done | rfl | (simp only [List.length_drop, List.length_take]; rfl)) ?_; (with_reducible refine (whole_Int_int32.calls a0 t107 t108 _ A4.out).mono ?_); rintro e w9 ⟨rfl, hb⟩; refine ⟨_, rfl, ?_⟩; have n0_ := Aside0.mk (below_step (by repeat (first | (with_reducible first | exact HB.out | apply below_alloc | apply pw_below_drewN | apply below_drew1) | exact HB.out)) hb); clear HB; have HB := n0_; clear n0_; (try clear hb); (try clear hb2); (try clear hk); (try clear hi)) | ((with_reducible refine gate_callee (f := 26) rfl ?_); refine goesL_ (some 36) rfl rfl Tryd.func26 (by kernel_rfl) rfl #[.string a0] rfl (by (try simp only [List.map_toArray, List.map_cons, List.map_nil]); first | done | rfl | (simp only [List.length_drop, List.length_take]; rfl)) ?_; (with_reducible refine (whole_Int_int64.calls a0 t109 t110 _ A5.out).mono ?_); rintro e w10 ⟨rfl, hb⟩; refine ⟨_, rfl, ?_⟩; have n0_ := Aside0.mk (below_step (by repeat (first | (with_reducible first | exact HB.out | apply below_alloc | apply pw_below_drewN | apply below_drew1) | exact HB.out)) hb); clear HB; have HB := n0_; clear n0_; (try clear hb); (try clear hb2); (try clear hk); (try clear hi)))
  (try simp only [Act.put, List.setIfInBounds_toArray, List.set_cons_zero, List.set_cons_succ])
  go_cut [78] (fun v78 wc => ∃ (kq : Nat) (x78_5 : Bool), v78 = .bool x78_5 ∧ Aside0 (quarrylaw12_WholeWidens.j0 kq a0 t104 t105 t106 t108 t109 t110 x78_5 = some r) ∧ Aside0 (kq ≤ k) ∧ Aside0 (Below w.heap.size w wc))
  case first => as_aux_lemma =>
    have H := HC6.out
    clear HC6
    by_cases c11 : t104 = 0
    · rw [if_pos c11] at H
      have c11b0 : (t104 == 0) = true := beq_iff_eq.mpr c11
      have c11b1 : (t104 != 0) = false := bne_eq_false_iff_eq.mpr c11
      clear c11
      (first | rw [c11b0] | (simp only [i64_w, i32_w]; rw [c11b0]) | skip)
      by_cases c12 : t106 = 0
      · rw [if_pos c12] at H
        have c12b0 : (t106 == 0) = true := beq_iff_eq.mpr c12
        have c12b1 : (t106 != 0) = false := bne_eq_false_iff_eq.mpr c12
        clear c12
        by_cases c13 : (IntKind.i16.wrap (t103)) = t105
        · rw [if_pos c13] at H
          have c13b0 : ((IntKind.i16.wrap (t103)) == t105) = true := beq_iff_eq.mpr c13
          have c13b1 : ((IntKind.i16.wrap (t103)) != t105) = false := bne_eq_false_iff_eq.mpr c13
          clear c13
          by_cases c14 : t108 = 0
          · rw [if_pos c14] at H
            have c14b0 : (t108 == 0) = true := beq_iff_eq.mpr c14
            have c14b1 : (t108 != 0) = false := bne_eq_false_iff_eq.mpr c14
            clear c14
            by_cases c15 : (wrap32 (t105)) = t107
            · rw [if_pos c15] at H
              have c15b0 : ((wrap32 (t105)) == t107) = true := beq_iff_eq.mpr c15
              have c15b1 : ((wrap32 (t105)) != t107) = false := bne_eq_false_iff_eq.mpr c15
              clear c15
              by_cases c16 : t110 = 0
              · rw [if_pos c16] at H
                have c16b0 : (t110 == 0) = true := beq_iff_eq.mpr c16
                have c16b1 : (t110 != 0) = false := bne_eq_false_iff_eq.mpr c16
                clear c16
                have H' := Aside0.mk H
                clear H
                go_wp2
                go_meet
                case rel => exact ⟨_, (((wrap64 (t107)) != t109)), (by first | rfl | (simp; done) | (simp [*]; done)), H', ⟨by first | omega | exact Nat.le_refl _⟩, ⟨by repeat (first | (with_reducible first | exact HB.out | apply below_alloc | apply pw_below_drewN | apply below_drew1) | exact HB.out)⟩⟩
              · rw [if_neg c16] at H
                have c16b0 : (t110 == 0) = false := beq_eq_false_iff_ne.mpr c16
                have c16b1 : (t110 != 0) = true := bne_iff_ne.mpr c16
                have H' := Aside0.mk H
                clear H
                go_wp2
                go_meet
                case rel => exact ⟨_, (true), (by first | rfl | (simp; done) | (simp [*]; done)), H', ⟨by first | omega | exact Nat.le_refl _⟩, ⟨by repeat (first | (with_reducible first | exact HB.out | apply below_alloc | apply pw_below_drewN | apply below_drew1) | exact HB.out)⟩⟩
            · rw [if_neg c15] at H
              have c15b0 : ((wrap32 (t105)) == t107) = false := beq_eq_false_iff_ne.mpr c15
              have c15b1 : ((wrap32 (t105)) != t107) = true := bne_iff_ne.mpr c15
              have H' := Aside0.mk H
              clear H
              go_wp2
              go_meet
              case rel => exact ⟨_, (true), (by first | rfl | (simp; done) | (simp [*]; done)), H', ⟨by first | omega | exact Nat.le_refl _⟩, ⟨by repeat (first | (with_reducible first | exact HB.out | apply below_alloc | apply pw_below_drewN | apply below_drew1) | exact HB.out)⟩⟩
          · rw [if_neg c14] at H
            have c14b0 : (t108 == 0) = false := beq_eq_false_iff_ne.mpr c14
            have c14b1 : (t108 != 0) = true := bne_iff_ne.mpr c14
            have H' := Aside0.mk H
            clear H
            go_wp2
            go_meet
            case rel => exact ⟨_, (true), (by first | rfl | (simp; done) | (simp [*]; done)), H', ⟨by first | omega | exact Nat.le_refl _⟩, ⟨by repeat (first | (with_reducible first | exact HB.out | apply below_alloc | apply pw_below_drewN | apply below_drew1) | exact HB.out)⟩⟩
        · rw [if_neg c13] at H
          have c13b0 : ((IntKind.i16.wrap (t103)) == t105) = false := beq_eq_false_iff_ne.mpr c13
          have c13b1 : ((IntKind.i16.wrap (t103)) != t105) = true := bne_iff_ne.mpr c13
          have H' := Aside0.mk H
          clear H
          go_wp2
          go_meet
          case rel => exact ⟨_, (true), (by first | rfl | (simp; done) | (simp [*]; done)), H', ⟨by first | omega | exact Nat.le_refl _⟩, ⟨by repeat (first | (with_reducible first | exact HB.out | apply below_alloc | apply pw_below_drewN | apply below_drew1) | exact HB.out)⟩⟩
      · rw [if_neg c12] at H
        have c12b0 : (t106 == 0) = false := beq_eq_false_iff_ne.mpr c12
        have c12b1 : (t106 != 0) = true := bne_iff_ne.mpr c12
        have H' := Aside0.mk H
        clear H
        go_wp2
        go_meet
        case rel => exact ⟨_, (true), (by first | rfl | (simp; done) | (simp [*]; done)), H', ⟨by first | omega | exact Nat.le_refl _⟩, ⟨by repeat (first | (with_reducible first | exact HB.out | apply below_alloc | apply pw_below_drewN | apply below_drew1) | exact HB.out)⟩⟩
    · rw [if_neg c11] at H
      have c11b0 : (t104 == 0) = false := beq_eq_false_iff_ne.mpr c11
      have c11b1 : (t104 != 0) = true := bne_iff_ne.mpr c11
      (first | rw [c11b0] | (simp only [i64_w, i32_w]; rw [c11b0]) | skip)
      by_cases c17 : t106 = 0
      · rw [if_pos c17] at H
        have c17b0 : (t106 == 0) = true := beq_iff_eq.mpr c17
        have c17b1 : (t106 != 0) = false := bne_eq_false_iff_eq.mpr c17
        clear c17
        by_cases c18 : t108 = 0
        · rw [if_pos c18] at H
          have c18b0 : (t108 == 0) = true := beq_iff_eq.mpr c18
          have c18b1 : (t108 != 0) = false := bne_eq_false_iff_eq.mpr c18
          clear c18
          by_cases c19 : (wrap32 (t105)) = t107
          · rw [if_pos c19] at H
            have c19b0 : ((wrap32 (t105)) == t107) = true := beq_iff_eq.mpr c19
            have c19b1 : ((wrap32 (t105)) != t107) = false := bne_eq_false_iff_eq.mpr c19
            clear c19
            by_cases c20 : t110 = 0
            · rw [if_pos c20] at H
              have c20b0 : (t110 == 0) = true := beq_iff_eq.mpr c20
              have c20b1 : (t110 != 0) = false := bne_eq_false_iff_eq.mpr c20
              clear c20
              have H' := Aside0.mk H
              clear H
              go_wp2
              go_meet
              case rel => exact ⟨_, (((wrap64 (t107)) != t109)), (by first | rfl | (simp; done) | (simp [*]; done)), H', ⟨by first | omega | exact Nat.le_refl _⟩, ⟨by repeat (first | (with_reducible first | exact HB.out | apply below_alloc | apply pw_below_drewN | apply below_drew1) | exact HB.out)⟩⟩
            · rw [if_neg c20] at H
              have c20b0 : (t110 == 0) = false := beq_eq_false_iff_ne.mpr c20
              have c20b1 : (t110 != 0) = true := bne_iff_ne.mpr c20
              have H' := Aside0.mk H
              clear H
              go_wp2
              go_meet
              case rel => exact ⟨_, (true), (by first | rfl | (simp; done) | (simp [*]; done)), H', ⟨by first | omega | exact Nat.le_refl _⟩, ⟨by repeat (first | (with_reducible first | exact HB.out | apply below_alloc | apply pw_below_drewN | apply below_drew1) | exact HB.out)⟩⟩
          · rw [if_neg c19] at H
            have c19b0 : ((wrap32 (t105)) == t107) = false := beq_eq_false_iff_ne.mpr c19
            have c19b1 : ((wrap32 (t105)) != t107) = true := bne_iff_ne.mpr c19
            have H' := Aside0.mk H
            clear H
            go_wp2
            go_meet
            case rel => exact ⟨_, (true), (by first | rfl | (simp; done) | (simp [*]; done)), H', ⟨by first | omega | exact Nat.le_refl _⟩, ⟨by repeat (first | (with_reducible first | exact HB.out | apply below_alloc | apply pw_below_drewN | apply below_drew1) | exact HB.out)⟩⟩
        · rw [if_neg c18] at H
          have c18b0 : (t108 == 0) = false := beq_eq_false_iff_ne.mpr c18
          have c18b1 : (t108 != 0) = true := bne_iff_ne.mpr c18
          have H' := Aside0.mk H
          clear H
          go_wp2
          go_meet
          case rel => exact ⟨_, (true), (by first | rfl | (simp; done) | (simp [*]; done)), H', ⟨by first | omega | exact Nat.le_refl _⟩, ⟨by repeat (first | (with_reducible first | exact HB.out | apply below_alloc | apply pw_below_drewN | apply below_drew1) | exact HB.out)⟩⟩
      · rw [if_neg c17] at H
        have c17b0 : (t106 == 0) = false := beq_eq_false_iff_ne.mpr c17
        have c17b1 : (t106 != 0) = true := bne_iff_ne.mpr c17
        by_cases c21 : t108 = 0
        · rw [if_pos c21] at H
          have c21b0 : (t108 == 0) = true := beq_iff_eq.mpr c21
          have c21b1 : (t108 != 0) = false := bne_eq_false_iff_eq.mpr c21
          clear c21
          by_cases c22 : t110 = 0
          · rw [if_pos c22] at H
            have c22b0 : (t110 == 0) = true := beq_iff_eq.mpr c22
            have c22b1 : (t110 != 0) = false := bne_eq_false_iff_eq.mpr c22
            clear c22
            have H' := Aside0.mk H
            clear H
            go_wp2
            go_meet
            case rel => exact ⟨_, (((wrap64 (t107)) != t109)), (by first | rfl | (simp; done) | (simp [*]; done)), H', ⟨by first | omega | exact Nat.le_refl _⟩, ⟨by repeat (first | (with_reducible first | exact HB.out | apply below_alloc | apply pw_below_drewN | apply below_drew1) | exact HB.out)⟩⟩
          · rw [if_neg c22] at H
            have c22b0 : (t110 == 0) = false := beq_eq_false_iff_ne.mpr c22
            have c22b1 : (t110 != 0) = true := bne_iff_ne.mpr c22
            have H' := Aside0.mk H
            clear H
            go_wp2
            go_meet
            case rel => exact ⟨_, (true), (by first | rfl | (simp; done) | (simp [*]; done)), H', ⟨by first | omega | exact Nat.le_refl _⟩, ⟨by repeat (first | (with_reducible first | exact HB.out | apply below_alloc | apply pw_below_drewN | apply below_drew1) | exact HB.out)⟩⟩
        · rw [if_neg c21] at H
          have c21b0 : (t108 == 0) = false := beq_eq_false_iff_ne.mpr c21
          have c21b1 : (t108 != 0) = true := bne_iff_ne.mpr c21
          have H' := Aside0.mk H
          clear H
          go_wp2
          go_meet
          case rel => exact ⟨_, (false), (by first | rfl | (simp; done) | (simp [*]; done)), H', ⟨by first | omega | exact Nat.le_refl _⟩, ⟨by repeat (first | (with_reducible first | exact HB.out | apply below_alloc | apply pw_below_drewN | apply below_drew1) | exact HB.out)⟩⟩
  case rest => as_aux_lemma =>
    clear HC6
    try clear c1
    try clear c2
    try clear p2
    try clear p3
    try clear c4
    try clear p6
    try clear c11
    try clear c11b0
    try clear c11b1
    try clear c12
    try clear c12b0
    try clear c12b1
    try clear c13
    try clear c13b0
    try clear c13b1
    try clear c14
    try clear c14b0
    try clear c14b1
    try clear c15
    try clear c15b0
    try clear c15b1
    try clear c16
    try clear c16b0
    try clear c16b1
    try clear c17
    try clear c17b0
    try clear c17b1
    try clear c18
    try clear c18b0
    try clear c18b1
    try clear c19
    try clear c19b0
    try clear c19b1
    try clear c20
    try clear c20b0
    try clear c20b1
    try clear c21
    try clear c21b0
    try clear c21b1
    try clear c22
    try clear c22b0
    try clear c22b1
    obtain ⟨kq, x78_5, rfl, HA, HJ5, HB⟩ := hcut
    cases kq with
    | zero => exact absurd HA.out (by simp [quarrylaw12_WholeWidens.j0])
    | succ kj5 =>
      have H := HA.out
      clear HA
      simp only [quarrylaw12_WholeWidens.j0] at H
      by_cases c23 : x78_5 = true
      · subst c23
        have H1 : (none) = some r := by rw [if_pos rfl] at H; exact H
        clear H
        have H := H1
        clear H1
        exact absurd H (by simp)
      · replace c23 := Bool.eq_false_iff.mpr c23
        subst c23
        have H1 : ((whole_Uint_uint8.f a0).bind fun bt111 => ((whole_Uint_uint16.f a0).bind fun bt113 => ((whole_Uint_uint32.f a0).bind fun bt115 => ((whole_Uint_uint64.f a0).bind fun bt117 => (if bt111.2 = 0 then (if bt113.2 = 0 then (if (IntKind.u16.wrap (bt111.1)) = bt113.1 then (if t106 = 0 then (if (IntKind.i16.wrap (bt111.1)) = t105 then (if bt115.2 = 0 then (if ((bt113.1) % 4294967296) = bt115.1 then (if bt117.2 = 0 then (if (IntKind.u64.wrap (bt115.1)) = bt117.1 then (if t110 = 0 then (quarrylaw12_WholeWidens.j1 kj5 t104 t106 t108 t110 bt111.2 bt113.2 bt115.2 bt117.2 ((wrap64 (bt115.1)) != t109)) else (quarrylaw12_WholeWidens.j1 kj5 t104 t106 t108 t110 bt111.2 bt113.2 bt115.2 bt117.2 true)) else (quarrylaw12_WholeWidens.j1 kj5 t104 t106 t108 t110 bt111.2 bt113.2 bt115.2 bt117.2 true)) else (quarrylaw12_WholeWidens.j1 kj5 t104 t106 t108 t110 bt111.2 bt113.2 bt115.2 bt117.2 true)) else (quarrylaw12_WholeWidens.j1 kj5 t104 t106 t108 t110 bt111.2 bt113.2 bt115.2 bt117.2 true)) else (quarrylaw12_WholeWidens.j1 kj5 t104 t106 t108 t110 bt111.2 bt113.2 bt115.2 bt117.2 true)) else (quarrylaw12_WholeWidens.j1 kj5 t104 t106 t108 t110 bt111.2 bt113.2 bt115.2 bt117.2 true)) else (quarrylaw12_WholeWidens.j1 kj5 t104 t106 t108 t110 bt111.2 bt113.2 bt115.2 bt117.2 true)) else (quarrylaw12_WholeWidens.j1 kj5 t104 t106 t108 t110 bt111.2 bt113.2 bt115.2 bt117.2 true)) else (quarrylaw12_WholeWidens.j1 kj5 t104 t106 t108 t110 bt111.2 bt113.2 bt115.2 bt117.2 true)) else (if bt113.2 = 0 then (if bt115.2 = 0 then (if ((bt113.1) % 4294967296) = bt115.1 then (if bt117.2 = 0 then (if (IntKind.u64.wrap (bt115.1)) = bt117.1 then (if t110 = 0 then (quarrylaw12_WholeWidens.j1 kj5 t104 t106 t108 t110 bt111.2 bt113.2 bt115.2 bt117.2 ((wrap64 (bt115.1)) != t109)) else (quarrylaw12_WholeWidens.j1 kj5 t104 t106 t108 t110 bt111.2 bt113.2 bt115.2 bt117.2 true)) else (quarrylaw12_WholeWidens.j1 kj5 t104 t106 t108 t110 bt111.2 bt113.2 bt115.2 bt117.2 true)) else (quarrylaw12_WholeWidens.j1 kj5 t104 t106 t108 t110 bt111.2 bt113.2 bt115.2 bt117.2 true)) else (quarrylaw12_WholeWidens.j1 kj5 t104 t106 t108 t110 bt111.2 bt113.2 bt115.2 bt117.2 true)) else (quarrylaw12_WholeWidens.j1 kj5 t104 t106 t108 t110 bt111.2 bt113.2 bt115.2 bt117.2 true)) else (if bt115.2 = 0 then (if bt117.2 = 0 then (if (IntKind.u64.wrap (bt115.1)) = bt117.1 then (if t110 = 0 then (quarrylaw12_WholeWidens.j1 kj5 t104 t106 t108 t110 bt111.2 bt113.2 bt115.2 bt117.2 ((wrap64 (bt115.1)) != t109)) else (quarrylaw12_WholeWidens.j1 kj5 t104 t106 t108 t110 bt111.2 bt113.2 bt115.2 bt117.2 true)) else (quarrylaw12_WholeWidens.j1 kj5 t104 t106 t108 t110 bt111.2 bt113.2 bt115.2 bt117.2 true)) else (quarrylaw12_WholeWidens.j1 kj5 t104 t106 t108 t110 bt111.2 bt113.2 bt115.2 bt117.2 true)) else (quarrylaw12_WholeWidens.j1 kj5 t104 t106 t108 t110 bt111.2 bt113.2 bt115.2 bt117.2 false)))))))) = some r := by rw [if_neg (show ¬ (false = true) by decide)] at H; exact H
        clear H
        have H := H1
        clear H1
        replace H := Option.bind_eq_some_iff.mp H
        obtain ⟨⟨t111, t112⟩, A240, H⟩ := H
        replace H : ((whole_Uint_uint16.f a0).bind fun bt113 => ((whole_Uint_uint32.f a0).bind fun bt115 => ((whole_Uint_uint64.f a0).bind fun bt117 => (if t112 = 0 then (if bt113.2 = 0 then (if (IntKind.u16.wrap (t111)) = bt113.1 then (if t106 = 0 then (if (IntKind.i16.wrap (t111)) = t105 then (if bt115.2 = 0 then (if ((bt113.1) % 4294967296) = bt115.1 then (if bt117.2 = 0 then (if (IntKind.u64.wrap (bt115.1)) = bt117.1 then (if t110 = 0 then (quarrylaw12_WholeWidens.j1 kj5 t104 t106 t108 t110 t112 bt113.2 bt115.2 bt117.2 ((wrap64 (bt115.1)) != t109)) else (quarrylaw12_WholeWidens.j1 kj5 t104 t106 t108 t110 t112 bt113.2 bt115.2 bt117.2 true)) else (quarrylaw12_WholeWidens.j1 kj5 t104 t106 t108 t110 t112 bt113.2 bt115.2 bt117.2 true)) else (quarrylaw12_WholeWidens.j1 kj5 t104 t106 t108 t110 t112 bt113.2 bt115.2 bt117.2 true)) else (quarrylaw12_WholeWidens.j1 kj5 t104 t106 t108 t110 t112 bt113.2 bt115.2 bt117.2 true)) else (quarrylaw12_WholeWidens.j1 kj5 t104 t106 t108 t110 t112 bt113.2 bt115.2 bt117.2 true)) else (quarrylaw12_WholeWidens.j1 kj5 t104 t106 t108 t110 t112 bt113.2 bt115.2 bt117.2 true)) else (quarrylaw12_WholeWidens.j1 kj5 t104 t106 t108 t110 t112 bt113.2 bt115.2 bt117.2 true)) else (quarrylaw12_WholeWidens.j1 kj5 t104 t106 t108 t110 t112 bt113.2 bt115.2 bt117.2 true)) else (quarrylaw12_WholeWidens.j1 kj5 t104 t106 t108 t110 t112 bt113.2 bt115.2 bt117.2 true)) else (if bt113.2 = 0 then (if bt115.2 = 0 then (if ((bt113.1) % 4294967296) = bt115.1 then (if bt117.2 = 0 then (if (IntKind.u64.wrap (bt115.1)) = bt117.1 then (if t110 = 0 then (quarrylaw12_WholeWidens.j1 kj5 t104 t106 t108 t110 t112 bt113.2 bt115.2 bt117.2 ((wrap64 (bt115.1)) != t109)) else (quarrylaw12_WholeWidens.j1 kj5 t104 t106 t108 t110 t112 bt113.2 bt115.2 bt117.2 true)) else (quarrylaw12_WholeWidens.j1 kj5 t104 t106 t108 t110 t112 bt113.2 bt115.2 bt117.2 true)) else (quarrylaw12_WholeWidens.j1 kj5 t104 t106 t108 t110 t112 bt113.2 bt115.2 bt117.2 true)) else (quarrylaw12_WholeWidens.j1 kj5 t104 t106 t108 t110 t112 bt113.2 bt115.2 bt117.2 true)) else (quarrylaw12_WholeWidens.j1 kj5 t104 t106 t108 t110 t112 bt113.2 bt115.2 bt117.2 true)) else (if bt115.2 = 0 then (if bt117.2 = 0 then (if (IntKind.u64.wrap (bt115.1)) = bt117.1 then (if t110 = 0 then (quarrylaw12_WholeWidens.j1 kj5 t104 t106 t108 t110 t112 bt113.2 bt115.2 bt117.2 ((wrap64 (bt115.1)) != t109)) else (quarrylaw12_WholeWidens.j1 kj5 t104 t106 t108 t110 t112 bt113.2 bt115.2 bt117.2 true)) else (quarrylaw12_WholeWidens.j1 kj5 t104 t106 t108 t110 t112 bt113.2 bt115.2 bt117.2 true)) else (quarrylaw12_WholeWidens.j1 kj5 t104 t106 t108 t110 t112 bt113.2 bt115.2 bt117.2 true)) else (quarrylaw12_WholeWidens.j1 kj5 t104 t106 t108 t110 t112 bt113.2 bt115.2 bt117.2 false))))))) = some r := H
        have A24 := Aside0.mk A240
        clear A240
        replace H := Option.bind_eq_some_iff.mp H
        obtain ⟨⟨t113, t114⟩, A250, H⟩ := H
        replace H : ((whole_Uint_uint32.f a0).bind fun bt115 => ((whole_Uint_uint64.f a0).bind fun bt117 => (if t112 = 0 then (if t114 = 0 then (if (IntKind.u16.wrap (t111)) = t113 then (if t106 = 0 then (if (IntKind.i16.wrap (t111)) = t105 then (if bt115.2 = 0 then (if ((t113) % 4294967296) = bt115.1 then (if bt117.2 = 0 then (if (IntKind.u64.wrap (bt115.1)) = bt117.1 then (if t110 = 0 then (quarrylaw12_WholeWidens.j1 kj5 t104 t106 t108 t110 t112 t114 bt115.2 bt117.2 ((wrap64 (bt115.1)) != t109)) else (quarrylaw12_WholeWidens.j1 kj5 t104 t106 t108 t110 t112 t114 bt115.2 bt117.2 true)) else (quarrylaw12_WholeWidens.j1 kj5 t104 t106 t108 t110 t112 t114 bt115.2 bt117.2 true)) else (quarrylaw12_WholeWidens.j1 kj5 t104 t106 t108 t110 t112 t114 bt115.2 bt117.2 true)) else (quarrylaw12_WholeWidens.j1 kj5 t104 t106 t108 t110 t112 t114 bt115.2 bt117.2 true)) else (quarrylaw12_WholeWidens.j1 kj5 t104 t106 t108 t110 t112 t114 bt115.2 bt117.2 true)) else (quarrylaw12_WholeWidens.j1 kj5 t104 t106 t108 t110 t112 t114 bt115.2 bt117.2 true)) else (quarrylaw12_WholeWidens.j1 kj5 t104 t106 t108 t110 t112 t114 bt115.2 bt117.2 true)) else (quarrylaw12_WholeWidens.j1 kj5 t104 t106 t108 t110 t112 t114 bt115.2 bt117.2 true)) else (quarrylaw12_WholeWidens.j1 kj5 t104 t106 t108 t110 t112 t114 bt115.2 bt117.2 true)) else (if t114 = 0 then (if bt115.2 = 0 then (if ((t113) % 4294967296) = bt115.1 then (if bt117.2 = 0 then (if (IntKind.u64.wrap (bt115.1)) = bt117.1 then (if t110 = 0 then (quarrylaw12_WholeWidens.j1 kj5 t104 t106 t108 t110 t112 t114 bt115.2 bt117.2 ((wrap64 (bt115.1)) != t109)) else (quarrylaw12_WholeWidens.j1 kj5 t104 t106 t108 t110 t112 t114 bt115.2 bt117.2 true)) else (quarrylaw12_WholeWidens.j1 kj5 t104 t106 t108 t110 t112 t114 bt115.2 bt117.2 true)) else (quarrylaw12_WholeWidens.j1 kj5 t104 t106 t108 t110 t112 t114 bt115.2 bt117.2 true)) else (quarrylaw12_WholeWidens.j1 kj5 t104 t106 t108 t110 t112 t114 bt115.2 bt117.2 true)) else (quarrylaw12_WholeWidens.j1 kj5 t104 t106 t108 t110 t112 t114 bt115.2 bt117.2 true)) else (if bt115.2 = 0 then (if bt117.2 = 0 then (if (IntKind.u64.wrap (bt115.1)) = bt117.1 then (if t110 = 0 then (quarrylaw12_WholeWidens.j1 kj5 t104 t106 t108 t110 t112 t114 bt115.2 bt117.2 ((wrap64 (bt115.1)) != t109)) else (quarrylaw12_WholeWidens.j1 kj5 t104 t106 t108 t110 t112 t114 bt115.2 bt117.2 true)) else (quarrylaw12_WholeWidens.j1 kj5 t104 t106 t108 t110 t112 t114 bt115.2 bt117.2 true)) else (quarrylaw12_WholeWidens.j1 kj5 t104 t106 t108 t110 t112 t114 bt115.2 bt117.2 true)) else (quarrylaw12_WholeWidens.j1 kj5 t104 t106 t108 t110 t112 t114 bt115.2 bt117.2 false)))))) = some r := H
        have A25 := Aside0.mk A250
        clear A250
        replace H := Option.bind_eq_some_iff.mp H
        obtain ⟨⟨t115, t116⟩, A260, H⟩ := H
        replace H : ((whole_Uint_uint64.f a0).bind fun bt117 => (if t112 = 0 then (if t114 = 0 then (if (IntKind.u16.wrap (t111)) = t113 then (if t106 = 0 then (if (IntKind.i16.wrap (t111)) = t105 then (if t116 = 0 then (if ((t113) % 4294967296) = t115 then (if bt117.2 = 0 then (if (IntKind.u64.wrap (t115)) = bt117.1 then (if t110 = 0 then (quarrylaw12_WholeWidens.j1 kj5 t104 t106 t108 t110 t112 t114 t116 bt117.2 ((wrap64 (t115)) != t109)) else (quarrylaw12_WholeWidens.j1 kj5 t104 t106 t108 t110 t112 t114 t116 bt117.2 true)) else (quarrylaw12_WholeWidens.j1 kj5 t104 t106 t108 t110 t112 t114 t116 bt117.2 true)) else (quarrylaw12_WholeWidens.j1 kj5 t104 t106 t108 t110 t112 t114 t116 bt117.2 true)) else (quarrylaw12_WholeWidens.j1 kj5 t104 t106 t108 t110 t112 t114 t116 bt117.2 true)) else (quarrylaw12_WholeWidens.j1 kj5 t104 t106 t108 t110 t112 t114 t116 bt117.2 true)) else (quarrylaw12_WholeWidens.j1 kj5 t104 t106 t108 t110 t112 t114 t116 bt117.2 true)) else (quarrylaw12_WholeWidens.j1 kj5 t104 t106 t108 t110 t112 t114 t116 bt117.2 true)) else (quarrylaw12_WholeWidens.j1 kj5 t104 t106 t108 t110 t112 t114 t116 bt117.2 true)) else (quarrylaw12_WholeWidens.j1 kj5 t104 t106 t108 t110 t112 t114 t116 bt117.2 true)) else (if t114 = 0 then (if t116 = 0 then (if ((t113) % 4294967296) = t115 then (if bt117.2 = 0 then (if (IntKind.u64.wrap (t115)) = bt117.1 then (if t110 = 0 then (quarrylaw12_WholeWidens.j1 kj5 t104 t106 t108 t110 t112 t114 t116 bt117.2 ((wrap64 (t115)) != t109)) else (quarrylaw12_WholeWidens.j1 kj5 t104 t106 t108 t110 t112 t114 t116 bt117.2 true)) else (quarrylaw12_WholeWidens.j1 kj5 t104 t106 t108 t110 t112 t114 t116 bt117.2 true)) else (quarrylaw12_WholeWidens.j1 kj5 t104 t106 t108 t110 t112 t114 t116 bt117.2 true)) else (quarrylaw12_WholeWidens.j1 kj5 t104 t106 t108 t110 t112 t114 t116 bt117.2 true)) else (quarrylaw12_WholeWidens.j1 kj5 t104 t106 t108 t110 t112 t114 t116 bt117.2 true)) else (if t116 = 0 then (if bt117.2 = 0 then (if (IntKind.u64.wrap (t115)) = bt117.1 then (if t110 = 0 then (quarrylaw12_WholeWidens.j1 kj5 t104 t106 t108 t110 t112 t114 t116 bt117.2 ((wrap64 (t115)) != t109)) else (quarrylaw12_WholeWidens.j1 kj5 t104 t106 t108 t110 t112 t114 t116 bt117.2 true)) else (quarrylaw12_WholeWidens.j1 kj5 t104 t106 t108 t110 t112 t114 t116 bt117.2 true)) else (quarrylaw12_WholeWidens.j1 kj5 t104 t106 t108 t110 t112 t114 t116 bt117.2 true)) else (quarrylaw12_WholeWidens.j1 kj5 t104 t106 t108 t110 t112 t114 t116 bt117.2 false))))) = some r := H
        have A26 := Aside0.mk A260
        clear A260
        replace H := Option.bind_eq_some_iff.mp H
        obtain ⟨⟨t117, t118⟩, A270, H⟩ := H
        replace H : (if t112 = 0 then (if t114 = 0 then (if (IntKind.u16.wrap (t111)) = t113 then (if t106 = 0 then (if (IntKind.i16.wrap (t111)) = t105 then (if t116 = 0 then (if ((t113) % 4294967296) = t115 then (if t118 = 0 then (if (IntKind.u64.wrap (t115)) = t117 then (if t110 = 0 then (quarrylaw12_WholeWidens.j1 kj5 t104 t106 t108 t110 t112 t114 t116 t118 ((wrap64 (t115)) != t109)) else (quarrylaw12_WholeWidens.j1 kj5 t104 t106 t108 t110 t112 t114 t116 t118 true)) else (quarrylaw12_WholeWidens.j1 kj5 t104 t106 t108 t110 t112 t114 t116 t118 true)) else (quarrylaw12_WholeWidens.j1 kj5 t104 t106 t108 t110 t112 t114 t116 t118 true)) else (quarrylaw12_WholeWidens.j1 kj5 t104 t106 t108 t110 t112 t114 t116 t118 true)) else (quarrylaw12_WholeWidens.j1 kj5 t104 t106 t108 t110 t112 t114 t116 t118 true)) else (quarrylaw12_WholeWidens.j1 kj5 t104 t106 t108 t110 t112 t114 t116 t118 true)) else (quarrylaw12_WholeWidens.j1 kj5 t104 t106 t108 t110 t112 t114 t116 t118 true)) else (quarrylaw12_WholeWidens.j1 kj5 t104 t106 t108 t110 t112 t114 t116 t118 true)) else (quarrylaw12_WholeWidens.j1 kj5 t104 t106 t108 t110 t112 t114 t116 t118 true)) else (if t114 = 0 then (if t116 = 0 then (if ((t113) % 4294967296) = t115 then (if t118 = 0 then (if (IntKind.u64.wrap (t115)) = t117 then (if t110 = 0 then (quarrylaw12_WholeWidens.j1 kj5 t104 t106 t108 t110 t112 t114 t116 t118 ((wrap64 (t115)) != t109)) else (quarrylaw12_WholeWidens.j1 kj5 t104 t106 t108 t110 t112 t114 t116 t118 true)) else (quarrylaw12_WholeWidens.j1 kj5 t104 t106 t108 t110 t112 t114 t116 t118 true)) else (quarrylaw12_WholeWidens.j1 kj5 t104 t106 t108 t110 t112 t114 t116 t118 true)) else (quarrylaw12_WholeWidens.j1 kj5 t104 t106 t108 t110 t112 t114 t116 t118 true)) else (quarrylaw12_WholeWidens.j1 kj5 t104 t106 t108 t110 t112 t114 t116 t118 true)) else (if t116 = 0 then (if t118 = 0 then (if (IntKind.u64.wrap (t115)) = t117 then (if t110 = 0 then (quarrylaw12_WholeWidens.j1 kj5 t104 t106 t108 t110 t112 t114 t116 t118 ((wrap64 (t115)) != t109)) else (quarrylaw12_WholeWidens.j1 kj5 t104 t106 t108 t110 t112 t114 t116 t118 true)) else (quarrylaw12_WholeWidens.j1 kj5 t104 t106 t108 t110 t112 t114 t116 t118 true)) else (quarrylaw12_WholeWidens.j1 kj5 t104 t106 t108 t110 t112 t114 t116 t118 true)) else (quarrylaw12_WholeWidens.j1 kj5 t104 t106 t108 t110 t112 t114 t116 t118 false)))) = some r := H
        have A27 := Aside0.mk A270
        clear A270
        have HC28 := Aside0.mk H
        clear H
        go_upto_region 11 with (first | ((with_reducible refine gate_callee (f := 27) rfl ?_); refine goesL_ (some 81) rfl rfl Tryd.func27 (by kernel_rfl) rfl #[.string a0] rfl (by (try simp only [List.map_toArray, List.map_cons, List.map_nil]); first | done | rfl | (simp only [List.length_drop, List.length_take]; rfl)) ?_; (with_reducible refine (whole_Uint_uint8.calls a0 t111 t112 _ A24.out).mono ?_); rintro e w29 ⟨rfl, hb⟩; refine ⟨_, rfl, ?_⟩; have n0_ := Aside0.mk (below_step (by repeat (first | (with_reducible first | exact HB.out | apply below_alloc | apply pw_below_drewN | apply below_drew1) | exact HB.out)) hb); clear HB; have HB := n0_; clear n0_; (try clear hb); (try clear hb2); (try clear hk); (try clear hi)) | ((with_reducible refine gate_callee (f := 28) rfl ?_); refine goesL_ (some 86) rfl rfl Tryd.func28 (by kernel_rfl) rfl #[.string a0] rfl (by (try simp only [List.map_toArray, List.map_cons, List.map_nil]); first | done | rfl | (simp only [List.length_drop, List.length_take]; rfl)) ?_; (with_reducible refine (whole_Uint_uint16.calls a0 t113 t114 _ A25.out).mono ?_); rintro e w30 ⟨rfl, hb⟩; refine ⟨_, rfl, ?_⟩; have n0_ := Aside0.mk (below_step (by repeat (first | (with_reducible first | exact HB.out | apply below_alloc | apply pw_below_drewN | apply below_drew1) | exact HB.out)) hb); clear HB; have HB := n0_; clear n0_; (try clear hb); (try clear hb2); (try clear hk); (try clear hi)) | ((with_reducible refine gate_callee (f := 29) rfl ?_); refine goesL_ (some 91) rfl rfl Tryd.func29 (by kernel_rfl) rfl #[.string a0] rfl (by (try simp only [List.map_toArray, List.map_cons, List.map_nil]); first | done | rfl | (simp only [List.length_drop, List.length_take]; rfl)) ?_; (with_reducible refine (whole_Uint_uint32.calls a0 t115 t116 _ A26.out).mono ?_); rintro e w31 ⟨rfl, hb⟩; refine ⟨_, rfl, ?_⟩; have n0_ := Aside0.mk (below_step (by repeat (first | (with_reducible first | exact HB.out | apply below_alloc | apply pw_below_drewN | apply below_drew1) | exact HB.out)) hb); clear HB; have HB := n0_; clear n0_; (try clear hb); (try clear hb2); (try clear hk); (try clear hi)) | ((with_reducible refine gate_callee (f := 30) rfl ?_); refine goesL_ (some 96) rfl rfl Tryd.func30 (by kernel_rfl) rfl #[.string a0] rfl (by (try simp only [List.map_toArray, List.map_cons, List.map_nil]); first | done | rfl | (simp only [List.length_drop, List.length_take]; rfl)) ?_; (with_reducible refine (whole_Uint_uint64.calls a0 t117 t118 _ A27.out).mono ?_); rintro e w32 ⟨rfl, hb⟩; refine ⟨_, rfl, ?_⟩; have n0_ := Aside0.mk (below_step (by repeat (first | (with_reducible first | exact HB.out | apply below_alloc | apply pw_below_drewN | apply below_drew1) | exact HB.out)) hb); clear HB; have HB := n0_; clear n0_; (try clear hb); (try clear hb2); (try clear hk); (try clear hi)))
        (try simp only [Act.put, List.setIfInBounds_toArray, List.set_cons_zero, List.set_cons_succ])
        go_cut [158] (fun v158 wc => ∃ (kq : Nat) (x158_27 : Bool), v158 = .bool x158_27 ∧ Aside0 (quarrylaw12_WholeWidens.j1 kq t104 t106 t108 t110 t112 t114 t116 t118 x158_27 = some r) ∧ Aside0 (kq ≤ kj5) ∧ Aside0 (Below w.heap.size w wc))
        case first => as_aux_lemma =>
          have H := HC28.out
          clear HC28
          by_cases c33 : t112 = 0
          · rw [if_pos c33] at H
            have c33b0 : (t112 == 0) = true := beq_iff_eq.mpr c33
            have c33b1 : (t112 != 0) = false := bne_eq_false_iff_eq.mpr c33
            clear c33
            (first | rw [c33b0] | (simp only [i64_w, i32_w]; rw [c33b0]) | skip)
            by_cases c34 : t114 = 0
            · rw [if_pos c34] at H
              have c34b0 : (t114 == 0) = true := beq_iff_eq.mpr c34
              have c34b1 : (t114 != 0) = false := bne_eq_false_iff_eq.mpr c34
              clear c34
              by_cases c35 : (IntKind.u16.wrap (t111)) = t113
              · rw [if_pos c35] at H
                have c35b0 : ((IntKind.u16.wrap (t111)) == t113) = true := beq_iff_eq.mpr c35
                have c35b1 : ((IntKind.u16.wrap (t111)) != t113) = false := bne_eq_false_iff_eq.mpr c35
                clear c35
                by_cases c36 : t106 = 0
                · rw [if_pos c36] at H
                  have c36b0 : (t106 == 0) = true := beq_iff_eq.mpr c36
                  have c36b1 : (t106 != 0) = false := bne_eq_false_iff_eq.mpr c36
                  clear c36
                  by_cases c37 : (IntKind.i16.wrap (t111)) = t105
                  · rw [if_pos c37] at H
                    have c37b0 : ((IntKind.i16.wrap (t111)) == t105) = true := beq_iff_eq.mpr c37
                    have c37b1 : ((IntKind.i16.wrap (t111)) != t105) = false := bne_eq_false_iff_eq.mpr c37
                    clear c37
                    by_cases c38 : t116 = 0
                    · rw [if_pos c38] at H
                      have c38b0 : (t116 == 0) = true := beq_iff_eq.mpr c38
                      have c38b1 : (t116 != 0) = false := bne_eq_false_iff_eq.mpr c38
                      clear c38
                      by_cases c39 : ((t113) % 4294967296) = t115
                      · rw [if_pos c39] at H
                        have c39b0 : (((t113) % 4294967296) == t115) = true := beq_iff_eq.mpr c39
                        have c39b1 : (((t113) % 4294967296) != t115) = false := bne_eq_false_iff_eq.mpr c39
                        clear c39
                        by_cases c40 : t118 = 0
                        · rw [if_pos c40] at H
                          have c40b0 : (t118 == 0) = true := beq_iff_eq.mpr c40
                          have c40b1 : (t118 != 0) = false := bne_eq_false_iff_eq.mpr c40
                          clear c40
                          by_cases c41 : (IntKind.u64.wrap (t115)) = t117
                          · rw [if_pos c41] at H
                            have c41b0 : ((IntKind.u64.wrap (t115)) == t117) = true := beq_iff_eq.mpr c41
                            have c41b1 : ((IntKind.u64.wrap (t115)) != t117) = false := bne_eq_false_iff_eq.mpr c41
                            clear c41
                            by_cases c42 : t110 = 0
                            · rw [if_pos c42] at H
                              have c42b0 : (t110 == 0) = true := beq_iff_eq.mpr c42
                              have c42b1 : (t110 != 0) = false := bne_eq_false_iff_eq.mpr c42
                              clear c42
                              have H' := Aside0.mk H
                              clear H
                              go_wp2
                              go_meet
                              case rel => exact ⟨_, (((wrap64 (t115)) != t109)), (by first | rfl | (simp; done) | (simp [*]; done)), H', ⟨by have := HJ5.out; first | omega | exact Nat.le_refl _⟩, ⟨by repeat (first | (with_reducible first | exact HB.out | apply below_alloc | apply pw_below_drewN | apply below_drew1) | exact HB.out)⟩⟩
                            · rw [if_neg c42] at H
                              have c42b0 : (t110 == 0) = false := beq_eq_false_iff_ne.mpr c42
                              have c42b1 : (t110 != 0) = true := bne_iff_ne.mpr c42
                              have H' := Aside0.mk H
                              clear H
                              go_wp2
                              go_meet
                              case rel => exact ⟨_, (true), (by first | rfl | (simp; done) | (simp [*]; done)), H', ⟨by have := HJ5.out; first | omega | exact Nat.le_refl _⟩, ⟨by repeat (first | (with_reducible first | exact HB.out | apply below_alloc | apply pw_below_drewN | apply below_drew1) | exact HB.out)⟩⟩
                          · rw [if_neg c41] at H
                            have c41b0 : ((IntKind.u64.wrap (t115)) == t117) = false := beq_eq_false_iff_ne.mpr c41
                            have c41b1 : ((IntKind.u64.wrap (t115)) != t117) = true := bne_iff_ne.mpr c41
                            have H' := Aside0.mk H
                            clear H
                            go_wp2
                            go_meet
                            case rel => exact ⟨_, (true), (by first | rfl | (simp; done) | (simp [*]; done)), H', ⟨by have := HJ5.out; first | omega | exact Nat.le_refl _⟩, ⟨by repeat (first | (with_reducible first | exact HB.out | apply below_alloc | apply pw_below_drewN | apply below_drew1) | exact HB.out)⟩⟩
                        · rw [if_neg c40] at H
                          have c40b0 : (t118 == 0) = false := beq_eq_false_iff_ne.mpr c40
                          have c40b1 : (t118 != 0) = true := bne_iff_ne.mpr c40
                          have H' := Aside0.mk H
                          clear H
                          go_wp2
                          go_meet
                          case rel => exact ⟨_, (true), (by first | rfl | (simp; done) | (simp [*]; done)), H', ⟨by have := HJ5.out; first | omega | exact Nat.le_refl _⟩, ⟨by repeat (first | (with_reducible first | exact HB.out | apply below_alloc | apply pw_below_drewN | apply below_drew1) | exact HB.out)⟩⟩
                      · rw [if_neg c39] at H
                        have c39b0 : (((t113) % 4294967296) == t115) = false := beq_eq_false_iff_ne.mpr c39
                        have c39b1 : (((t113) % 4294967296) != t115) = true := bne_iff_ne.mpr c39
                        have H' := Aside0.mk H
                        clear H
                        go_wp2
                        go_meet
                        case rel => exact ⟨_, (true), (by first | rfl | (simp; done) | (simp [*]; done)), H', ⟨by have := HJ5.out; first | omega | exact Nat.le_refl _⟩, ⟨by repeat (first | (with_reducible first | exact HB.out | apply below_alloc | apply pw_below_drewN | apply below_drew1) | exact HB.out)⟩⟩
                    · rw [if_neg c38] at H
                      have c38b0 : (t116 == 0) = false := beq_eq_false_iff_ne.mpr c38
                      have c38b1 : (t116 != 0) = true := bne_iff_ne.mpr c38
                      have H' := Aside0.mk H
                      clear H
                      go_wp2
                      go_meet
                      case rel => exact ⟨_, (true), (by first | rfl | (simp; done) | (simp [*]; done)), H', ⟨by have := HJ5.out; first | omega | exact Nat.le_refl _⟩, ⟨by repeat (first | (with_reducible first | exact HB.out | apply below_alloc | apply pw_below_drewN | apply below_drew1) | exact HB.out)⟩⟩
                  · rw [if_neg c37] at H
                    have c37b0 : ((IntKind.i16.wrap (t111)) == t105) = false := beq_eq_false_iff_ne.mpr c37
                    have c37b1 : ((IntKind.i16.wrap (t111)) != t105) = true := bne_iff_ne.mpr c37
                    have H' := Aside0.mk H
                    clear H
                    go_wp2
                    go_meet
                    case rel => exact ⟨_, (true), (by first | rfl | (simp; done) | (simp [*]; done)), H', ⟨by have := HJ5.out; first | omega | exact Nat.le_refl _⟩, ⟨by repeat (first | (with_reducible first | exact HB.out | apply below_alloc | apply pw_below_drewN | apply below_drew1) | exact HB.out)⟩⟩
                · rw [if_neg c36] at H
                  have c36b0 : (t106 == 0) = false := beq_eq_false_iff_ne.mpr c36
                  have c36b1 : (t106 != 0) = true := bne_iff_ne.mpr c36
                  have H' := Aside0.mk H
                  clear H
                  go_wp2
                  go_meet
                  case rel => exact ⟨_, (true), (by first | rfl | (simp; done) | (simp [*]; done)), H', ⟨by have := HJ5.out; first | omega | exact Nat.le_refl _⟩, ⟨by repeat (first | (with_reducible first | exact HB.out | apply below_alloc | apply pw_below_drewN | apply below_drew1) | exact HB.out)⟩⟩
              · rw [if_neg c35] at H
                have c35b0 : ((IntKind.u16.wrap (t111)) == t113) = false := beq_eq_false_iff_ne.mpr c35
                have c35b1 : ((IntKind.u16.wrap (t111)) != t113) = true := bne_iff_ne.mpr c35
                have H' := Aside0.mk H
                clear H
                go_wp2
                go_meet
                case rel => exact ⟨_, (true), (by first | rfl | (simp; done) | (simp [*]; done)), H', ⟨by have := HJ5.out; first | omega | exact Nat.le_refl _⟩, ⟨by repeat (first | (with_reducible first | exact HB.out | apply below_alloc | apply pw_below_drewN | apply below_drew1) | exact HB.out)⟩⟩
            · rw [if_neg c34] at H
              have c34b0 : (t114 == 0) = false := beq_eq_false_iff_ne.mpr c34
              have c34b1 : (t114 != 0) = true := bne_iff_ne.mpr c34
              have H' := Aside0.mk H
              clear H
              go_wp2
              go_meet
              case rel => exact ⟨_, (true), (by first | rfl | (simp; done) | (simp [*]; done)), H', ⟨by have := HJ5.out; first | omega | exact Nat.le_refl _⟩, ⟨by repeat (first | (with_reducible first | exact HB.out | apply below_alloc | apply pw_below_drewN | apply below_drew1) | exact HB.out)⟩⟩
          · rw [if_neg c33] at H
            have c33b0 : (t112 == 0) = false := beq_eq_false_iff_ne.mpr c33
            have c33b1 : (t112 != 0) = true := bne_iff_ne.mpr c33
            (first | rw [c33b0] | (simp only [i64_w, i32_w]; rw [c33b0]) | skip)
            by_cases c43 : t114 = 0
            · rw [if_pos c43] at H
              have c43b0 : (t114 == 0) = true := beq_iff_eq.mpr c43
              have c43b1 : (t114 != 0) = false := bne_eq_false_iff_eq.mpr c43
              clear c43
              by_cases c44 : t116 = 0
              · rw [if_pos c44] at H
                have c44b0 : (t116 == 0) = true := beq_iff_eq.mpr c44
                have c44b1 : (t116 != 0) = false := bne_eq_false_iff_eq.mpr c44
                clear c44
                by_cases c45 : ((t113) % 4294967296) = t115
                · rw [if_pos c45] at H
                  have c45b0 : (((t113) % 4294967296) == t115) = true := beq_iff_eq.mpr c45
                  have c45b1 : (((t113) % 4294967296) != t115) = false := bne_eq_false_iff_eq.mpr c45
                  clear c45
                  by_cases c46 : t118 = 0
                  · rw [if_pos c46] at H
                    have c46b0 : (t118 == 0) = true := beq_iff_eq.mpr c46
                    have c46b1 : (t118 != 0) = false := bne_eq_false_iff_eq.mpr c46
                    clear c46
                    by_cases c47 : (IntKind.u64.wrap (t115)) = t117
                    · rw [if_pos c47] at H
                      have c47b0 : ((IntKind.u64.wrap (t115)) == t117) = true := beq_iff_eq.mpr c47
                      have c47b1 : ((IntKind.u64.wrap (t115)) != t117) = false := bne_eq_false_iff_eq.mpr c47
                      clear c47
                      by_cases c48 : t110 = 0
                      · rw [if_pos c48] at H
                        have c48b0 : (t110 == 0) = true := beq_iff_eq.mpr c48
                        have c48b1 : (t110 != 0) = false := bne_eq_false_iff_eq.mpr c48
                        clear c48
                        have H' := Aside0.mk H
                        clear H
                        go_wp2
                        go_meet
                        case rel => exact ⟨_, (((wrap64 (t115)) != t109)), (by first | rfl | (simp; done) | (simp [*]; done)), H', ⟨by have := HJ5.out; first | omega | exact Nat.le_refl _⟩, ⟨by repeat (first | (with_reducible first | exact HB.out | apply below_alloc | apply pw_below_drewN | apply below_drew1) | exact HB.out)⟩⟩
                      · rw [if_neg c48] at H
                        have c48b0 : (t110 == 0) = false := beq_eq_false_iff_ne.mpr c48
                        have c48b1 : (t110 != 0) = true := bne_iff_ne.mpr c48
                        have H' := Aside0.mk H
                        clear H
                        go_wp2
                        go_meet
                        case rel => exact ⟨_, (true), (by first | rfl | (simp; done) | (simp [*]; done)), H', ⟨by have := HJ5.out; first | omega | exact Nat.le_refl _⟩, ⟨by repeat (first | (with_reducible first | exact HB.out | apply below_alloc | apply pw_below_drewN | apply below_drew1) | exact HB.out)⟩⟩
                    · rw [if_neg c47] at H
                      have c47b0 : ((IntKind.u64.wrap (t115)) == t117) = false := beq_eq_false_iff_ne.mpr c47
                      have c47b1 : ((IntKind.u64.wrap (t115)) != t117) = true := bne_iff_ne.mpr c47
                      have H' := Aside0.mk H
                      clear H
                      go_wp2
                      go_meet
                      case rel => exact ⟨_, (true), (by first | rfl | (simp; done) | (simp [*]; done)), H', ⟨by have := HJ5.out; first | omega | exact Nat.le_refl _⟩, ⟨by repeat (first | (with_reducible first | exact HB.out | apply below_alloc | apply pw_below_drewN | apply below_drew1) | exact HB.out)⟩⟩
                  · rw [if_neg c46] at H
                    have c46b0 : (t118 == 0) = false := beq_eq_false_iff_ne.mpr c46
                    have c46b1 : (t118 != 0) = true := bne_iff_ne.mpr c46
                    have H' := Aside0.mk H
                    clear H
                    go_wp2
                    go_meet
                    case rel => exact ⟨_, (true), (by first | rfl | (simp; done) | (simp [*]; done)), H', ⟨by have := HJ5.out; first | omega | exact Nat.le_refl _⟩, ⟨by repeat (first | (with_reducible first | exact HB.out | apply below_alloc | apply pw_below_drewN | apply below_drew1) | exact HB.out)⟩⟩
                · rw [if_neg c45] at H
                  have c45b0 : (((t113) % 4294967296) == t115) = false := beq_eq_false_iff_ne.mpr c45
                  have c45b1 : (((t113) % 4294967296) != t115) = true := bne_iff_ne.mpr c45
                  have H' := Aside0.mk H
                  clear H
                  go_wp2
                  go_meet
                  case rel => exact ⟨_, (true), (by first | rfl | (simp; done) | (simp [*]; done)), H', ⟨by have := HJ5.out; first | omega | exact Nat.le_refl _⟩, ⟨by repeat (first | (with_reducible first | exact HB.out | apply below_alloc | apply pw_below_drewN | apply below_drew1) | exact HB.out)⟩⟩
              · rw [if_neg c44] at H
                have c44b0 : (t116 == 0) = false := beq_eq_false_iff_ne.mpr c44
                have c44b1 : (t116 != 0) = true := bne_iff_ne.mpr c44
                have H' := Aside0.mk H
                clear H
                go_wp2
                go_meet
                case rel => exact ⟨_, (true), (by first | rfl | (simp; done) | (simp [*]; done)), H', ⟨by have := HJ5.out; first | omega | exact Nat.le_refl _⟩, ⟨by repeat (first | (with_reducible first | exact HB.out | apply below_alloc | apply pw_below_drewN | apply below_drew1) | exact HB.out)⟩⟩
            · rw [if_neg c43] at H
              have c43b0 : (t114 == 0) = false := beq_eq_false_iff_ne.mpr c43
              have c43b1 : (t114 != 0) = true := bne_iff_ne.mpr c43
              by_cases c49 : t116 = 0
              · rw [if_pos c49] at H
                have c49b0 : (t116 == 0) = true := beq_iff_eq.mpr c49
                have c49b1 : (t116 != 0) = false := bne_eq_false_iff_eq.mpr c49
                clear c49
                by_cases c50 : t118 = 0
                · rw [if_pos c50] at H
                  have c50b0 : (t118 == 0) = true := beq_iff_eq.mpr c50
                  have c50b1 : (t118 != 0) = false := bne_eq_false_iff_eq.mpr c50
                  clear c50
                  by_cases c51 : (IntKind.u64.wrap (t115)) = t117
                  · rw [if_pos c51] at H
                    have c51b0 : ((IntKind.u64.wrap (t115)) == t117) = true := beq_iff_eq.mpr c51
                    have c51b1 : ((IntKind.u64.wrap (t115)) != t117) = false := bne_eq_false_iff_eq.mpr c51
                    clear c51
                    by_cases c52 : t110 = 0
                    · rw [if_pos c52] at H
                      have c52b0 : (t110 == 0) = true := beq_iff_eq.mpr c52
                      have c52b1 : (t110 != 0) = false := bne_eq_false_iff_eq.mpr c52
                      clear c52
                      have H' := Aside0.mk H
                      clear H
                      go_wp2
                      go_meet
                      case rel => exact ⟨_, (((wrap64 (t115)) != t109)), (by first | rfl | (simp; done) | (simp [*]; done)), H', ⟨by have := HJ5.out; first | omega | exact Nat.le_refl _⟩, ⟨by repeat (first | (with_reducible first | exact HB.out | apply below_alloc | apply pw_below_drewN | apply below_drew1) | exact HB.out)⟩⟩
                    · rw [if_neg c52] at H
                      have c52b0 : (t110 == 0) = false := beq_eq_false_iff_ne.mpr c52
                      have c52b1 : (t110 != 0) = true := bne_iff_ne.mpr c52
                      have H' := Aside0.mk H
                      clear H
                      go_wp2
                      go_meet
                      case rel => exact ⟨_, (true), (by first | rfl | (simp; done) | (simp [*]; done)), H', ⟨by have := HJ5.out; first | omega | exact Nat.le_refl _⟩, ⟨by repeat (first | (with_reducible first | exact HB.out | apply below_alloc | apply pw_below_drewN | apply below_drew1) | exact HB.out)⟩⟩
                  · rw [if_neg c51] at H
                    have c51b0 : ((IntKind.u64.wrap (t115)) == t117) = false := beq_eq_false_iff_ne.mpr c51
                    have c51b1 : ((IntKind.u64.wrap (t115)) != t117) = true := bne_iff_ne.mpr c51
                    have H' := Aside0.mk H
                    clear H
                    go_wp2
                    go_meet
                    case rel => exact ⟨_, (true), (by first | rfl | (simp; done) | (simp [*]; done)), H', ⟨by have := HJ5.out; first | omega | exact Nat.le_refl _⟩, ⟨by repeat (first | (with_reducible first | exact HB.out | apply below_alloc | apply pw_below_drewN | apply below_drew1) | exact HB.out)⟩⟩
                · rw [if_neg c50] at H
                  have c50b0 : (t118 == 0) = false := beq_eq_false_iff_ne.mpr c50
                  have c50b1 : (t118 != 0) = true := bne_iff_ne.mpr c50
                  have H' := Aside0.mk H
                  clear H
                  go_wp2
                  go_meet
                  case rel => exact ⟨_, (true), (by first | rfl | (simp; done) | (simp [*]; done)), H', ⟨by have := HJ5.out; first | omega | exact Nat.le_refl _⟩, ⟨by repeat (first | (with_reducible first | exact HB.out | apply below_alloc | apply pw_below_drewN | apply below_drew1) | exact HB.out)⟩⟩
              · rw [if_neg c49] at H
                have c49b0 : (t116 == 0) = false := beq_eq_false_iff_ne.mpr c49
                have c49b1 : (t116 != 0) = true := bne_iff_ne.mpr c49
                have H' := Aside0.mk H
                clear H
                go_wp2
                go_meet
                case rel => exact ⟨_, (false), (by first | rfl | (simp; done) | (simp [*]; done)), H', ⟨by have := HJ5.out; first | omega | exact Nat.le_refl _⟩, ⟨by repeat (first | (with_reducible first | exact HB.out | apply below_alloc | apply pw_below_drewN | apply below_drew1) | exact HB.out)⟩⟩
        case rest => as_aux_lemma =>
          clear HC28
          try clear c1
          try clear c2
          try clear p2
          try clear c3
          try clear p3
          try clear c4
          try clear c5
          try clear p6
          try clear c11
          try clear c11b0
          try clear c11b1
          try clear c12
          try clear c12b0
          try clear c12b1
          try clear c13
          try clear c13b0
          try clear c13b1
          try clear c14
          try clear c14b0
          try clear c14b1
          try clear c15
          try clear c15b0
          try clear c15b1
          try clear c16
          try clear c16b0
          try clear c16b1
          try clear c17
          try clear c17b0
          try clear c17b1
          try clear c18
          try clear c18b0
          try clear c18b1
          try clear c19
          try clear c19b0
          try clear c19b1
          try clear c20
          try clear c20b0
          try clear c20b1
          try clear c21
          try clear c21b0
          try clear c21b1
          try clear c22
          try clear c22b0
          try clear c22b1
          try clear c23
          try clear c24
          try clear c25
          try clear c26
          try clear c27
          try clear c28
          try clear c29
          try clear c30
          try clear p32
          try clear c33
          try clear c33b0
          try clear c33b1
          try clear c34
          try clear c34b0
          try clear c34b1
          try clear c35
          try clear c35b0
          try clear c35b1
          try clear c36
          try clear c36b0
          try clear c36b1
          try clear c37
          try clear c37b0
          try clear c37b1
          try clear c38
          try clear c38b0
          try clear c38b1
          try clear c39
          try clear c39b0
          try clear c39b1
          try clear c40
          try clear c40b0
          try clear c40b1
          try clear c41
          try clear c41b0
          try clear c41b1
          try clear c42
          try clear c42b0
          try clear c42b1
          try clear c43
          try clear c43b0
          try clear c43b1
          try clear c44
          try clear c44b0
          try clear c44b1
          try clear c45
          try clear c45b0
          try clear c45b1
          try clear c46
          try clear c46b0
          try clear c46b1
          try clear c47
          try clear c47b0
          try clear c47b1
          try clear c48
          try clear c48b0
          try clear c48b1
          try clear c49
          try clear c49b0
          try clear c49b1
          try clear c50
          try clear c50b0
          try clear c50b1
          try clear c51
          try clear c51b0
          try clear c51b1
          try clear c52
          try clear c52b0
          try clear c52b1
          try clear p2
          try clear p3
          try clear p6
          obtain ⟨kq, x158_27, rfl, HA, HJ27, HB⟩ := hcut
          cases kq with
          | zero => exact absurd HA.out (by simp [quarrylaw12_WholeWidens.j1])
          | succ kj27 =>
            have H := HA.out
            clear HA
            simp only [quarrylaw12_WholeWidens.j1] at H
            by_cases c53 : x158_27 = true
            · subst c53
              have H1 : (none) = some r := by rw [if_pos rfl] at H; exact H
              clear H
              have H := H1
              clear H1
              exact absurd H (by simp)
            · replace c53 := Bool.eq_false_iff.mpr c53
              subst c53
              have H1 : (if t110 = 0 then (quarrylaw12_WholeWidens.j2 kj27 t104 t106 t108 t110 t112 t114 t116 t118 false) else (quarrylaw12_WholeWidens.j2 kj27 t104 t106 t108 t110 t112 t114 t116 t118 (t110 != 121))) = some r := by rw [if_neg (show ¬ (false = true) by decide)] at H; exact H
              clear H
              have H := H1
              clear H1
              have HC54 := Aside0.mk H
              clear H
              go_upto_region 13 with (fail)
              go_cut [164] (fun v164 wc => ∃ (kq : Nat) (x164_53 : Bool), v164 = .bool x164_53 ∧ Aside0 (quarrylaw12_WholeWidens.j2 kq t104 t106 t108 t110 t112 t114 t116 t118 x164_53 = some r) ∧ Aside0 (kq ≤ kj27) ∧ Aside0 (Below w.heap.size w wc))
              case first => as_aux_lemma =>
                have H := HC54.out
                clear HC54
                by_cases c55 : t110 = 0
                · rw [if_pos c55] at H
                  have c55b0 : (t110 == 0) = true := beq_iff_eq.mpr c55
                  have c55b1 : (t110 != 0) = false := bne_eq_false_iff_eq.mpr c55
                  clear c55
                  (first | rw [c55b0] | (simp only [i64_w, i32_w]; rw [c55b0]) | skip)
                  have H' := Aside0.mk H
                  clear H
                  go_wp2
                  go_meet
                  case rel => exact ⟨_, (false), (by first | rfl | (simp; done) | (simp [*]; done)), H', ⟨by have := HJ5.out; have := HJ27.out; first | omega | exact Nat.le_refl _⟩, ⟨by repeat (first | (with_reducible first | exact HB.out | apply below_alloc | apply pw_below_drewN | apply below_drew1) | exact HB.out)⟩⟩
                · rw [if_neg c55] at H
                  have c55b0 : (t110 == 0) = false := beq_eq_false_iff_ne.mpr c55
                  have c55b1 : (t110 != 0) = true := bne_iff_ne.mpr c55
                  (first | rw [c55b0] | (simp only [i64_w, i32_w]; rw [c55b0]) | skip)
                  have H' := Aside0.mk H
                  clear H
                  go_wp2
                  go_meet
                  case rel => exact ⟨_, ((t110 != 121)), (by first | rfl | (simp; done) | (simp [*]; done)), H', ⟨by have := HJ5.out; have := HJ27.out; first | omega | exact Nat.le_refl _⟩, ⟨by repeat (first | (with_reducible first | exact HB.out | apply below_alloc | apply pw_below_drewN | apply below_drew1) | exact HB.out)⟩⟩
              case rest => as_aux_lemma =>
                clear HC54
                try clear c1
                try clear c2
                try clear p2
                try clear c3
                try clear p3
                try clear c4
                try clear c5
                try clear p6
                try clear c11
                try clear c11b0
                try clear c11b1
                try clear c12
                try clear c12b0
                try clear c12b1
                try clear c13
                try clear c13b0
                try clear c13b1
                try clear c14
                try clear c14b0
                try clear c14b1
                try clear c15
                try clear c15b0
                try clear c15b1
                try clear c16
                try clear c16b0
                try clear c16b1
                try clear c17
                try clear c17b0
                try clear c17b1
                try clear c18
                try clear c18b0
                try clear c18b1
                try clear c19
                try clear c19b0
                try clear c19b1
                try clear c20
                try clear c20b0
                try clear c20b1
                try clear c21
                try clear c21b0
                try clear c21b1
                try clear c22
                try clear c22b0
                try clear c22b1
                try clear c23
                try clear c24
                try clear c25
                try clear c26
                try clear c27
                try clear c28
                try clear c29
                try clear c30
                try clear p32
                try clear c33
                try clear c33b0
                try clear c33b1
                try clear c34
                try clear c34b0
                try clear c34b1
                try clear c35
                try clear c35b0
                try clear c35b1
                try clear c36
                try clear c36b0
                try clear c36b1
                try clear c37
                try clear c37b0
                try clear c37b1
                try clear c38
                try clear c38b0
                try clear c38b1
                try clear c39
                try clear c39b0
                try clear c39b1
                try clear c40
                try clear c40b0
                try clear c40b1
                try clear c41
                try clear c41b0
                try clear c41b1
                try clear c42
                try clear c42b0
                try clear c42b1
                try clear c43
                try clear c43b0
                try clear c43b1
                try clear c44
                try clear c44b0
                try clear c44b1
                try clear c45
                try clear c45b0
                try clear c45b1
                try clear c46
                try clear c46b0
                try clear c46b1
                try clear c47
                try clear c47b0
                try clear c47b1
                try clear c48
                try clear c48b0
                try clear c48b1
                try clear c49
                try clear c49b0
                try clear c49b1
                try clear c50
                try clear c50b0
                try clear c50b1
                try clear c51
                try clear c51b0
                try clear c51b1
                try clear c52
                try clear c52b0
                try clear c52b1
                try clear c53
                try clear c55
                try clear c55b0
                try clear c55b1
                try clear p2
                try clear p3
                try clear p32
                try clear p6
                obtain ⟨kq, x164_53, rfl, HA, HJ53, HB⟩ := hcut
                cases kq with
                | zero => exact absurd HA.out (by simp [quarrylaw12_WholeWidens.j2])
                | succ kj53 =>
                  have H := HA.out
                  clear HA
                  simp only [quarrylaw12_WholeWidens.j2] at H
                  by_cases c56 : x164_53 = true
                  · subst c56
                    have H1 : (if t104 = t110 then (if t106 = t110 then (if t108 = t110 then (if t112 = t110 then (if t114 = t110 then (if t116 = t110 then (if t118 = t110 then ((quarrylaw12_awake.f).bind fun t119 => (some t119)) else (none)) else (none)) else (none)) else (none)) else (none)) else (none)) else (none)) = some r := by rw [if_pos rfl] at H; exact H
                    clear H
                    have H := H1
                    clear H1
                    by_cases c57 : t104 = t110
                    · rw [if_pos c57] at H
                      have c57b0 : (t104 == t110) = true := beq_iff_eq.mpr c57
                      have c57b1 : (t104 != t110) = false := bne_eq_false_iff_eq.mpr c57
                      clear c57
                      by_cases c58 : t106 = t110
                      · rw [if_pos c58] at H
                        have c58b0 : (t106 == t110) = true := beq_iff_eq.mpr c58
                        have c58b1 : (t106 != t110) = false := bne_eq_false_iff_eq.mpr c58
                        clear c58
                        by_cases c59 : t108 = t110
                        · rw [if_pos c59] at H
                          have c59b0 : (t108 == t110) = true := beq_iff_eq.mpr c59
                          have c59b1 : (t108 != t110) = false := bne_eq_false_iff_eq.mpr c59
                          clear c59
                          by_cases c60 : t112 = t110
                          · rw [if_pos c60] at H
                            have c60b0 : (t112 == t110) = true := beq_iff_eq.mpr c60
                            have c60b1 : (t112 != t110) = false := bne_eq_false_iff_eq.mpr c60
                            clear c60
                            by_cases c61 : t114 = t110
                            · rw [if_pos c61] at H
                              have c61b0 : (t114 == t110) = true := beq_iff_eq.mpr c61
                              have c61b1 : (t114 != t110) = false := bne_eq_false_iff_eq.mpr c61
                              clear c61
                              by_cases c62 : t116 = t110
                              · rw [if_pos c62] at H
                                have c62b0 : (t116 == t110) = true := beq_iff_eq.mpr c62
                                have c62b1 : (t116 != t110) = false := bne_eq_false_iff_eq.mpr c62
                                clear c62
                                by_cases c63 : t118 = t110
                                · rw [if_pos c63] at H
                                  have c63b0 : (t118 == t110) = true := beq_iff_eq.mpr c63
                                  have c63b1 : (t118 != t110) = false := bne_eq_false_iff_eq.mpr c63
                                  clear c63
                                  replace H := Option.bind_eq_some_iff.mp H
                                  obtain ⟨t119, A640, H⟩ := H
                                  replace H : (some t119) = some r := H
                                  have A64 := Aside0.mk A640
                                  clear A640
                                  obtain rfl := Option.some.inj H
                                  go_wp2_with (first | (go_at_call 31; (with_reducible refine (quarrylaw12_awake.calls  t119 _ A64.out).mono ?_); rintro e w65 ⟨rfl, hb⟩; have n0_ := Aside0.mk (below_step (by repeat (first | (with_reducible first | exact HB.out | apply below_alloc | apply pw_below_drewN | apply below_drew1) | exact HB.out)) hb); clear HB; have HB := n0_; clear n0_; (try clear hb); (try clear hb2); (try clear hk); (try clear hi)))
                                  go_ret
                                  exact ⟨by first | rfl | (simp [errW_none, errW_some] <;> rfl) | (simp [*, errW_none, errW_some] <;> rfl), by repeat (first | (with_reducible first | exact HB.out | apply below_alloc | apply pw_below_drewN | apply below_drew1) | exact HB.out)⟩
                                · rw [if_neg c63] at H
                                  exact absurd H (by simp)
                              · rw [if_neg c62] at H
                                exact absurd H (by simp)
                            · rw [if_neg c61] at H
                              exact absurd H (by simp)
                          · rw [if_neg c60] at H
                            exact absurd H (by simp)
                        · rw [if_neg c59] at H
                          exact absurd H (by simp)
                      · rw [if_neg c58] at H
                        exact absurd H (by simp)
                    · rw [if_neg c57] at H
                      exact absurd H (by simp)
                  · replace c56 := Bool.eq_false_iff.mpr c56
                    subst c56
                    have H1 : ((quarrylaw12_awake.f).bind fun t120 => (some t120)) = some r := by rw [if_neg (show ¬ (false = true) by decide)] at H; exact H
                    clear H
                    have H := H1
                    clear H1
                    replace H := Option.bind_eq_some_iff.mp H
                    obtain ⟨t120, A660, H⟩ := H
                    replace H : (some t120) = some r := H
                    have A66 := Aside0.mk A660
                    clear A660
                    obtain rfl := Option.some.inj H
                    go_wp2_with (first | ((with_reducible refine gate_callee (f := 31) rfl ?_); refine goesL_ (some 201) rfl rfl Tryd.func31 (by kernel_rfl) rfl #[] rfl (by (try simp only [List.map_toArray, List.map_cons, List.map_nil]); first | done | rfl | (simp only [List.length_drop, List.length_take]; rfl)) ?_; (with_reducible refine (quarrylaw12_awake.calls  t120 _ A66.out).mono ?_); rintro e w67 ⟨rfl, hb⟩; refine ⟨_, rfl, ?_⟩; have n0_ := Aside0.mk (below_step (by repeat (first | (with_reducible first | exact HB.out | apply below_alloc | apply pw_below_drewN | apply below_drew1) | exact HB.out)) hb); clear HB; have HB := n0_; clear n0_; (try clear hb); (try clear hb2); (try clear hk); (try clear hi)))
                    go_ret
                    exact ⟨by first | rfl | (simp [errW_none, errW_some] <;> rfl) | (simp [*, errW_none, errW_some] <;> rfl), by repeat (first | (with_reducible first | exact HB.out | apply below_alloc | apply pw_below_drewN | apply below_drew1) | exact HB.out)⟩

end Go.Proofs.YtkjmbibnfohkjaaDoor.PWholeWidens
