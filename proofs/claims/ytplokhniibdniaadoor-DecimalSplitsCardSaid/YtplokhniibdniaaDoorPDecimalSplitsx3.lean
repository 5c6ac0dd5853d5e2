/- The machine side of a statement, laid by the kit's print program, run by wip/tools/gprint.py: some functions' contracts are given, proved by hand. -/
import Derived.Test.YtplokhniibdniaaDoorPDecimalSplitsx0
import Derived.Test.YtplokhniibdniaaDoorPDecimalSplitsx1
import Derived.Test.YtplokhniibdniaaDoorPDecimalSplitsx2
namespace Go.Proofs.YtplokhniibdniaaDoor.PDecimalSplits
open Go.RowKit Go.Proofs.YtplokhniibdniaaDoorW.PrintWords Go.Proofs.YtplokhniibdniaaDoorW.PrintLast Go.Proofs.YtplokhniibdniaaDoorW.PrintMore
attribute [local go_sem] max2_int min2_int max_two min_two max_three min_three max_four min_four   -- for this text's walks alone
set_option linter.unusedVariables false
set_option linter.unusedSimpArgs false

attribute [local go_sem high] eqA23
/-! ### quarrylaw11_DecimalSplits: function 6 -/
mutual
def quarrylaw11_DecimalSplits.j0 : Nat → ByteArray → Int → Int → Bool → Bool → ByteArray → Int → Option (Bool)
  | 0, _, _, _, _, _, _, _ => none
  | k + 1, x0, x6, x7, x48, x126000, x126001, x126002 => if x48 = true then (none) else ((decimal_Of.f x0).bind fun bt132 => (if x7 = 110 then (if (!x126000 && (x126001.toList == ([] : List UInt8) && (x126002 == 0))) = true then (if x6 ≥ 0 then (if x6 ≤ (x0.size : Int) then (if (bt132.1 == x126000 && (bt132.2.1.toList == x126001.toList && (bt132.2.2.1 == x126002))) = true then (some (bt132.2.2.2 == 110)) else (none)) else (none)) else (none)) else (none)) else (if x7 = 0 then (if x6 < 1 then (quarrylaw11_DecimalSplits.j1 k x0 x6 x7 bt132.2.2.2 true x126000 x126001 x126002 bt132.1 bt132.2.1 bt132.2.2.1) else (quarrylaw11_DecimalSplits.j1 k x0 x6 x7 bt132.2.2.2 (decide (x6 > (x0.size : Int))) x126000 x126001 x126002 bt132.1 bt132.2.1 bt132.2.2.1)) else (if x7 = 111 then (if x6 < 1 then (quarrylaw11_DecimalSplits.j1 k x0 x6 x7 bt132.2.2.2 true x126000 x126001 x126002 bt132.1 bt132.2.1 bt132.2.2.1) else (quarrylaw11_DecimalSplits.j1 k x0 x6 x7 bt132.2.2.2 (decide (x6 > (x0.size : Int))) x126000 x126001 x126002 bt132.1 bt132.2.1 bt132.2.2.1)) else (quarrylaw11_DecimalSplits.j1 k x0 x6 x7 bt132.2.2.2 true x126000 x126001 x126002 bt132.1 bt132.2.1 bt132.2.2.1)))))
def quarrylaw11_DecimalSplits.j1 : Nat → ByteArray → Int → Int → Int → Bool → Bool → ByteArray → Int → Bool → ByteArray → Int → Option (Bool)
  | 0, _, _, _, _, _, _, _, _, _, _, _ => none
  | k + 1, x0, x6, x7, x12, x93, x126000, x126001, x126002, x137000, x137001, x137002 => if x93 = true then (none) else (if 0 ≤ x6 then (if x6 ≤ (x0.size : Int) then ((decimal_Of.f (x0.extract 0 (x6 : Int).toNat)).bind fun bt137 => (if (!(bt137.1 == x126000) || (!(bt137.2.1.toList == x126001.toList) || (!(bt137.2.2.1 == x126002)))) = true then (quarrylaw11_DecimalSplits.j2 k x0 x6 x7 x12 true x126000 x126001 x126002 x137000 x137001 x137002) else (if bt137.2.2.2 = x7 then (if x7 = 0 then ((decimal_Formed.f k x126000 x126001 x126002).bind fun t142 => (if t142 = true then (if x7 = 111 then (quarrylaw11_DecimalSplits.j2 k x0 x6 x7 x12 (x126000 || (!(x126001.toList == ([] : List UInt8)) || (!(x126002 == 0)))) x126000 x126001 x126002 x137000 x137001 x137002) else (quarrylaw11_DecimalSplits.j2 k x0 x6 x7 x12 false x126000 x126001 x126002 x137000 x137001 x137002)) else (quarrylaw11_DecimalSplits.j2 k x0 x6 x7 x12 true x126000 x126001 x126002 x137000 x137001 x137002))) else (if x7 = 111 then (quarrylaw11_DecimalSplits.j2 k x0 x6 x7 x12 (x126000 || (!(x126001.toList == ([] : List UInt8)) || (!(x126002 == 0)))) x126000 x126001 x126002 x137000 x137001 x137002) else (quarrylaw11_DecimalSplits.j2 k x0 x6 x7 x12 false x126000 x126001 x126002 x137000 x137001 x137002))) else (quarrylaw11_DecimalSplits.j2 k x0 x6 x7 x12 true x126000 x126001 x126002 x137000 x137001 x137002)))) else (none)) else (none))
def quarrylaw11_DecimalSplits.j2 : Nat → ByteArray → Int → Int → Int → Bool → Bool → ByteArray → Int → Bool → ByteArray → Int → Option (Bool)
  | 0, _, _, _, _, _, _, _, _, _, _, _ => none
  | k + 1, x0, x6, x7, x12, x126, x126000, x126001, x126002, x137000, x137001, x137002 => if x126 = true then (none) else (if x6 = (x0.size : Int) then (if (x137000 == x126000 && (x137001.toList == x126001.toList && (x137002 == x126002))) = true then (some (x12 == x7)) else (none)) else (if (!x137000 && (x137001.toList == ([] : List UInt8) && (x137002 == 0))) = true then (some (x12 == 110)) else (none)))
end
def quarrylaw11_DecimalSplits.f (k : Nat) (a0 : ByteArray) (a1 : ByteArray) : Option (Bool) := (quarrylaw11_awake.f).bind fun t119 => (if t119 = true then ((decimal_Read.f a0 0).bind fun bt120 => (if a1.size + a0.size ≤ 9223372036854775807 then ((decimal_Read.f (a1 ++ a0) (a1.size : Int)).bind fun bt126 => (if (!(bt126.1 == bt120.1) || (!(bt126.2.1.toList == bt120.2.1.toList) || (!(bt126.2.2.1 == bt120.2.2.1)))) = true then (quarrylaw11_DecimalSplits.j0 k a0 bt120.2.2.2.1 bt120.2.2.2.2 true bt120.1 bt120.2.1 bt120.2.2.1) else (if bt126.2.2.2.2 = bt120.2.2.2.2 then (quarrylaw11_DecimalSplits.j0 k a0 bt120.2.2.2.1 bt120.2.2.2.2 (bt126.2.2.2.1 != (wrap64 (bt120.2.2.2.1 + (a1.size : Int)))) bt120.1 bt120.2.1 bt120.2.2.1) else (quarrylaw11_DecimalSplits.j0 k a0 bt120.2.2.2.1 bt120.2.2.2.2 true bt120.1 bt120.2.1 bt120.2.2.1)))) else (none))) else (none))
theorem quarrylaw11_DecimalSplits.mono_l : ∀ k, (∀ y0 y1 y2 y3 y4 y5 y6, LeO (quarrylaw11_DecimalSplits.j0 k y0 y1 y2 y3 y4 y5 y6) (quarrylaw11_DecimalSplits.j0 (k + 1) y0 y1 y2 y3 y4 y5 y6)) ∧ (∀ y0 y1 y2 y3 y4 y5 y6 y7 y8 y9 y10, LeO (quarrylaw11_DecimalSplits.j1 k y0 y1 y2 y3 y4 y5 y6 y7 y8 y9 y10) (quarrylaw11_DecimalSplits.j1 (k + 1) y0 y1 y2 y3 y4 y5 y6 y7 y8 y9 y10)) ∧ (∀ y0 y1 y2 y3 y4 y5 y6 y7 y8 y9 y10, LeO (quarrylaw11_DecimalSplits.j2 k y0 y1 y2 y3 y4 y5 y6 y7 y8 y9 y10) (quarrylaw11_DecimalSplits.j2 (k + 1) y0 y1 y2 y3 y4 y5 y6 y7 y8 y9 y10))
  | 0 => ⟨fun _ _ _ _ _ _ _ r h => by simp [quarrylaw11_DecimalSplits.j0] at h, fun _ _ _ _ _ _ _ _ _ _ _ r h => by simp [quarrylaw11_DecimalSplits.j1] at h, fun _ _ _ _ _ _ _ _ _ _ _ r h => by simp [quarrylaw11_DecimalSplits.j2] at h⟩
  | k + 1 => by
    obtain ⟨ih0, ih1, ih2⟩ := quarrylaw11_DecimalSplits.mono_l k
    refine ⟨?_, ?_, ?_⟩
    · intro y0 y1 y2 y3 y4 y5 y6
      unfold quarrylaw11_DecimalSplits.j0
      repeat' first
      | (with_reducible exact ih0 _ _ _ _ _ _ _)
      | (with_reducible exact ih1 _ _ _ _ _ _ _ _ _ _ _)
      | (with_reducible exact ih2 _ _ _ _ _ _ _ _ _ _ _)
      | (with_reducible exact decimal_Formed.mono _ _ _ _)
      | (with_reducible exact LeO.refl _)
      | (with_reducible exact LeO.none _)
      | (with_reducible refine LeO.ite ?_ ?_)
      | (with_reducible refine LeO.bind ?_ (fun _ => ?_))
      | exact ih0 _ _ _ _ _ _ _
      | exact ih1 _ _ _ _ _ _ _ _ _ _ _
      | exact ih2 _ _ _ _ _ _ _ _ _ _ _
      | exact decimal_Formed.mono _ _ _ _
      | exact LeO.none _
      | refine LeO.ite ?_ ?_
      | refine LeO.bind ?_ (fun _ => ?_)
    · intro y0 y1 y2 y3 y4 y5 y6 y7 y8 y9 y10
      unfold quarrylaw11_DecimalSplits.j1
      repeat' first
      | (with_reducible exact ih0 _ _ _ _ _ _ _)
      | (with_reducible exact ih1 _ _ _ _ _ _ _ _ _ _ _)
      | (with_reducible exact ih2 _ _ _ _ _ _ _ _ _ _ _)
      | (with_reducible exact decimal_Formed.mono _ _ _ _)
      | (with_reducible exact LeO.refl _)
      | (with_reducible exact LeO.none _)
      | (with_reducible refine LeO.ite ?_ ?_)
      | (with_reducible refine LeO.bind ?_ (fun _ => ?_))
      | exact ih0 _ _ _ _ _ _ _
      | exact ih1 _ _ _ _ _ _ _ _ _ _ _
      | exact ih2 _ _ _ _ _ _ _ _ _ _ _
      | exact decimal_Formed.mono _ _ _ _
      | exact LeO.none _
      | refine LeO.ite ?_ ?_
      | refine LeO.bind ?_ (fun _ => ?_)
    · intro y0 y1 y2 y3 y4 y5 y6 y7 y8 y9 y10
      unfold quarrylaw11_DecimalSplits.j2
      repeat' first
      | (with_reducible exact ih0 _ _ _ _ _ _ _)
      | (with_reducible exact ih1 _ _ _ _ _ _ _ _ _ _ _)
      | (with_reducible exact ih2 _ _ _ _ _ _ _ _ _ _ _)
      | (with_reducible exact decimal_Formed.mono _ _ _ _)
      | (with_reducible exact LeO.refl _)
      | (with_reducible exact LeO.none _)
      | (with_reducible refine LeO.ite ?_ ?_)
      | (with_reducible refine LeO.bind ?_ (fun _ => ?_))
      | exact ih0 _ _ _ _ _ _ _
      | exact ih1 _ _ _ _ _ _ _ _ _ _ _
      | exact ih2 _ _ _ _ _ _ _ _ _ _ _
      | exact decimal_Formed.mono _ _ _ _
      | exact LeO.none _
      | refine LeO.ite ?_ ?_
      | refine LeO.bind ?_ (fun _ => ?_)
theorem quarrylaw11_DecimalSplits.mono : ∀ a0 a1 k, LeO (quarrylaw11_DecimalSplits.f k a0 a1) (quarrylaw11_DecimalSplits.f (k + 1) a0 a1) := by
  intro a0 a1 k
  obtain ⟨ih0, ih1, ih2⟩ := quarrylaw11_DecimalSplits.mono_l k
  unfold quarrylaw11_DecimalSplits.f
  repeat' first
      | (with_reducible exact ih0 _ _ _ _ _ _ _)
      | (with_reducible exact ih1 _ _ _ _ _ _ _ _ _ _ _)
      | (with_reducible exact ih2 _ _ _ _ _ _ _ _ _ _ _)
      | (with_reducible exact decimal_Formed.mono _ _ _ _)
      | (with_reducible exact LeO.refl _)
      | (with_reducible exact LeO.none _)
      | (with_reducible refine LeO.ite ?_ ?_)
      | (with_reducible refine LeO.bind ?_ (fun _ => ?_))
      | exact ih0 _ _ _ _ _ _ _
      | exact ih1 _ _ _ _ _ _ _ _ _ _ _
      | exact ih2 _ _ _ _ _ _ _ _ _ _ _
      | exact decimal_Formed.mono _ _ _ _
      | exact LeO.none _
      | refine LeO.ite ?_ ?_
      | refine LeO.bind ?_ (fun _ => ?_)
set_option maxHeartbeats 8000000 in
set_option maxRecDepth 100000 in
theorem quarrylaw11_DecimalSplits.calls (k : Nat) (a0 : ByteArray) (a1 : ByteArray) (r : Bool) (w : World) (h : quarrylaw11_DecimalSplits.f k a0 a1 = some r) (hT : TabW w := by first | exact hT | exact TabW.drewN hT _ | (refine TabW.below hT ?_; repeat (first | (with_reducible exact HB.out) | (with_reducible exact Below.refl _ _) | apply below_alloc | apply pw_below_drewN | apply below_drew1 | apply below_drew | assumption | refine below_set ?_ (Aside0.out (by assumption))))) :
    Calls Tryd.prog 6 #[.string a0, .string a1] w fun e w' => e = .returned (.bool r) ∧ Below w.heap.size w w' := by
  have hu23 := Tryd.underlying23
  have HB := Aside0.mk (Below.refl w.heap.size w)
  have H : ((quarrylaw11_awake.f).bind fun t119 => (if t119 = true then ((decimal_Read.f a0 0).bind fun bt120 => (if a1.size + a0.size ≤ 9223372036854775807 then ((decimal_Read.f (a1 ++ a0) (a1.size : Int)).bind fun bt126 => (if (!(bt126.1 == bt120.1) || (!(bt126.2.1.toList == bt120.2.1.toList) || (!(bt126.2.2.1 == bt120.2.2.1)))) = true then (quarrylaw11_DecimalSplits.j0 k a0 bt120.2.2.2.1 bt120.2.2.2.2 true bt120.1 bt120.2.1 bt120.2.2.1) else (if bt126.2.2.2.2 = bt120.2.2.2.2 then (quarrylaw11_DecimalSplits.j0 k a0 bt120.2.2.2.1 bt120.2.2.2.2 (bt126.2.2.2.1 != (wrap64 (bt120.2.2.2.1 + (a1.size : Int)))) bt120.1 bt120.2.1 bt120.2.2.1) else (quarrylaw11_DecimalSplits.j0 k a0 bt120.2.2.2.1 bt120.2.2.2.2 true bt120.1 bt120.2.1 bt120.2.2.1)))) else (none))) else (none))) = some r := h
  clear h
  replace H := Option.bind_eq_some_iff.mp H
  obtain ⟨t119, A30, H⟩ := H
  replace H : (if t119 = true then ((decimal_Read.f a0 0).bind fun bt120 => (if a1.size + a0.size ≤ 9223372036854775807 then ((decimal_Read.f (a1 ++ a0) (a1.size : Int)).bind fun bt126 => (if (!(bt126.1 == bt120.1) || (!(bt126.2.1.toList == bt120.2.1.toList) || (!(bt126.2.2.1 == bt120.2.2.1)))) = true then (quarrylaw11_DecimalSplits.j0 k a0 bt120.2.2.2.1 bt120.2.2.2.2 true bt120.1 bt120.2.1 bt120.2.2.1) else (if bt126.2.2.2.2 = bt120.2.2.2.2 then (quarrylaw11_DecimalSplits.j0 k a0 bt120.2.2.2.1 bt120.2.2.2.2 (bt126.2.2.2.1 != (wrap64 (bt120.2.2.2.1 + (a1.size : Int)))) bt120.1 bt120.2.1 bt120.2.2.1) else (quarrylaw11_DecimalSplits.j0 k a0 bt120.2.2.2.1 bt120.2.2.2.2 true bt120.1 bt120.2.1 bt120.2.2.1)))) else (none))) else (none)) = some r := H
  have A3 := Aside0.mk A30
  clear A30
  by_cases c4 : t119 = true
  · subst c4
    have H1 : ((decimal_Read.f a0 0).bind fun bt120 => (if a1.size + a0.size ≤ 9223372036854775807 then ((decimal_Read.f (a1 ++ a0) (a1.size : Int)).bind fun bt126 => (if (!(bt126.1 == bt120.1) || (!(bt126.2.1.toList == bt120.2.1.toList) || (!(bt126.2.2.1 == bt120.2.2.1)))) = true then (quarrylaw11_DecimalSplits.j0 k a0 bt120.2.2.2.1 bt120.2.2.2.2 true bt120.1 bt120.2.1 bt120.2.2.1) else (if bt126.2.2.2.2 = bt120.2.2.2.2 then (quarrylaw11_DecimalSplits.j0 k a0 bt120.2.2.2.1 bt120.2.2.2.2 (bt126.2.2.2.1 != (wrap64 (bt120.2.2.2.1 + (a1.size : Int)))) bt120.1 bt120.2.1 bt120.2.2.1) else (quarrylaw11_DecimalSplits.j0 k a0 bt120.2.2.2.1 bt120.2.2.2.2 true bt120.1 bt120.2.1 bt120.2.2.1)))) else (none))) = some r := by rw [if_pos rfl] at H; exact H
    clear H
    have H := H1
    clear H1
    replace H := Option.bind_eq_some_iff.mp H
    obtain ⟨⟨t120, t121, t122, t123, t124⟩, A50, H⟩ := H
    replace H : (if a1.size + a0.size ≤ 9223372036854775807 then ((decimal_Read.f (a1 ++ a0) (a1.size : Int)).bind fun bt126 => (if (!(bt126.1 == t120) || (!(bt126.2.1.toList == t121.toList) || (!(bt126.2.2.1 == t122)))) = true then (quarrylaw11_DecimalSplits.j0 k a0 t123 t124 true t120 t121 t122) else (if bt126.2.2.2.2 = t124 then (quarrylaw11_DecimalSplits.j0 k a0 t123 t124 (bt126.2.2.2.1 != (wrap64 (t123 + (a1.size : Int)))) t120 t121 t122) else (quarrylaw11_DecimalSplits.j0 k a0 t123 t124 true t120 t121 t122)))) else (none)) = some r := H
    have A5 := Aside0.mk A50
    clear A50
    by_cases c6 : a1.size + a0.size ≤ 9223372036854775807
    · rw [if_pos c6] at H
      have c6b0 := eq_true c6
      have c6b1 : decide (a1.size + a0.size ≤ 9223372036854775807) = true := decide_eq_true c6
      try have c6b2 : (9223372036854775807 < a1.size + a0.size) = False := eq_false (Nat.not_lt.2 c6)
      replace H := Option.bind_eq_some_iff.mp H
      obtain ⟨⟨t126, t127, t128, t129, t130⟩, A70, H⟩ := H
      replace H : (if (!(t126 == t120) || (!(t127.toList == t121.toList) || (!(t128 == t122)))) = true then (quarrylaw11_DecimalSplits.j0 k a0 t123 t124 true t120 t121 t122) else (if t130 = t124 then (quarrylaw11_DecimalSplits.j0 k a0 t123 t124 (t129 != (wrap64 (t123 + (a1.size : Int)))) t120 t121 t122) else (quarrylaw11_DecimalSplits.j0 k a0 t123 t124 true t120 t121 t122))) = some r := H
      have A7 := Aside0.mk A70
      clear A70
      have HC8 := Aside0.mk H
      clear H
      go_enter Tryd.func6, Tryd.ntmps6
      go_upto_region 5 with (first | ((with_reducible refine gate_callee (f := 20) rfl ?_); refine goesL_ (some 15) rfl rfl Tryd.func20 (by kernel_rfl) rfl #[] rfl (by (try simp only [List.map_toArray, List.map_cons, List.map_nil]); first | done | rfl | (simp only [List.length_drop, List.length_take]; rfl)) ?_; (with_reducible refine (quarrylaw11_awake.calls  true _ A3.out).mono ?_); rintro e w9 ⟨rfl, hb⟩; refine ⟨_, rfl, ?_⟩; have n0_ := Aside0.mk (below_step (by repeat (first | (with_reducible first | exact HB.out | apply below_alloc | apply pw_below_drewN | apply below_drew1) | exact HB.out)) hb); clear HB; have HB := n0_; clear n0_; (try clear hb); (try clear hb2); (try clear hk); (try clear hi)) | ((with_reducible refine gate_callee (f := 16) rfl ?_); refine goesL_ (some 19) rfl rfl Tryd.func16 (by kernel_rfl) rfl #[.string a0, .int .i64 0] rfl (by (try simp only [List.map_toArray, List.map_cons, List.map_nil]); first | done | rfl | (simp only [List.length_drop, List.length_take]; rfl)) ?_; (with_reducible refine (decimal_Read.calls a0 0 t120 t121 t122 t123 t124 _ A5.out).mono ?_); rintro e w10 ⟨rfl, hb⟩; refine ⟨_, rfl, ?_⟩; have n0_ := Aside0.mk (below_step (by repeat (first | (with_reducible first | exact HB.out | apply below_alloc | apply pw_below_drewN | apply below_drew1) | exact HB.out)) hb); clear HB; have HB := n0_; clear n0_; (try clear hb); (try clear hb2); (try clear hk); (try clear hi)) | ((with_reducible refine gate_dst (N := 5) rfl ?_); (try (refine gate_guard (by rfl) ?_; dsimp only)); refine box_event ?hg (N := 5) ?hd (cs := #[.bool false, .string (⟨#[]⟩ : ByteArray), .int .i64 0]) (t := 23) ?hr ?_; (case hd => rfl); (case hg => rfl); (case hr => first | (go_simp; done) | (go_simp; rfl)); intro gb125 hg w11 hbox hb; have n0_ := Aside0.mk (below_step (by repeat (first | (with_reducible first | exact HB.out | apply below_alloc | apply pw_below_drewN | apply below_drew1) | exact HB.out)) hb); have n1_ := Aside0.mk (hbox); have n2_ := Aside0.mk ((by rw [hg]; exact (below_size (by repeat (first | (with_reducible first | exact HB.out | apply below_alloc | apply pw_below_drewN | apply below_drew1) | exact HB.out))) : w.heap.size ≤ gb125)); have n3_ := Aside0.mk ((by rw [hg]; exact (below_size (by repeat (first | (with_reducible first | exact HB.out | apply below_alloc | apply pw_below_drewN | apply below_drew1) | exact HB.out))) : w.heap.size ≤ gb125)); clear HB; have HB := n0_; have BK125 := n1_; have GW125 := n2_; have GE125 := n3_; clear n0_ n1_ n2_ n3_; clear hb hbox hg; have hcz12_0 : w11.cell? ⟨gb125, 0, none⟩ = some (.bool false) := (blk_cell BK125.out 0).trans rfl; have hcz12_1 : w11.cell? ⟨gb125, 1, none⟩ = some (.string (⟨#[]⟩ : ByteArray)) := (blk_cell BK125.out 1).trans rfl; have hcz12_2 : w11.cell? ⟨gb125, 2, none⟩ = some (.int .i64 0) := (blk_cell BK125.out 2).trans rfl; have hfz12_0 := blk_frozen BK125.out 0; have hfz12_1 := blk_frozen BK125.out 1; have hfz12_2 := blk_frozen BK125.out 2) | ((with_reducible refine gate_callee (f := 16) rfl ?_); refine goesL_ (some 29) rfl rfl Tryd.func16 (by kernel_rfl) rfl #[.string (a1 ++ a0), .int .i64 (a1.size : Int)] rfl (by (try simp only [List.map_toArray, List.map_cons, List.map_nil]); first | done | rfl | (simp only [List.length_drop, List.length_take]; rfl)) ?_; (with_reducible refine (decimal_Read.calls (a1 ++ a0) (a1.size : Int) t126 t127 t128 t129 t130 _ A7.out).mono ?_); rintro e w13 ⟨rfl, hb⟩; refine ⟨_, rfl, ?_⟩; have n0_ := Aside0.mk (blk_below (g := gb125) (o := .cells #[.bool t120, .string t121, .int .i64 t122] 23 (0, 0)) (by (with_reducible repeat (first | refine blk_drewN ?_ _ | refine blk_drew ?_ | refine blk_alloc ?_ _)); refine blk_put (cs := #[.bool t120, .string t121, .int .i64 0]) ?_ 2 _ rfl; (with_reducible repeat (first | refine blk_drewN ?_ _ | refine blk_drew ?_ | refine blk_alloc ?_ _)); refine blk_put (cs := #[.bool t120, .string (⟨#[]⟩ : ByteArray), .int .i64 0]) ?_ 1 _ rfl; (with_reducible repeat (first | refine blk_drewN ?_ _ | refine blk_drew ?_ | refine blk_alloc ?_ _)); refine blk_put (cs := #[.bool false, .string (⟨#[]⟩ : ByteArray), .int .i64 0]) ?_ 0 _ rfl; (with_reducible repeat (first | refine blk_drewN ?_ _ | refine blk_drew ?_ | refine blk_alloc ?_ _)); exact BK125.out) hb); have n1_ := Aside0.mk (below_step (by repeat (first | (with_reducible first | exact HB.out | apply below_alloc | apply pw_below_drewN | apply below_drew1 | refine below_set ?_ GE125.out) | exact HB.out)) hb); clear BK125; clear HB; have BK125 := n0_; have HB := n1_; clear n0_ n1_; (try clear hb); (try clear hb2); (try clear hk); (try clear hi)) | ((with_reducible refine gate_dst (N := 8) rfl ?_); (try (refine gate_guard (by rfl) ?_; dsimp only)); refine box_event ?hg (N := 8) ?hd (cs := #[.bool false, .string (⟨#[]⟩ : ByteArray), .int .i64 0]) (t := 23) ?hr ?_; (case hd => rfl); (case hg => rfl); (case hr => first | (go_simp; done) | (go_simp; rfl)); intro gb131 hg w14 hbox hb; have n0_ := Aside0.mk (blk_below (g := gb125) (o := .cells #[.bool t120, .string t121, .int .i64 t122] 23 (0, 0)) (by (with_reducible repeat (first | refine blk_drewN ?_ _ | refine blk_drew ?_ | refine blk_alloc ?_ _)); exact BK125.out) hb); have n1_ := Aside0.mk (below_step (by repeat (first | (with_reducible first | exact HB.out | apply below_alloc | apply pw_below_drewN | apply below_drew1 | refine below_set ?_ GE125.out) | exact HB.out)) hb); have n2_ := Aside0.mk (hbox); have n3_ := Aside0.mk ((by rw [hg]; exact (below_size (by repeat (first | (with_reducible first | exact HB.out | apply below_alloc | apply pw_below_drewN | apply below_drew1 | refine below_set ?_ GE125.out) | exact HB.out))) : w.heap.size ≤ gb131)); have n4_ := Aside0.mk ((by rw [hg]; exact (below_size (by repeat (first | (with_reducible first | exact HB.out | apply below_alloc | apply pw_below_drewN | apply below_drew1 | refine below_set ?_ GE125.out) | exact HB.out))) : w.heap.size ≤ gb131)); have n5_ := Aside0.mk ((by rw [hg]; exact Nat.ne_of_lt (blk_lt (g := gb125) (o := .cells #[.bool t120, .string t121, .int .i64 t122] 23 (0, 0)) (by (with_reducible repeat (first | refine blk_drewN ?_ _ | refine blk_drew ?_ | refine blk_alloc ?_ _)); exact BK125.out)) : gb125 ≠ gb131)); have n6_ := Aside0.mk ((by rw [hg]; exact Nat.ne_of_gt (blk_lt (g := gb125) (o := .cells #[.bool t120, .string t121, .int .i64 t122] 23 (0, 0)) (by (with_reducible repeat (first | refine blk_drewN ?_ _ | refine blk_drew ?_ | refine blk_alloc ?_ _)); exact BK125.out)) : gb131 ≠ gb125)); clear BK125; clear HB; have BK125 := n0_; have HB := n1_; have BK131 := n2_; have GW131 := n3_; have GE131 := n4_; have NB125_131 := n5_; have NB131_125 := n6_; clear n0_ n1_ n2_ n3_ n4_ n5_ n6_; clear hb hbox hg; have hnb15 := NB131_125.out; have hnc15 := NB125_131.out; have hcz16_0 : w14.cell? ⟨gb131, 0, none⟩ = some (.bool false) := (blk_cell BK131.out 0).trans rfl; have hcz16_1 : w14.cell? ⟨gb131, 1, none⟩ = some (.string (⟨#[]⟩ : ByteArray)) := (blk_cell BK131.out 1).trans rfl; have hcz16_2 : w14.cell? ⟨gb131, 2, none⟩ = some (.int .i64 0) := (blk_cell BK131.out 2).trans rfl; have hfz16_0 := blk_frozen BK131.out 0; have hfz16_1 := blk_frozen BK131.out 1; have hfz16_2 := blk_frozen BK131.out 2))
      (try simp only [Act.put, List.setIfInBounds_toArray, List.set_cons_zero, List.set_cons_succ])
      go_cut [48] (fun v48 wc => ∃ (kq : Nat) (x48_7 : Bool), v48 = .bool x48_7 ∧ Aside0 (quarrylaw11_DecimalSplits.j0 kq a0 t123 t124 x48_7 t120 t121 t122 = some r) ∧ Aside0 (kq ≤ k) ∧ Aside0 (wc.heap[gb125]? = some (.cells #[.bool t120, .string t121, .int .i64 t122] 23 (0, 0))) ∧ Aside0 (wc.heap[gb131]? = some (.cells #[.bool t126, .string t127, .int .i64 t128] 23 (0, 0))) ∧ Aside0 (Below w.heap.size w wc))
      case first =>
        have H := HC8.out
        clear HC8
        by_cases c17 : (!(t126 == t120) || (!(t127.toList == t121.toList) || (!(t128 == t122)))) = true
        · rw [if_pos c17] at H
          have c17b0 : (!(t126 == t120) || (!(t127.toList == t121.toList) || (!(t128 == t122)))) = true := c17
          clear c17
          (first | rw [c17b0] | (simp only [i64_w, i32_w]; rw [c17b0]) | skip)
          have H' := Aside0.mk H
          clear H
          have hnb18 := NB131_125.out
          have hnc18 := NB125_131.out
          have hcz19_0 : w14.cell? ⟨gb131, 0, none⟩ = some (.bool false) := (blk_cell BK131.out 0).trans rfl
          have hcz19_1 : w14.cell? ⟨gb131, 1, none⟩ = some (.string (⟨#[]⟩ : ByteArray)) := (blk_cell BK131.out 1).trans rfl
          have hcz19_2 : w14.cell? ⟨gb131, 2, none⟩ = some (.int .i64 0) := (blk_cell BK131.out 2).trans rfl
          have hfz19_0 := blk_frozen BK131.out 0
          have hfz19_1 := blk_frozen BK131.out 1
          have hfz19_2 := blk_frozen BK131.out 2
          have hcz20_0 : w14.cell? ⟨gb125, 0, none⟩ = some (.bool t120) := (blk_cell BK125.out 0).trans rfl
          have hcz20_1 : w14.cell? ⟨gb125, 1, none⟩ = some (.string t121) := (blk_cell BK125.out 1).trans rfl
          have hcz20_2 : w14.cell? ⟨gb125, 2, none⟩ = some (.int .i64 t122) := (blk_cell BK125.out 2).trans rfl
          have hfz20_0 := blk_frozen BK125.out 0
          have hfz20_1 := blk_frozen BK125.out 1
          have hfz20_2 := blk_frozen BK125.out 2
          go_wp2
          go_meet
          case rel => exact ⟨_, (true), (by first | rfl | (simp; done) | (simp [*]; done)), H', ⟨by first | omega | exact Nat.le_refl _⟩, ⟨by (with_reducible repeat (first | refine blk_drewN ?_ _ | refine blk_drew ?_ | refine blk_alloc ?_ _)); refine blk_far ?_ NB125_131.out _; (with_reducible repeat (first | refine blk_drewN ?_ _ | refine blk_drew ?_ | refine blk_alloc ?_ _)); refine blk_far ?_ NB125_131.out _; (with_reducible repeat (first | refine blk_drewN ?_ _ | refine blk_drew ?_ | refine blk_alloc ?_ _)); refine blk_far ?_ NB125_131.out _; (with_reducible repeat (first | refine blk_drewN ?_ _ | refine blk_drew ?_ | refine blk_alloc ?_ _)); exact BK125.out⟩, ⟨by (with_reducible repeat (first | refine blk_drewN ?_ _ | refine blk_drew ?_ | refine blk_alloc ?_ _)); refine blk_put (cs := #[.bool t126, .string t127, .int .i64 0]) ?_ 2 _ rfl; (with_reducible repeat (first | refine blk_drewN ?_ _ | refine blk_drew ?_ | refine blk_alloc ?_ _)); refine blk_put (cs := #[.bool t126, .string (⟨#[]⟩ : ByteArray), .int .i64 0]) ?_ 1 _ rfl; (with_reducible repeat (first | refine blk_drewN ?_ _ | refine blk_drew ?_ | refine blk_alloc ?_ _)); refine blk_put (cs := #[.bool false, .string (⟨#[]⟩ : ByteArray), .int .i64 0]) ?_ 0 _ rfl; (with_reducible repeat (first | refine blk_drewN ?_ _ | refine blk_drew ?_ | refine blk_alloc ?_ _)); exact BK131.out⟩, ⟨by repeat (first | (with_reducible first | exact HB.out | apply below_alloc | apply pw_below_drewN | apply below_drew1 | refine below_set ?_ GE125.out | refine below_set ?_ GE131.out) | exact HB.out)⟩⟩
        · rw [if_neg c17] at H
          have c17b0 : (!(t126 == t120) || (!(t127.toList == t121.toList) || (!(t128 == t122)))) = false := by simpa using c17
          clear c17
          (first | rw [c17b0] | (simp only [i64_w, i32_w]; rw [c17b0]) | skip)
          by_cases c21 : t130 = t124
          · rw [if_pos c21] at H
            have c21b0 : (t130 == t124) = true := beq_iff_eq.mpr c21
            have c21b1 : (t130 != t124) = false := bne_eq_false_iff_eq.mpr c21
            clear c21
            have H' := Aside0.mk H
            clear H
            have hnb22 := NB131_125.out
            have hnc22 := NB125_131.out
            have hcz23_0 : w14.cell? ⟨gb131, 0, none⟩ = some (.bool false) := (blk_cell BK131.out 0).trans rfl
            have hcz23_1 : w14.cell? ⟨gb131, 1, none⟩ = some (.string (⟨#[]⟩ : ByteArray)) := (blk_cell BK131.out 1).trans rfl
            have hcz23_2 : w14.cell? ⟨gb131, 2, none⟩ = some (.int .i64 0) := (blk_cell BK131.out 2).trans rfl
            have hfz23_0 := blk_frozen BK131.out 0
            have hfz23_1 := blk_frozen BK131.out 1
            have hfz23_2 := blk_frozen BK131.out 2
            have hcz24_0 : w14.cell? ⟨gb125, 0, none⟩ = some (.bool t120) := (blk_cell BK125.out 0).trans rfl
            have hcz24_1 : w14.cell? ⟨gb125, 1, none⟩ = some (.string t121) := (blk_cell BK125.out 1).trans rfl
            have hcz24_2 : w14.cell? ⟨gb125, 2, none⟩ = some (.int .i64 t122) := (blk_cell BK125.out 2).trans rfl
            have hfz24_0 := blk_frozen BK125.out 0
            have hfz24_1 := blk_frozen BK125.out 1
            have hfz24_2 := blk_frozen BK125.out 2
            go_wp2
            go_meet
            case rel => exact ⟨_, ((t129 != (wrap64 (t123 + (a1.size : Int))))), (by first | rfl | (simp; done) | (simp [*]; done)), H', ⟨by first | omega | exact Nat.le_refl _⟩, ⟨by (with_reducible repeat (first | refine blk_drewN ?_ _ | refine blk_drew ?_ | refine blk_alloc ?_ _)); refine blk_far ?_ NB125_131.out _; (with_reducible repeat (first | refine blk_drewN ?_ _ | refine blk_drew ?_ | refine blk_alloc ?_ _)); refine blk_far ?_ NB125_131.out _; (with_reducible repeat (first | refine blk_drewN ?_ _ | refine blk_drew ?_ | refine blk_alloc ?_ _)); refine blk_far ?_ NB125_131.out _; (with_reducible repeat (first | refine blk_drewN ?_ _ | refine blk_drew ?_ | refine blk_alloc ?_ _)); exact BK125.out⟩, ⟨by (with_reducible repeat (first | refine blk_drewN ?_ _ | refine blk_drew ?_ | refine blk_alloc ?_ _)); refine blk_put (cs := #[.bool t126, .string t127, .int .i64 0]) ?_ 2 _ rfl; (with_reducible repeat (first | refine blk_drewN ?_ _ | refine blk_drew ?_ | refine blk_alloc ?_ _)); refine blk_put (cs := #[.bool t126, .string (⟨#[]⟩ : ByteArray), .int .i64 0]) ?_ 1 _ rfl; (with_reducible repeat (first | refine blk_drewN ?_ _ | refine blk_drew ?_ | refine blk_alloc ?_ _)); refine blk_put (cs := #[.bool false, .string (⟨#[]⟩ : ByteArray), .int .i64 0]) ?_ 0 _ rfl; (with_reducible repeat (first | refine blk_drewN ?_ _ | refine blk_drew ?_ | refine blk_alloc ?_ _)); exact BK131.out⟩, ⟨by repeat (first | (with_reducible first | exact HB.out | apply below_alloc | apply pw_below_drewN | apply below_drew1 | refine below_set ?_ GE125.out | refine below_set ?_ GE131.out) | exact HB.out)⟩⟩
          · rw [if_neg c21] at H
            have c21b0 : (t130 == t124) = false := beq_eq_false_iff_ne.mpr c21
            have c21b1 : (t130 != t124) = true := bne_iff_ne.mpr c21
            have H' := Aside0.mk H
            clear H
            have hnb25 := NB131_125.out
            have hnc25 := NB125_131.out
            have hcz26_0 : w14.cell? ⟨gb131, 0, none⟩ = some (.bool false) := (blk_cell BK131.out 0).trans rfl
            have hcz26_1 : w14.cell? ⟨gb131, 1, none⟩ = some (.string (⟨#[]⟩ : ByteArray)) := (blk_cell BK131.out 1).trans rfl
            have hcz26_2 : w14.cell? ⟨gb131, 2, none⟩ = some (.int .i64 0) := (blk_cell BK131.out 2).trans rfl
            have hfz26_0 := blk_frozen BK131.out 0
            have hfz26_1 := blk_frozen BK131.out 1
            have hfz26_2 := blk_frozen BK131.out 2
            have hcz27_0 : w14.cell? ⟨gb125, 0, none⟩ = some (.bool t120) := (blk_cell BK125.out 0).trans rfl
            have hcz27_1 : w14.cell? ⟨gb125, 1, none⟩ = some (.string t121) := (blk_cell BK125.out 1).trans rfl
            have hcz27_2 : w14.cell? ⟨gb125, 2, none⟩ = some (.int .i64 t122) := (blk_cell BK125.out 2).trans rfl
            have hfz27_0 := blk_frozen BK125.out 0
            have hfz27_1 := blk_frozen BK125.out 1
            have hfz27_2 := blk_frozen BK125.out 2
            go_wp2
            go_meet
            case rel => exact ⟨_, (true), (by first | rfl | (simp; done) | (simp [*]; done)), H', ⟨by first | omega | exact Nat.le_refl _⟩, ⟨by (with_reducible repeat (first | refine blk_drewN ?_ _ | refine blk_drew ?_ | refine blk_alloc ?_ _)); refine blk_far ?_ NB125_131.out _; (with_reducible repeat (first | refine blk_drewN ?_ _ | refine blk_drew ?_ | refine blk_alloc ?_ _)); refine blk_far ?_ NB125_131.out _; (with_reducible repeat (first | refine blk_drewN ?_ _ | refine blk_drew ?_ | refine blk_alloc ?_ _)); refine blk_far ?_ NB125_131.out _; (with_reducible repeat (first | refine blk_drewN ?_ _ | refine blk_drew ?_ | refine blk_alloc ?_ _)); exact BK125.out⟩, ⟨by (with_reducible repeat (first | refine blk_drewN ?_ _ | refine blk_drew ?_ | refine blk_alloc ?_ _)); refine blk_put (cs := #[.bool t126, .string t127, .int .i64 0]) ?_ 2 _ rfl; (with_reducible repeat (first | refine blk_drewN ?_ _ | refine blk_drew ?_ | refine blk_alloc ?_ _)); refine blk_put (cs := #[.bool t126, .string (⟨#[]⟩ : ByteArray), .int .i64 0]) ?_ 1 _ rfl; (with_reducible repeat (first | refine blk_drewN ?_ _ | refine blk_drew ?_ | refine blk_alloc ?_ _)); refine blk_put (cs := #[.bool false, .string (⟨#[]⟩ : ByteArray), .int .i64 0]) ?_ 0 _ rfl; (with_reducible repeat (first | refine blk_drewN ?_ _ | refine blk_drew ?_ | refine blk_alloc ?_ _)); exact BK131.out⟩, ⟨by repeat (first | (with_reducible first | exact HB.out | apply below_alloc | apply pw_below_drewN | apply below_drew1 | refine below_set ?_ GE125.out | refine below_set ?_ GE131.out) | exact HB.out)⟩⟩
      case rest =>
        clear HC8
        try clear c1
        try clear c2
        try clear p2
        try clear c4
        try clear c6
        try clear c6b0
        try clear c6b1
        try clear c6b2
        try clear p6
        try clear c15
        try clear c16
        try clear c17
        try clear c17b0
        try clear c18
        try clear c20
        try clear c21
        try clear c21b0
        try clear c21b1
        try clear c22
        try clear c25
        try clear hcz12_0
        try clear hcz12_1
        try clear hcz12_2
        try clear hcz16_0
        try clear hcz16_1
        try clear hcz16_2
        try clear hcz19_0
        try clear hcz19_1
        try clear hcz19_2
        try clear hcz20_0
        try clear hcz20_1
        try clear hcz20_2
        try clear hcz23_0
        try clear hcz23_1
        try clear hcz23_2
        try clear hcz24_0
        try clear hcz24_1
        try clear hcz24_2
        try clear hcz26_0
        try clear hcz26_1
        try clear hcz26_2
        try clear hcz27_0
        try clear hcz27_1
        try clear hcz27_2
        try clear hfz12_0
        try clear hfz12_1
        try clear hfz12_2
        try clear hfz16_0
        try clear hfz16_1
        try clear hfz16_2
        try clear hfz19_0
        try clear hfz19_1
        try clear hfz19_2
        try clear hfz20_0
        try clear hfz20_1
        try clear hfz20_2
        try clear hfz23_0
        try clear hfz23_1
        try clear hfz23_2
        try clear hfz24_0
        try clear hfz24_1
        try clear hfz24_2
        try clear hfz26_0
        try clear hfz26_1
        try clear hfz26_2
        try clear hfz27_0
        try clear hfz27_1
        try clear hfz27_2
        obtain ⟨kq, x48_7, rfl, HA, HJ7, BK125, BK131, HB⟩ := hcut
        cases kq with
        | zero => exact absurd HA.out (by simp [quarrylaw11_DecimalSplits.j0])
        | succ kj7 =>
          have H := HA.out
          clear HA
          simp only [quarrylaw11_DecimalSplits.j0] at H
          by_cases c28 : x48_7 = true
          · subst c28
            have H1 : (none) = some r := by rw [if_pos rfl] at H; exact H
            clear H
            have H := H1
            clear H1
            exact absurd H (by simp)
          · replace c28 := Bool.eq_false_iff.mpr c28
            subst c28
            have H1 : ((decimal_Of.f a0).bind fun bt132 => (if t124 = 110 then (if (!t120 && (t121.toList == ([] : List UInt8) && (t122 == 0))) = true then (if t123 ≥ 0 then (if t123 ≤ (a0.size : Int) then (if (bt132.1 == t120 && (bt132.2.1.toList == t121.toList && (bt132.2.2.1 == t122))) = true then (some (bt132.2.2.2 == 110)) else (none)) else (none)) else (none)) else (none)) else (if t124 = 0 then (if t123 < 1 then (quarrylaw11_DecimalSplits.j1 kj7 a0 t123 t124 bt132.2.2.2 true t120 t121 t122 bt132.1 bt132.2.1 bt132.2.2.1) else (quarrylaw11_DecimalSplits.j1 kj7 a0 t123 t124 bt132.2.2.2 (decide (t123 > (a0.size : Int))) t120 t121 t122 bt132.1 bt132.2.1 bt132.2.2.1)) else (if t124 = 111 then (if t123 < 1 then (quarrylaw11_DecimalSplits.j1 kj7 a0 t123 t124 bt132.2.2.2 true t120 t121 t122 bt132.1 bt132.2.1 bt132.2.2.1) else (quarrylaw11_DecimalSplits.j1 kj7 a0 t123 t124 bt132.2.2.2 (decide (t123 > (a0.size : Int))) t120 t121 t122 bt132.1 bt132.2.1 bt132.2.2.1)) else (quarrylaw11_DecimalSplits.j1 kj7 a0 t123 t124 bt132.2.2.2 true t120 t121 t122 bt132.1 bt132.2.1 bt132.2.2.1))))) = some r := by rw [if_neg (show ¬ (false = true) by decide)] at H; exact H
            clear H
            have H := H1
            clear H1
            replace H := Option.bind_eq_some_iff.mp H
            obtain ⟨⟨t132, t133, t134, t135⟩, A290, H⟩ := H
            replace H : (if t124 = 110 then (if (!t120 && (t121.toList == ([] : List UInt8) && (t122 == 0))) = true then (if t123 ≥ 0 then (if t123 ≤ (a0.size : Int) then (if (t132 == t120 && (t133.toList == t121.toList && (t134 == t122))) = true then (some (t135 == 110)) else (none)) else (none)) else (none)) else (none)) else (if t124 = 0 then (if t123 < 1 then (quarrylaw11_DecimalSplits.j1 kj7 a0 t123 t124 t135 true t120 t121 t122 t132 t133 t134) else (quarrylaw11_DecimalSplits.j1 kj7 a0 t123 t124 t135 (decide (t123 > (a0.size : Int))) t120 t121 t122 t132 t133 t134)) else (if t124 = 111 then (if t123 < 1 then (quarrylaw11_DecimalSplits.j1 kj7 a0 t123 t124 t135 true t120 t121 t122 t132 t133 t134) else (quarrylaw11_DecimalSplits.j1 kj7 a0 t123 t124 t135 (decide (t123 > (a0.size : Int))) t120 t121 t122 t132 t133 t134)) else (quarrylaw11_DecimalSplits.j1 kj7 a0 t123 t124 t135 true t120 t121 t122 t132 t133 t134)))) = some r := H
            have A29 := Aside0.mk A290
            clear A290
            by_cases c30 : t124 = 110
            · rw [if_pos c30] at H
              have c30b0 : (t124 == 110) = true := beq_iff_eq.mpr c30
              have c30b1 : (t124 != 110) = false := bne_eq_false_iff_eq.mpr c30
              clear c30
              by_cases c31 : (!t120 && (t121.toList == ([] : List UInt8) && (t122 == 0))) = true
              · rw [if_pos c31] at H
                have c31b0 : (!t120 && (t121.toList == ([] : List UInt8) && (t122 == 0))) = true := c31
                (try (have dz_ : t120 = false ∧ t121.toList = [] ∧ t122 = 0 := by simpa using c31))
                clear c31
                by_cases c32 : t123 ≥ 0
                · rw [if_pos c32] at H
                  have c32b0 : decide (0 ≤ t123) = true := decide_eq_true c32
                  clear c32
                  by_cases c33 : t123 ≤ (a0.size : Int)
                  · rw [if_pos c33] at H
                    have c33b0 : decide (t123 ≤ (a0.size : Int)) = true := decide_eq_true c33
                    clear c33
                    by_cases c34 : (t132 == t120 && (t133.toList == t121.toList && (t134 == t122))) = true
                    · rw [if_pos c34] at H
                      have c34b0 : (t132 == t120 && (t133.toList == t121.toList && (t134 == t122))) = true := c34
                      (try (have ez_ := c34; simp [dz_] at ez_))
                      (try (have c34b1 : decide (t132 = t120 && (t133.toList == t121.toList && (t134 == t122))) = true := by simpa using c34))
                      (try (have c34b2 : (t132 == t120 && (t133.toList == t121.toList && (t134 == t122))) = true := by simpa using c34))
                      clear c34
                      obtain rfl := Option.some.inj H
                      go_wp2_with (first | ((with_reducible refine gate_callee (f := 18) rfl ?_); refine goesL_ (some 51) rfl rfl Tryd.func18 (by kernel_rfl) rfl #[.string a0] rfl (by (try simp only [List.map_toArray, List.map_cons, List.map_nil]); first | done | rfl | (simp only [List.length_drop, List.length_take]; rfl)) ?_; (with_reducible refine (decimal_Of.calls a0 t132 t133 t134 t135 _ A29.out).mono ?_); rintro e w35 ⟨rfl, hb⟩; refine ⟨_, rfl, ?_⟩; have n0_ := Aside0.mk (blk_below (g := gb125) (o := .cells #[.bool t120, .string t121, .int .i64 t122] 23 (0, 0)) (by (with_reducible repeat (first | refine blk_drewN ?_ _ | refine blk_drew ?_ | refine blk_alloc ?_ _)); exact BK125.out) hb); have n1_ := Aside0.mk (blk_below (g := gb131) (o := .cells #[.bool t126, .string t127, .int .i64 t128] 23 (0, 0)) (by (with_reducible repeat (first | refine blk_drewN ?_ _ | refine blk_drew ?_ | refine blk_alloc ?_ _)); exact BK131.out) hb); have n2_ := Aside0.mk (below_step (by repeat (first | (with_reducible first | exact HB.out | apply below_alloc | apply pw_below_drewN | apply below_drew1 | refine below_set ?_ GE125.out | refine below_set ?_ GE131.out) | exact HB.out)) hb); clear BK125; clear BK131; clear HB; have BK125 := n0_; have BK131 := n1_; have HB := n2_; clear n0_ n1_ n2_; (try clear hb); (try clear hb2); (try clear hk); (try clear hi)) | ((with_reducible refine gate_dst (N := 11) rfl ?_); (try (refine gate_guard (by rfl) ?_; dsimp only)); refine box_event ?hg (N := 11) ?hd (cs := #[.bool false, .string (⟨#[]⟩ : ByteArray), .int .i64 0]) (t := 23) ?hr ?_; (case hd => rfl); (case hg => rfl); (case hr => first | (go_simp; done) | (go_simp; rfl)); intro gb136 hg w36 hbox hb; have n0_ := Aside0.mk (blk_below (g := gb125) (o := .cells #[.bool t120, .string t121, .int .i64 t122] 23 (0, 0)) (by (with_reducible repeat (first | refine blk_drewN ?_ _ | refine blk_drew ?_ | refine blk_alloc ?_ _)); exact BK125.out) hb); have n1_ := Aside0.mk (blk_below (g := gb131) (o := .cells #[.bool t126, .string t127, .int .i64 t128] 23 (0, 0)) (by (with_reducible repeat (first | refine blk_drewN ?_ _ | refine blk_drew ?_ | refine blk_alloc ?_ _)); exact BK131.out) hb); have n2_ := Aside0.mk (below_step (by repeat (first | (with_reducible first | exact HB.out | apply below_alloc | apply pw_below_drewN | apply below_drew1 | refine below_set ?_ GE125.out | refine below_set ?_ GE131.out) | exact HB.out)) hb); have n3_ := Aside0.mk (hbox); have n4_ := Aside0.mk ((by rw [hg]; exact (below_size (by repeat (first | (with_reducible first | exact HB.out | apply below_alloc | apply pw_below_drewN | apply below_drew1 | refine below_set ?_ GE125.out | refine below_set ?_ GE131.out) | exact HB.out))) : w.heap.size ≤ gb136)); have n5_ := Aside0.mk ((by rw [hg]; exact (below_size (by repeat (first | (with_reducible first | exact HB.out | apply below_alloc | apply pw_below_drewN | apply below_drew1 | refine below_set ?_ GE125.out | refine below_set ?_ GE131.out) | exact HB.out))) : w.heap.size ≤ gb136)); have n6_ := Aside0.mk ((by rw [hg]; exact Nat.ne_of_lt (blk_lt (g := gb125) (o := .cells #[.bool t120, .string t121, .int .i64 t122] 23 (0, 0)) (by (with_reducible repeat (first | refine blk_drewN ?_ _ | refine blk_drew ?_ | refine blk_alloc ?_ _)); exact BK125.out)) : gb125 ≠ gb136)); have n7_ := Aside0.mk ((by rw [hg]; exact Nat.ne_of_gt (blk_lt (g := gb125) (o := .cells #[.bool t120, .string t121, .int .i64 t122] 23 (0, 0)) (by (with_reducible repeat (first | refine blk_drewN ?_ _ | refine blk_drew ?_ | refine blk_alloc ?_ _)); exact BK125.out)) : gb136 ≠ gb125)); have n8_ := Aside0.mk ((by rw [hg]; exact Nat.ne_of_lt (blk_lt (g := gb131) (o := .cells #[.bool t126, .string t127, .int .i64 t128] 23 (0, 0)) (by (with_reducible repeat (first | refine blk_drewN ?_ _ | refine blk_drew ?_ | refine blk_alloc ?_ _)); exact BK131.out)) : gb131 ≠ gb136)); have n9_ := Aside0.mk ((by rw [hg]; exact Nat.ne_of_gt (blk_lt (g := gb131) (o := .cells #[.bool t126, .string t127, .int .i64 t128] 23 (0, 0)) (by (with_reducible repeat (first | refine blk_drewN ?_ _ | refine blk_drew ?_ | refine blk_alloc ?_ _)); exact BK131.out)) : gb136 ≠ gb131)); clear BK125; clear BK131; clear HB; have BK125 := n0_; have BK131 := n1_; have HB := n2_; have BK136 := n3_; have GW136 := n4_; have GE136 := n5_; have NB125_136 := n6_; have NB136_125 := n7_; have NB131_136 := n8_; have NB136_131 := n9_; clear n0_ n1_ n2_ n3_ n4_ n5_ n6_ n7_ n8_ n9_; clear hb hbox hg; have hnb37 := NB136_125.out; have hnc37 := NB125_136.out; have hnb38 := NB136_131.out; have hnc38 := NB131_136.out; have hcz39_0 : w36.cell? ⟨gb136, 0, none⟩ = some (.bool false) := (blk_cell BK136.out 0).trans rfl; have hcz39_1 : w36.cell? ⟨gb136, 1, none⟩ = some (.string (⟨#[]⟩ : ByteArray)) := (blk_cell BK136.out 1).trans rfl; have hcz39_2 : w36.cell? ⟨gb136, 2, none⟩ = some (.int .i64 0) := (blk_cell BK136.out 2).trans rfl; have hfz39_0 := blk_frozen BK136.out 0; have hfz39_1 := blk_frozen BK136.out 1; have hfz39_2 := blk_frozen BK136.out 2; have hnb40 := NB125_131.out; have hnc40 := NB131_125.out; have hcz41_0 : w36.cell? ⟨gb125, 0, none⟩ = some (.bool t120) := (blk_cell BK125.out 0).trans rfl; have hcz41_1 : w36.cell? ⟨gb125, 1, none⟩ = some (.string t121) := (blk_cell BK125.out 1).trans rfl; have hcz41_2 : w36.cell? ⟨gb125, 2, none⟩ = some (.int .i64 t122) := (blk_cell BK125.out 2).trans rfl; have hfz41_0 := blk_frozen BK125.out 0; have hfz41_1 := blk_frozen BK125.out 1; have hfz41_2 := blk_frozen BK125.out 2))
                      go_ret
                      exact ⟨by first | rfl | (simp [errW_none, errW_some] <;> rfl) | (simp [*, errW_none, errW_some] <;> rfl), by repeat (first | (with_reducible first | exact HB.out | apply below_alloc | apply pw_below_drewN | apply below_drew1 | refine below_set ?_ GE125.out | refine below_set ?_ GE131.out | refine below_set ?_ GE136.out) | exact HB.out)⟩
                    · rw [if_neg c34] at H
                      exact absurd H (by simp)
                  · rw [if_neg c33] at H
                    exact absurd H (by simp)
                · rw [if_neg c32] at H
                  exact absurd H (by simp)
              · rw [if_neg c31] at H
                exact absurd H (by simp)
            · rw [if_neg c30] at H
              have c30b0 : (t124 == 110) = false := beq_eq_false_iff_ne.mpr c30
              have c30b1 : (t124 != 110) = true := bne_iff_ne.mpr c30
              have HC42 := Aside0.mk H
              clear H
              go_upto_region 10 with (first | ((with_reducible refine gate_callee (f := 18) rfl ?_); refine goesL_ (some 51) rfl rfl Tryd.func18 (by kernel_rfl) rfl #[.string a0] rfl (by (try simp only [List.map_toArray, List.map_cons, List.map_nil]); first | done | rfl | (simp only [List.length_drop, List.length_take]; rfl)) ?_; (with_reducible refine (decimal_Of.calls a0 t132 t133 t134 t135 _ A29.out).mono ?_); rintro e w43 ⟨rfl, hb⟩; refine ⟨_, rfl, ?_⟩; have n0_ := Aside0.mk (blk_below (g := gb125) (o := .cells #[.bool t120, .string t121, .int .i64 t122] 23 (0, 0)) (by (with_reducible repeat (first | refine blk_drewN ?_ _ | refine blk_drew ?_ | refine blk_alloc ?_ _)); exact BK125.out) hb); have n1_ := Aside0.mk (blk_below (g := gb131) (o := .cells #[.bool t126, .string t127, .int .i64 t128] 23 (0, 0)) (by (with_reducible repeat (first | refine blk_drewN ?_ _ | refine blk_drew ?_ | refine blk_alloc ?_ _)); exact BK131.out) hb); have n2_ := Aside0.mk (below_step (by repeat (first | (with_reducible first | exact HB.out | apply below_alloc | apply pw_below_drewN | apply below_drew1 | refine below_set ?_ GE125.out | refine below_set ?_ GE131.out) | exact HB.out)) hb); clear BK125; clear BK131; clear HB; have BK125 := n0_; have BK131 := n1_; have HB := n2_; clear n0_ n1_ n2_; (try clear hb); (try clear hb2); (try clear hk); (try clear hi)) | ((with_reducible refine gate_dst (N := 11) rfl ?_); (try (refine gate_guard (by rfl) ?_; dsimp only)); refine box_event ?hg (N := 11) ?hd (cs := #[.bool false, .string (⟨#[]⟩ : ByteArray), .int .i64 0]) (t := 23) ?hr ?_; (case hd => rfl); (case hg => rfl); (case hr => first | (go_simp; done) | (go_simp; rfl)); intro gb136 hg w44 hbox hb; have n0_ := Aside0.mk (blk_below (g := gb125) (o := .cells #[.bool t120, .string t121, .int .i64 t122] 23 (0, 0)) (by (with_reducible repeat (first | refine blk_drewN ?_ _ | refine blk_drew ?_ | refine blk_alloc ?_ _)); exact BK125.out) hb); have n1_ := Aside0.mk (blk_below (g := gb131) (o := .cells #[.bool t126, .string t127, .int .i64 t128] 23 (0, 0)) (by (with_reducible repeat (first | refine blk_drewN ?_ _ | refine blk_drew ?_ | refine blk_alloc ?_ _)); exact BK131.out) hb); have n2_ := Aside0.mk (below_step (by repeat (first | (with_reducible first | exact HB.out | apply below_alloc | apply pw_below_drewN | apply below_drew1 | refine below_set ?_ GE125.out | refine below_set ?_ GE131.out) | exact HB.out)) hb); have n3_ := Aside0.mk (hbox); have n4_ := Aside0.mk ((by rw [hg]; exact (below_size (by repeat (first | (with_reducible first | exact HB.out | apply below_alloc | apply pw_below_drewN | apply below_drew1 | refine below_set ?_ GE125.out | refine below_set ?_ GE131.out) | exact HB.out))) : w.heap.size ≤ gb136)); have n5_ := Aside0.mk ((by rw [hg]; exact (below_size (by repeat (first | (with_reducible first | exact HB.out | apply below_alloc | apply pw_below_drewN | apply below_drew1 | refine below_set ?_ GE125.out | refine below_set ?_ GE131.out) | exact HB.out))) : w.heap.size ≤ gb136)); have n6_ := Aside0.mk ((by rw [hg]; exact Nat.ne_of_lt (blk_lt (g := gb125) (o := .cells #[.bool t120, .string t121, .int .i64 t122] 23 (0, 0)) (by (with_reducible repeat (first | refine blk_drewN ?_ _ | refine blk_drew ?_ | refine blk_alloc ?_ _)); exact BK125.out)) : gb125 ≠ gb136)); have n7_ := Aside0.mk ((by rw [hg]; exact Nat.ne_of_gt (blk_lt (g := gb125) (o := .cells #[.bool t120, .string t121, .int .i64 t122] 23 (0, 0)) (by (with_reducible repeat (first | refine blk_drewN ?_ _ | refine blk_drew ?_ | refine blk_alloc ?_ _)); exact BK125.out)) : gb136 ≠ gb125)); have n8_ := Aside0.mk ((by rw [hg]; exact Nat.ne_of_lt (blk_lt (g := gb131) (o := .cells #[.bool t126, .string t127, .int .i64 t128] 23 (0, 0)) (by (with_reducible repeat (first | refine blk_drewN ?_ _ | refine blk_drew ?_ | refine blk_alloc ?_ _)); exact BK131.out)) : gb131 ≠ gb136)); have n9_ := Aside0.mk ((by rw [hg]; exact Nat.ne_of_gt (blk_lt (g := gb131) (o := .cells #[.bool t126, .string t127, .int .i64 t128] 23 (0, 0)) (by (with_reducible repeat (first | refine blk_drewN ?_ _ | refine blk_drew ?_ | refine blk_alloc ?_ _)); exact BK131.out)) : gb136 ≠ gb131)); clear BK125; clear BK131; clear HB; have BK125 := n0_; have BK131 := n1_; have HB := n2_; have BK136 := n3_; have GW136 := n4_; have GE136 := n5_; have NB125_136 := n6_; have NB136_125 := n7_; have NB131_136 := n8_; have NB136_131 := n9_; clear n0_ n1_ n2_ n3_ n4_ n5_ n6_ n7_ n8_ n9_; clear hb hbox hg; have hnb45 := NB136_125.out; have hnc45 := NB125_136.out; have hnb46 := NB136_131.out; have hnc46 := NB131_136.out; have hcz47_0 : w44.cell? ⟨gb136, 0, none⟩ = some (.bool false) := (blk_cell BK136.out 0).trans rfl; have hcz47_1 : w44.cell? ⟨gb136, 1, none⟩ = some (.string (⟨#[]⟩ : ByteArray)) := (blk_cell BK136.out 1).trans rfl; have hcz47_2 : w44.cell? ⟨gb136, 2, none⟩ = some (.int .i64 0) := (blk_cell BK136.out 2).trans rfl; have hfz47_0 := blk_frozen BK136.out 0; have hfz47_1 := blk_frozen BK136.out 1; have hfz47_2 := blk_frozen BK136.out 2))
              (try simp only [Act.put, List.setIfInBounds_toArray, List.set_cons_zero, List.set_cons_succ])
              go_cut [93] (fun v93 wc => ∃ (kq : Nat) (x93_41 : Bool), v93 = .bool x93_41 ∧ Aside0 (quarrylaw11_DecimalSplits.j1 kq a0 t123 t124 t135 x93_41 t120 t121 t122 t132 t133 t134 = some r) ∧ Aside0 (kq ≤ kj7) ∧ Aside0 (wc.heap[gb125]? = some (.cells #[.bool t120, .string t121, .int .i64 t122] 23 (0, 0))) ∧ Aside0 (wc.heap[gb131]? = some (.cells #[.bool t126, .string t127, .int .i64 t128] 23 (0, 0))) ∧ Aside0 (wc.heap[gb136]? = some (.cells #[.bool t132, .string t133, .int .i64 t134] 23 (0, 0))) ∧ Aside0 (Below w.heap.size w wc))
              case first =>
                have H := HC42.out
                clear HC42
                by_cases c48 : t124 = 0
                · rw [if_pos c48] at H
                  have c48b0 : (t124 == 0) = true := beq_iff_eq.mpr c48
                  have c48b1 : (t124 != 0) = false := bne_eq_false_iff_eq.mpr c48
                  clear c48
                  (first | rw [c48b0] | (simp only [i64_w, i32_w]; rw [c48b0]) | skip)
                  by_cases c49 : t123 < 1
                  · rw [if_pos c49] at H
                    have c49b0 : decide (t123 < 1) = true := decide_eq_true c49
                    clear c49
                    have H' := Aside0.mk H
                    clear H
                    go_wp2
                    go_meet
                    case rel => exact ⟨_, (true), (by first | rfl | (simp; done) | (simp [*]; done)), H', ⟨by have := HJ7.out; first | omega | exact Nat.le_refl _⟩, ⟨by (with_reducible repeat (first | refine blk_drewN ?_ _ | refine blk_drew ?_ | refine blk_alloc ?_ _)); refine blk_far ?_ NB125_136.out _; (with_reducible repeat (first | refine blk_drewN ?_ _ | refine blk_drew ?_ | refine blk_alloc ?_ _)); refine blk_far ?_ NB125_136.out _; (with_reducible repeat (first | refine blk_drewN ?_ _ | refine blk_drew ?_ | refine blk_alloc ?_ _)); refine blk_far ?_ NB125_136.out _; (with_reducible repeat (first | refine blk_drewN ?_ _ | refine blk_drew ?_ | refine blk_alloc ?_ _)); exact BK125.out⟩, ⟨by (with_reducible repeat (first | refine blk_drewN ?_ _ | refine blk_drew ?_ | refine blk_alloc ?_ _)); refine blk_far ?_ NB131_136.out _; (with_reducible repeat (first | refine blk_drewN ?_ _ | refine blk_drew ?_ | refine blk_alloc ?_ _)); refine blk_far ?_ NB131_136.out _; (with_reducible repeat (first | refine blk_drewN ?_ _ | refine blk_drew ?_ | refine blk_alloc ?_ _)); refine blk_far ?_ NB131_136.out _; (with_reducible repeat (first | refine blk_drewN ?_ _ | refine blk_drew ?_ | refine blk_alloc ?_ _)); exact BK131.out⟩, ⟨by (with_reducible repeat (first | refine blk_drewN ?_ _ | refine blk_drew ?_ | refine blk_alloc ?_ _)); refine blk_put (cs := #[.bool t132, .string t133, .int .i64 0]) ?_ 2 _ rfl; (with_reducible repeat (first | refine blk_drewN ?_ _ | refine blk_drew ?_ | refine blk_alloc ?_ _)); refine blk_put (cs := #[.bool t132, .string (⟨#[]⟩ : ByteArray), .int .i64 0]) ?_ 1 _ rfl; (with_reducible repeat (first | refine blk_drewN ?_ _ | refine blk_drew ?_ | refine blk_alloc ?_ _)); refine blk_put (cs := #[.bool false, .string (⟨#[]⟩ : ByteArray), .int .i64 0]) ?_ 0 _ rfl; (with_reducible repeat (first | refine blk_drewN ?_ _ | refine blk_drew ?_ | refine blk_alloc ?_ _)); exact BK136.out⟩, ⟨by repeat (first | (with_reducible first | exact HB.out | apply below_alloc | apply pw_below_drewN | apply below_drew1 | refine below_set ?_ GE125.out | refine below_set ?_ GE131.out | refine below_set ?_ GE136.out) | exact HB.out)⟩⟩
                  · rw [if_neg c49] at H
                    have c49b0 : decide (t123 < 1) = false := decide_eq_false c49
                    clear c49
                    have H' := Aside0.mk H
                    clear H
                    go_wp2
                    go_meet
                    case rel => exact ⟨_, (decide (t123 > (a0.size : Int))), (by first | rfl | (simp; done) | (simp [*]; done)), H', ⟨by have := HJ7.out; first | omega | exact Nat.le_refl _⟩, ⟨by (with_reducible repeat (first | refine blk_drewN ?_ _ | refine blk_drew ?_ | refine blk_alloc ?_ _)); refine blk_far ?_ NB125_136.out _; (with_reducible repeat (first | refine blk_drewN ?_ _ | refine blk_drew ?_ | refine blk_alloc ?_ _)); refine blk_far ?_ NB125_136.out _; (with_reducible repeat (first | refine blk_drewN ?_ _ | refine blk_drew ?_ | refine blk_alloc ?_ _)); refine blk_far ?_ NB125_136.out _; (with_reducible repeat (first | refine blk_drewN ?_ _ | refine blk_drew ?_ | refine blk_alloc ?_ _)); exact BK125.out⟩, ⟨by (with_reducible repeat (first | refine blk_drewN ?_ _ | refine blk_drew ?_ | refine blk_alloc ?_ _)); refine blk_far ?_ NB131_136.out _; (with_reducible repeat (first | refine blk_drewN ?_ _ | refine blk_drew ?_ | refine blk_alloc ?_ _)); refine blk_far ?_ NB131_136.out _; (with_reducible repeat (first | refine blk_drewN ?_ _ | refine blk_drew ?_ | refine blk_alloc ?_ _)); refine blk_far ?_ NB131_136.out _; (with_reducible repeat (first | refine blk_drewN ?_ _ | refine blk_drew ?_ | refine blk_alloc ?_ _)); exact BK131.out⟩, ⟨by (with_reducible repeat (first | refine blk_drewN ?_ _ | refine blk_drew ?_ | refine blk_alloc ?_ _)); refine blk_put (cs := #[.bool t132, .string t133, .int .i64 0]) ?_ 2 _ rfl; (with_reducible repeat (first | refine blk_drewN ?_ _ | refine blk_drew ?_ | refine blk_alloc ?_ _)); refine blk_put (cs := #[.bool t132, .string (⟨#[]⟩ : ByteArray), .int .i64 0]) ?_ 1 _ rfl; (with_reducible repeat (first | refine blk_drewN ?_ _ | refine blk_drew ?_ | refine blk_alloc ?_ _)); refine blk_put (cs := #[.bool false, .string (⟨#[]⟩ : ByteArray), .int .i64 0]) ?_ 0 _ rfl; (with_reducible repeat (first | refine blk_drewN ?_ _ | refine blk_drew ?_ | refine blk_alloc ?_ _)); exact BK136.out⟩, ⟨by repeat (first | (with_reducible first | exact HB.out | apply below_alloc | apply pw_below_drewN | apply below_drew1 | refine below_set ?_ GE125.out | refine below_set ?_ GE131.out | refine below_set ?_ GE136.out) | exact HB.out)⟩⟩
                · rw [if_neg c48] at H
                  have c48b0 : (t124 == 0) = false := beq_eq_false_iff_ne.mpr c48
                  have c48b1 : (t124 != 0) = true := bne_iff_ne.mpr c48
                  (first | rw [c48b0] | (simp only [i64_w, i32_w]; rw [c48b0]) | skip)
                  by_cases c50 : t124 = 111
                  · rw [if_pos c50] at H
                    have c50b0 : (t124 == 111) = true := beq_iff_eq.mpr c50
                    have c50b1 : (t124 != 111) = false := bne_eq_false_iff_eq.mpr c50
                    clear c50
                    by_cases c51 : t123 < 1
                    · rw [if_pos c51] at H
                      have c51b0 : decide (t123 < 1) = true := decide_eq_true c51
                      clear c51
                      have H' := Aside0.mk H
                      clear H
                      go_wp2
                      go_meet
                      case rel => exact ⟨_, (true), (by first | rfl | (simp; done) | (simp [*]; done)), H', ⟨by have := HJ7.out; first | omega | exact Nat.le_refl _⟩, ⟨by (with_reducible repeat (first | refine blk_drewN ?_ _ | refine blk_drew ?_ | refine blk_alloc ?_ _)); refine blk_far ?_ NB125_136.out _; (with_reducible repeat (first | refine blk_drewN ?_ _ | refine blk_drew ?_ | refine blk_alloc ?_ _)); refine blk_far ?_ NB125_136.out _; (with_reducible repeat (first | refine blk_drewN ?_ _ | refine blk_drew ?_ | refine blk_alloc ?_ _)); refine blk_far ?_ NB125_136.out _; (with_reducible repeat (first | refine blk_drewN ?_ _ | refine blk_drew ?_ | refine blk_alloc ?_ _)); exact BK125.out⟩, ⟨by (with_reducible repeat (first | refine blk_drewN ?_ _ | refine blk_drew ?_ | refine blk_alloc ?_ _)); refine blk_far ?_ NB131_136.out _; (with_reducible repeat (first | refine blk_drewN ?_ _ | refine blk_drew ?_ | refine blk_alloc ?_ _)); refine blk_far ?_ NB131_136.out _; (with_reducible repeat (first | refine blk_drewN ?_ _ | refine blk_drew ?_ | refine blk_alloc ?_ _)); refine blk_far ?_ NB131_136.out _; (with_reducible repeat (first | refine blk_drewN ?_ _ | refine blk_drew ?_ | refine blk_alloc ?_ _)); exact BK131.out⟩, ⟨by (with_reducible repeat (first | refine blk_drewN ?_ _ | refine blk_drew ?_ | refine blk_alloc ?_ _)); refine blk_put (cs := #[.bool t132, .string t133, .int .i64 0]) ?_ 2 _ rfl; (with_reducible repeat (first | refine blk_drewN ?_ _ | refine blk_drew ?_ | refine blk_alloc ?_ _)); refine blk_put (cs := #[.bool t132, .string (⟨#[]⟩ : ByteArray), .int .i64 0]) ?_ 1 _ rfl; (with_reducible repeat (first | refine blk_drewN ?_ _ | refine blk_drew ?_ | refine blk_alloc ?_ _)); refine blk_put (cs := #[.bool false, .string (⟨#[]⟩ : ByteArray), .int .i64 0]) ?_ 0 _ rfl; (with_reducible repeat (first | refine blk_drewN ?_ _ | refine blk_drew ?_ | refine blk_alloc ?_ _)); exact BK136.out⟩, ⟨by repeat (first | (with_reducible first | exact HB.out | apply below_alloc | apply pw_below_drewN | apply below_drew1 | refine below_set ?_ GE125.out | refine below_set ?_ GE131.out | refine below_set ?_ GE136.out) | exact HB.out)⟩⟩
                    · rw [if_neg c51] at H
                      have c51b0 : decide (t123 < 1) = false := decide_eq_false c51
                      clear c51
                      have H' := Aside0.mk H
                      clear H
                      go_wp2
                      go_meet
                      case rel => exact ⟨_, (decide (t123 > (a0.size : Int))), (by first | rfl | (simp; done) | (simp [*]; done)), H', ⟨by have := HJ7.out; first | omega | exact Nat.le_refl _⟩, ⟨by (with_reducible repeat (first | refine blk_drewN ?_ _ | refine blk_drew ?_ | refine blk_alloc ?_ _)); refine blk_far ?_ NB125_136.out _; (with_reducible repeat (first | refine blk_drewN ?_ _ | refine blk_drew ?_ | refine blk_alloc ?_ _)); refine blk_far ?_ NB125_136.out _; (with_reducible repeat (first | refine blk_drewN ?_ _ | refine blk_drew ?_ | refine blk_alloc ?_ _)); refine blk_far ?_ NB125_136.out _; (with_reducible repeat (first | refine blk_drewN ?_ _ | refine blk_drew ?_ | refine blk_alloc ?_ _)); exact BK125.out⟩, ⟨by (with_reducible repeat (first | refine blk_drewN ?_ _ | refine blk_drew ?_ | refine blk_alloc ?_ _)); refine blk_far ?_ NB131_136.out _; (with_reducible repeat (first | refine blk_drewN ?_ _ | refine blk_drew ?_ | refine blk_alloc ?_ _)); refine blk_far ?_ NB131_136.out _; (with_reducible repeat (first | refine blk_drewN ?_ _ | refine blk_drew ?_ | refine blk_alloc ?_ _)); refine blk_far ?_ NB131_136.out _; (with_reducible repeat (first | refine blk_drewN ?_ _ | refine blk_drew ?_ | refine blk_alloc ?_ _)); exact BK131.out⟩, ⟨by (with_reducible repeat (first | refine blk_drewN ?_ _ | refine blk_drew ?_ | refine blk_alloc ?_ _)); refine blk_put (cs := #[.bool t132, .string t133, .int .i64 0]) ?_ 2 _ rfl; (with_reducible repeat (first | refine blk_drewN ?_ _ | refine blk_drew ?_ | refine blk_alloc ?_ _)); refine blk_put (cs := #[.bool t132, .string (⟨#[]⟩ : ByteArray), .int .i64 0]) ?_ 1 _ rfl; (with_reducible repeat (first | refine blk_drewN ?_ _ | refine blk_drew ?_ | refine blk_alloc ?_ _)); refine blk_put (cs := #[.bool false, .string (⟨#[]⟩ : ByteArray), .int .i64 0]) ?_ 0 _ rfl; (with_reducible repeat (first | refine blk_drewN ?_ _ | refine blk_drew ?_ | refine blk_alloc ?_ _)); exact BK136.out⟩, ⟨by repeat (first | (with_reducible first | exact HB.out | apply below_alloc | apply pw_below_drewN | apply below_drew1 | refine below_set ?_ GE125.out | refine below_set ?_ GE131.out | refine below_set ?_ GE136.out) | exact HB.out)⟩⟩
                  · rw [if_neg c50] at H
                    have c50b0 : (t124 == 111) = false := beq_eq_false_iff_ne.mpr c50
                    have c50b1 : (t124 != 111) = true := bne_iff_ne.mpr c50
                    have H' := Aside0.mk H
                    clear H
                    go_wp2
                    go_meet
                    case rel => exact ⟨_, (true), (by first | rfl | (simp; done) | (simp [*]; done)), H', ⟨by have := HJ7.out; first | omega | exact Nat.le_refl _⟩, ⟨by (with_reducible repeat (first | refine blk_drewN ?_ _ | refine blk_drew ?_ | refine blk_alloc ?_ _)); refine blk_far ?_ NB125_136.out _; (with_reducible repeat (first | refine blk_drewN ?_ _ | refine blk_drew ?_ | refine blk_alloc ?_ _)); refine blk_far ?_ NB125_136.out _; (with_reducible repeat (first | refine blk_drewN ?_ _ | refine blk_drew ?_ | refine blk_alloc ?_ _)); refine blk_far ?_ NB125_136.out _; (with_reducible repeat (first | refine blk_drewN ?_ _ | refine blk_drew ?_ | refine blk_alloc ?_ _)); exact BK125.out⟩, ⟨by (with_reducible repeat (first | refine blk_drewN ?_ _ | refine blk_drew ?_ | refine blk_alloc ?_ _)); refine blk_far ?_ NB131_136.out _; (with_reducible repeat (first | refine blk_drewN ?_ _ | refine blk_drew ?_ | refine blk_alloc ?_ _)); refine blk_far ?_ NB131_136.out _; (with_reducible repeat (first | refine blk_drewN ?_ _ | refine blk_drew ?_ | refine blk_alloc ?_ _)); refine blk_far ?_ NB131_136.out _; (with_reducible repeat (first | refine blk_drewN ?_ _ | refine blk_drew ?_ | refine blk_alloc ?_ _)); exact BK131.out⟩, ⟨by (with_reducible repeat (first | refine blk_drewN ?_ _ | refine blk_drew ?_ | refine blk_alloc ?_ _)); refine blk_put (cs := #[.bool t132, .string t133, .int .i64 0]) ?_ 2 _ rfl; (with_reducible repeat (first | refine blk_drewN ?_ _ | refine blk_drew ?_ | refine blk_alloc ?_ _)); refine blk_put (cs := #[.bool t132, .string (⟨#[]⟩ : ByteArray), .int .i64 0]) ?_ 1 _ rfl; (with_reducible repeat (first | refine blk_drewN ?_ _ | refine blk_drew ?_ | refine blk_alloc ?_ _)); refine blk_put (cs := #[.bool false, .string (⟨#[]⟩ : ByteArray), .int .i64 0]) ?_ 0 _ rfl; (with_reducible repeat (first | refine blk_drewN ?_ _ | refine blk_drew ?_ | refine blk_alloc ?_ _)); exact BK136.out⟩, ⟨by repeat (first | (with_reducible first | exact HB.out | apply below_alloc | apply pw_below_drewN | apply below_drew1 | refine below_set ?_ GE125.out | refine below_set ?_ GE131.out | refine below_set ?_ GE136.out) | exact HB.out)⟩⟩
              case rest =>
                clear HC42
                try clear c1
                try clear c2
                try clear p2
                try clear c3
                try clear c4
                try clear c5
                try clear c6
                try clear c6b0
                try clear c6b1
                try clear c6b2
                try clear p6
                try clear c15
                try clear c16
                try clear c17
                try clear c17b0
                try clear c18
                try clear c20
                try clear c21
                try clear c21b0
                try clear c21b1
                try clear c22
                try clear c25
                try clear c28
                try clear c30
                try clear c30b0
                try clear c30b1
                try clear c31
                try clear c31b0
                try clear c32
                try clear c32b0
                try clear c33
                try clear c33b0
                try clear c34
                try clear c34b0
                try clear c34b1
                try clear c34b2
                try clear c37
                try clear c38
                try clear c40
                try clear c45
                try clear c46
                try clear c48
                try clear c48b0
                try clear c48b1
                try clear c49
                try clear c49b0
                try clear c50
                try clear c50b0
                try clear c50b1
                try clear c51
                try clear c51b0
                try clear hcz12_0
                try clear hcz12_1
                try clear hcz12_2
                try clear hcz16_0
                try clear hcz16_1
                try clear hcz16_2
                try clear hcz19_0
                try clear hcz19_1
                try clear hcz19_2
                try clear hcz20_0
                try clear hcz20_1
                try clear hcz20_2
                try clear hcz23_0
                try clear hcz23_1
                try clear hcz23_2
                try clear hcz24_0
                try clear hcz24_1
                try clear hcz24_2
                try clear hcz26_0
                try clear hcz26_1
                try clear hcz26_2
                try clear hcz27_0
                try clear hcz27_1
                try clear hcz27_2
                try clear hcz39_0
                try clear hcz39_1
                try clear hcz39_2
                try clear hcz41_0
                try clear hcz41_1
                try clear hcz41_2
                try clear hcz47_0
                try clear hcz47_1
                try clear hcz47_2
                try clear hfz12_0
                try clear hfz12_1
                try clear hfz12_2
                try clear hfz16_0
                try clear hfz16_1
                try clear hfz16_2
                try clear hfz19_0
                try clear hfz19_1
                try clear hfz19_2
                try clear hfz20_0
                try clear hfz20_1
                try clear hfz20_2
                try clear hfz23_0
                try clear hfz23_1
                try clear hfz23_2
                try clear hfz24_0
                try clear hfz24_1
                try clear hfz24_2
                try clear hfz26_0
                try clear hfz26_1
                try clear hfz26_2
                try clear hfz27_0
                try clear hfz27_1
                try clear hfz27_2
                try clear hfz39_0
                try clear hfz39_1
                try clear hfz39_2
                try clear hfz41_0
                try clear hfz41_1
                try clear hfz41_2
                try clear hfz47_0
                try clear hfz47_1
                try clear hfz47_2
                try clear p2
                try clear p6
                obtain ⟨kq, x93_41, rfl, HA, HJ41, BK125, BK131, BK136, HB⟩ := hcut
                cases kq with
                | zero => exact absurd HA.out (by simp [quarrylaw11_DecimalSplits.j1])
                | succ kj41 =>
                  have H := HA.out
                  clear HA
                  simp only [quarrylaw11_DecimalSplits.j1] at H
                  by_cases c52 : x93_41 = true
                  · subst c52
                    have H1 : (none) = some r := by rw [if_pos rfl] at H; exact H
                    clear H
                    have H := H1
                    clear H1
                    exact absurd H (by simp)
                  · replace c52 := Bool.eq_false_iff.mpr c52
                    subst c52
                    have H1 : (if 0 ≤ t123 then (if t123 ≤ (a0.size : Int) then ((decimal_Of.f (a0.extract 0 (t123 : Int).toNat)).bind fun bt137 => (if (!(bt137.1 == t120) || (!(bt137.2.1.toList == t121.toList) || (!(bt137.2.2.1 == t122)))) = true then (quarrylaw11_DecimalSplits.j2 kj41 a0 t123 t124 t135 true t120 t121 t122 t132 t133 t134) else (if bt137.2.2.2 = t124 then (if t124 = 0 then ((decimal_Formed.f kj41 t120 t121 t122).bind fun t142 => (if t142 = true then (if t124 = 111 then (quarrylaw11_DecimalSplits.j2 kj41 a0 t123 t124 t135 (t120 || (!(t121.toList == ([] : List UInt8)) || (!(t122 == 0)))) t120 t121 t122 t132 t133 t134) else (quarrylaw11_DecimalSplits.j2 kj41 a0 t123 t124 t135 false t120 t121 t122 t132 t133 t134)) else (quarrylaw11_DecimalSplits.j2 kj41 a0 t123 t124 t135 true t120 t121 t122 t132 t133 t134))) else (if t124 = 111 then (quarrylaw11_DecimalSplits.j2 kj41 a0 t123 t124 t135 (t120 || (!(t121.toList == ([] : List UInt8)) || (!(t122 == 0)))) t120 t121 t122 t132 t133 t134) else (quarrylaw11_DecimalSplits.j2 kj41 a0 t123 t124 t135 false t120 t121 t122 t132 t133 t134))) else (quarrylaw11_DecimalSplits.j2 kj41 a0 t123 t124 t135 true t120 t121 t122 t132 t133 t134)))) else (none)) else (none)) = some r := by rw [if_neg (show ¬ (false = true) by decide)] at H; exact H
                    clear H
                    have H := H1
                    clear H1
                    by_cases c53 : 0 ≤ t123
                    · rw [if_pos c53] at H
                      have c53b0 := eq_true c53
                      have c53b1 : decide (0 ≤ t123) = true := decide_eq_true c53
                      clear c53
                      by_cases c54 : t123 ≤ (a0.size : Int)
                      · rw [if_pos c54] at H
                        have c54b0 := eq_true c54
                        have c54b1 : decide (t123 ≤ (a0.size : Int)) = true := decide_eq_true c54
                        clear c54
                        replace H := Option.bind_eq_some_iff.mp H
                        obtain ⟨⟨t137, t138, t139, t140⟩, A550, H⟩ := H
                        replace H : (if (!(t137 == t120) || (!(t138.toList == t121.toList) || (!(t139 == t122)))) = true then (quarrylaw11_DecimalSplits.j2 kj41 a0 t123 t124 t135 true t120 t121 t122 t132 t133 t134) else (if t140 = t124 then (if t124 = 0 then ((decimal_Formed.f kj41 t120 t121 t122).bind fun t142 => (if t142 = true then (if t124 = 111 then (quarrylaw11_DecimalSplits.j2 kj41 a0 t123 t124 t135 (t120 || (!(t121.toList == ([] : List UInt8)) || (!(t122 == 0)))) t120 t121 t122 t132 t133 t134) else (quarrylaw11_DecimalSplits.j2 kj41 a0 t123 t124 t135 false t120 t121 t122 t132 t133 t134)) else (quarrylaw11_DecimalSplits.j2 kj41 a0 t123 t124 t135 true t120 t121 t122 t132 t133 t134))) else (if t124 = 111 then (quarrylaw11_DecimalSplits.j2 kj41 a0 t123 t124 t135 (t120 || (!(t121.toList == ([] : List UInt8)) || (!(t122 == 0)))) t120 t121 t122 t132 t133 t134) else (quarrylaw11_DecimalSplits.j2 kj41 a0 t123 t124 t135 false t120 t121 t122 t132 t133 t134))) else (quarrylaw11_DecimalSplits.j2 kj41 a0 t123 t124 t135 true t120 t121 t122 t132 t133 t134))) = some r := H
                        have A55 := Aside0.mk A550
                        clear A550
                        have HC56 := Aside0.mk H
                        clear H
                        go_upto_region 13 with (first | ((with_reducible refine gate_callee (f := 18) rfl ?_); refine goesL_ (some 98) rfl rfl Tryd.func18 (by kernel_rfl) rfl #[.string (a0.extract 0 (t123 : Int).toNat)] rfl (by (try simp only [List.map_toArray, List.map_cons, List.map_nil]); first | done | rfl | (simp only [List.length_drop, List.length_take]; rfl)) ?_; (with_reducible refine (decimal_Of.calls (a0.extract 0 (t123 : Int).toNat) t137 t138 t139 t140 _ A55.out).mono ?_); rintro e w57 ⟨rfl, hb⟩; refine ⟨_, rfl, ?_⟩; have n0_ := Aside0.mk (blk_below (g := gb125) (o := .cells #[.bool t120, .string t121, .int .i64 t122] 23 (0, 0)) (by (with_reducible repeat (first | refine blk_drewN ?_ _ | refine blk_drew ?_ | refine blk_alloc ?_ _)); exact BK125.out) hb); have n1_ := Aside0.mk (blk_below (g := gb131) (o := .cells #[.bool t126, .string t127, .int .i64 t128] 23 (0, 0)) (by (with_reducible repeat (first | refine blk_drewN ?_ _ | refine blk_drew ?_ | refine blk_alloc ?_ _)); exact BK131.out) hb); have n2_ := Aside0.mk (blk_below (g := gb136) (o := .cells #[.bool t132, .string t133, .int .i64 t134] 23 (0, 0)) (by (with_reducible repeat (first | refine blk_drewN ?_ _ | refine blk_drew ?_ | refine blk_alloc ?_ _)); exact BK136.out) hb); have n3_ := Aside0.mk (below_step (by repeat (first | (with_reducible first | exact HB.out | apply below_alloc | apply pw_below_drewN | apply below_drew1 | refine below_set ?_ GE125.out | refine below_set ?_ GE131.out | refine below_set ?_ GE136.out) | exact HB.out)) hb); clear BK125; clear BK131; clear BK136; clear HB; have BK125 := n0_; have BK131 := n1_; have BK136 := n2_; have HB := n3_; clear n0_ n1_ n2_ n3_; (try clear hb); (try clear hb2); (try clear hk); (try clear hi)) | ((with_reducible refine gate_dst (N := 13) rfl ?_); (try (refine gate_guard (by rfl) ?_; dsimp only)); refine box_event ?hg (N := 13) ?hd (cs := #[.bool false, .string (⟨#[]⟩ : ByteArray), .int .i64 0]) (t := 23) ?hr ?_; (case hd => rfl); (case hg => rfl); (case hr => first | (go_simp; done) | (go_simp; rfl)); intro gb141 hg w58 hbox hb; have n0_ := Aside0.mk (blk_below (g := gb125) (o := .cells #[.bool t120, .string t121, .int .i64 t122] 23 (0, 0)) (by (with_reducible repeat (first | refine blk_drewN ?_ _ | refine blk_drew ?_ | refine blk_alloc ?_ _)); exact BK125.out) hb); have n1_ := Aside0.mk (blk_below (g := gb131) (o := .cells #[.bool t126, .string t127, .int .i64 t128] 23 (0, 0)) (by (with_reducible repeat (first | refine blk_drewN ?_ _ | refine blk_drew ?_ | refine blk_alloc ?_ _)); exact BK131.out) hb); have n2_ := Aside0.mk (blk_below (g := gb136) (o := .cells #[.bool t132, .string t133, .int .i64 t134] 23 (0, 0)) (by (with_reducible repeat (first | refine blk_drewN ?_ _ | refine blk_drew ?_ | refine blk_alloc ?_ _)); exact BK136.out) hb); have n3_ := Aside0.mk (below_step (by repeat (first | (with_reducible first | exact HB.out | apply below_alloc | apply pw_below_drewN | apply below_drew1 | refine below_set ?_ GE125.out | refine below_set ?_ GE131.out | refine below_set ?_ GE136.out) | exact HB.out)) hb); have n4_ := Aside0.mk (hbox); have n5_ := Aside0.mk ((by rw [hg]; exact (below_size (by repeat (first | (with_reducible first | exact HB.out | apply below_alloc | apply pw_below_drewN | apply below_drew1 | refine below_set ?_ GE125.out | refine below_set ?_ GE131.out | refine below_set ?_ GE136.out) | exact HB.out))) : w.heap.size ≤ gb141)); have n6_ := Aside0.mk ((by rw [hg]; exact (below_size (by repeat (first | (with_reducible first | exact HB.out | apply below_alloc | apply pw_below_drewN | apply below_drew1 | refine below_set ?_ GE125.out | refine below_set ?_ GE131.out | refine below_set ?_ GE136.out) | exact HB.out))) : w.heap.size ≤ gb141)); have n7_ := Aside0.mk ((by rw [hg]; exact Nat.ne_of_lt (blk_lt (g := gb125) (o := .cells #[.bool t120, .string t121, .int .i64 t122] 23 (0, 0)) (by (with_reducible repeat (first | refine blk_drewN ?_ _ | refine blk_drew ?_ | refine blk_alloc ?_ _)); exact BK125.out)) : gb125 ≠ gb141)); have n8_ := Aside0.mk ((by rw [hg]; exact Nat.ne_of_gt (blk_lt (g := gb125) (o := .cells #[.bool t120, .string t121, .int .i64 t122] 23 (0, 0)) (by (with_reducible repeat (first | refine blk_drewN ?_ _ | refine blk_drew ?_ | refine blk_alloc ?_ _)); exact BK125.out)) : gb141 ≠ gb125)); have n9_ := Aside0.mk ((by rw [hg]; exact Nat.ne_of_lt (blk_lt (g := gb131) (o := .cells #[.bool t126, .string t127, .int .i64 t128] 23 (0, 0)) (by (with_reducible repeat (first | refine blk_drewN ?_ _ | refine blk_drew ?_ | refine blk_alloc ?_ _)); exact BK131.out)) : gb131 ≠ gb141)); have n10_ := Aside0.mk ((by rw [hg]; exact Nat.ne_of_gt (blk_lt (g := gb131) (o := .cells #[.bool t126, .string t127, .int .i64 t128] 23 (0, 0)) (by (with_reducible repeat (first | refine blk_drewN ?_ _ | refine blk_drew ?_ | refine blk_alloc ?_ _)); exact BK131.out)) : gb141 ≠ gb131)); have n11_ := Aside0.mk ((by rw [hg]; exact Nat.ne_of_lt (blk_lt (g := gb136) (o := .cells #[.bool t132, .string t133, .int .i64 t134] 23 (0, 0)) (by (with_reducible repeat (first | refine blk_drewN ?_ _ | refine blk_drew ?_ | refine blk_alloc ?_ _)); exact BK136.out)) : gb136 ≠ gb141)); have n12_ := Aside0.mk ((by rw [hg]; exact Nat.ne_of_gt (blk_lt (g := gb136) (o := .cells #[.bool t132, .string t133, .int .i64 t134] 23 (0, 0)) (by (with_reducible repeat (first | refine blk_drewN ?_ _ | refine blk_drew ?_ | refine blk_alloc ?_ _)); exact BK136.out)) : gb141 ≠ gb136)); clear BK125; clear BK131; clear BK136; clear HB; have BK125 := n0_; have BK131 := n1_; have BK136 := n2_; have HB := n3_; have BK141 := n4_; have GW141 := n5_; have GE141 := n6_; have NB125_141 := n7_; have NB141_125 := n8_; have NB131_141 := n9_; have NB141_131 := n10_; have NB136_141 := n11_; have NB141_136 := n12_; clear n0_ n1_ n2_ n3_ n4_ n5_ n6_ n7_ n8_ n9_ n10_ n11_ n12_; clear hb hbox hg; have hnb59 := NB141_125.out; have hnc59 := NB125_141.out; have hnb60 := NB141_131.out; have hnc60 := NB131_141.out; have hnb61 := NB141_136.out; have hnc61 := NB136_141.out; have hcz62_0 : w58.cell? ⟨gb141, 0, none⟩ = some (.bool false) := (blk_cell BK141.out 0).trans rfl; have hcz62_1 : w58.cell? ⟨gb141, 1, none⟩ = some (.string (⟨#[]⟩ : ByteArray)) := (blk_cell BK141.out 1).trans rfl; have hcz62_2 : w58.cell? ⟨gb141, 2, none⟩ = some (.int .i64 0) := (blk_cell BK141.out 2).trans rfl; have hfz62_0 := blk_frozen BK141.out 0; have hfz62_1 := blk_frozen BK141.out 1; have hfz62_2 := blk_frozen BK141.out 2))
                        (try simp only [Act.put, List.setIfInBounds_toArray, List.set_cons_zero, List.set_cons_succ])
                        go_cut [126] (fun v126 wc => ∃ (kq : Nat) (x126_55 : Bool), v126 = .bool x126_55 ∧ Aside0 (quarrylaw11_DecimalSplits.j2 kq a0 t123 t124 t135 x126_55 t120 t121 t122 t132 t133 t134 = some r) ∧ Aside0 (kq ≤ kj41) ∧ Aside0 (wc.heap[gb125]? = some (.cells #[.bool t120, .string t121, .int .i64 t122] 23 (0, 0))) ∧ Aside0 (wc.heap[gb131]? = some (.cells #[.bool t126, .string t127, .int .i64 t128] 23 (0, 0))) ∧ Aside0 (wc.heap[gb136]? = some (.cells #[.bool t132, .string t133, .int .i64 t134] 23 (0, 0))) ∧ Aside0 (wc.heap[gb141]? = some (.cells #[.bool t137, .string t138, .int .i64 t139] 23 (0, 0))) ∧ Aside0 (Below w.heap.size w wc))
                        case first =>
                          have H := HC56.out
                          clear HC56
                          by_cases c63 : (!(t137 == t120) || (!(t138.toList == t121.toList) || (!(t139 == t122)))) = true
                          · rw [if_pos c63] at H
                            have c63b0 : (!(t137 == t120) || (!(t138.toList == t121.toList) || (!(t139 == t122)))) = true := c63
                            clear c63
                            (first | rw [c63b0] | (simp only [i64_w, i32_w]; rw [c63b0]) | skip)
                            have H' := Aside0.mk H
                            clear H
                            have hnb64 := NB141_125.out
                            have hnc64 := NB125_141.out
                            have hnb65 := NB141_131.out
                            have hnc65 := NB131_141.out
                            have hnb66 := NB141_136.out
                            have hnc66 := NB136_141.out
                            have hcz67_0 : w58.cell? ⟨gb141, 0, none⟩ = some (.bool false) := (blk_cell BK141.out 0).trans rfl
                            have hcz67_1 : w58.cell? ⟨gb141, 1, none⟩ = some (.string (⟨#[]⟩ : ByteArray)) := (blk_cell BK141.out 1).trans rfl
                            have hcz67_2 : w58.cell? ⟨gb141, 2, none⟩ = some (.int .i64 0) := (blk_cell BK141.out 2).trans rfl
                            have hfz67_0 := blk_frozen BK141.out 0
                            have hfz67_1 := blk_frozen BK141.out 1
                            have hfz67_2 := blk_frozen BK141.out 2
                            have hnb68 := NB125_131.out
                            have hnc68 := NB131_125.out
                            have hnb69 := NB125_136.out
                            have hnc69 := NB136_125.out
                            have hcz70_0 : w58.cell? ⟨gb125, 0, none⟩ = some (.bool t120) := (blk_cell BK125.out 0).trans rfl
                            have hcz70_1 : w58.cell? ⟨gb125, 1, none⟩ = some (.string t121) := (blk_cell BK125.out 1).trans rfl
                            have hcz70_2 : w58.cell? ⟨gb125, 2, none⟩ = some (.int .i64 t122) := (blk_cell BK125.out 2).trans rfl
                            have hfz70_0 := blk_frozen BK125.out 0
                            have hfz70_1 := blk_frozen BK125.out 1
                            have hfz70_2 := blk_frozen BK125.out 2
                            go_wp2
                            go_meet
                            case rel => exact ⟨_, (true), (by first | rfl | (simp; done) | (simp [*]; done)), H', ⟨by have := HJ7.out; have := HJ41.out; first | omega | exact Nat.le_refl _⟩, ⟨by (with_reducible repeat (first | refine blk_drewN ?_ _ | refine blk_drew ?_ | refine blk_alloc ?_ _)); refine blk_far ?_ NB125_141.out _; (with_reducible repeat (first | refine blk_drewN ?_ _ | refine blk_drew ?_ | refine blk_alloc ?_ _)); refine blk_far ?_ NB125_141.out _; (with_reducible repeat (first | refine blk_drewN ?_ _ | refine blk_drew ?_ | refine blk_alloc ?_ _)); refine blk_far ?_ NB125_141.out _; (with_reducible repeat (first | refine blk_drewN ?_ _ | refine blk_drew ?_ | refine blk_alloc ?_ _)); exact BK125.out⟩, ⟨by (with_reducible repeat (first | refine blk_drewN ?_ _ | refine blk_drew ?_ | refine blk_alloc ?_ _)); refine blk_far ?_ NB131_141.out _; (with_reducible repeat (first | refine blk_drewN ?_ _ | refine blk_drew ?_ | refine blk_alloc ?_ _)); refine blk_far ?_ NB131_141.out _; (with_reducible repeat (first | refine blk_drewN ?_ _ | refine blk_drew ?_ | refine blk_alloc ?_ _)); refine blk_far ?_ NB131_141.out _; (with_reducible repeat (first | refine blk_drewN ?_ _ | refine blk_drew ?_ | refine blk_alloc ?_ _)); exact BK131.out⟩, ⟨by (with_reducible repeat (first | refine blk_drewN ?_ _ | refine blk_drew ?_ | refine blk_alloc ?_ _)); refine blk_far ?_ NB136_141.out _; (with_reducible repeat (first | refine blk_drewN ?_ _ | refine blk_drew ?_ | refine blk_alloc ?_ _)); refine blk_far ?_ NB136_141.out _; (with_reducible repeat (first | refine blk_drewN ?_ _ | refine blk_drew ?_ | refine blk_alloc ?_ _)); refine blk_far ?_ NB136_141.out _; (with_reducible repeat (first | refine blk_drewN ?_ _ | refine blk_drew ?_ | refine blk_alloc ?_ _)); exact BK136.out⟩, ⟨by (with_reducible repeat (first | refine blk_drewN ?_ _ | refine blk_drew ?_ | refine blk_alloc ?_ _)); refine blk_put (cs := #[.bool t137, .string t138, .int .i64 0]) ?_ 2 _ rfl; (with_reducible repeat (first | refine blk_drewN ?_ _ | refine blk_drew ?_ | refine blk_alloc ?_ _)); refine blk_put (cs := #[.bool t137, .string (⟨#[]⟩ : ByteArray), .int .i64 0]) ?_ 1 _ rfl; (with_reducible repeat (first | refine blk_drewN ?_ _ | refine blk_drew ?_ | refine blk_alloc ?_ _)); refine blk_put (cs := #[.bool false, .string (⟨#[]⟩ : ByteArray), .int .i64 0]) ?_ 0 _ rfl; (with_reducible repeat (first | refine blk_drewN ?_ _ | refine blk_drew ?_ | refine blk_alloc ?_ _)); exact BK141.out⟩, ⟨by repeat (first | (with_reducible first | exact HB.out | apply below_alloc | apply pw_below_drewN | apply below_drew1 | refine below_set ?_ GE125.out | refine below_set ?_ GE131.out | refine below_set ?_ GE136.out | refine below_set ?_ GE141.out) | exact HB.out)⟩⟩
                          · rw [if_neg c63] at H
                            have c63b0 : (!(t137 == t120) || (!(t138.toList == t121.toList) || (!(t139 == t122)))) = false := by simpa using c63
                            clear c63
                            (first | rw [c63b0] | (simp only [i64_w, i32_w]; rw [c63b0]) | skip)
                            by_cases c71 : t140 = t124
                            · rw [if_pos c71] at H
                              have c71b0 : (t140 == t124) = true := beq_iff_eq.mpr c71
                              have c71b1 : (t140 != t124) = false := bne_eq_false_iff_eq.mpr c71
                              clear c71
                              by_cases c72 : t124 = 0
                              · rw [if_pos c72] at H
                                have c72b0 : (t124 == 0) = true := beq_iff_eq.mpr c72
                                have c72b1 : (t124 != 0) = false := bne_eq_false_iff_eq.mpr c72
                                clear c72
                                replace H := Option.bind_eq_some_iff.mp H
                                obtain ⟨t142, A730, H⟩ := H
                                replace H : (if t142 = true then (if t124 = 111 then (quarrylaw11_DecimalSplits.j2 kj41 a0 t123 t124 t135 (t120 || (!(t121.toList == ([] : List UInt8)) || (!(t122 == 0)))) t120 t121 t122 t132 t133 t134) else (quarrylaw11_DecimalSplits.j2 kj41 a0 t123 t124 t135 false t120 t121 t122 t132 t133 t134)) else (quarrylaw11_DecimalSplits.j2 kj41 a0 t123 t124 t135 true t120 t121 t122 t132 t133 t134)) = some r := H
                                have A73 := Aside0.mk A730
                                clear A730
                                by_cases c74 : t142 = true
                                · subst c74
                                  have H1 : (if t124 = 111 then (quarrylaw11_DecimalSplits.j2 kj41 a0 t123 t124 t135 (t120 || (!(t121.toList == ([] : List UInt8)) || (!(t122 == 0)))) t120 t121 t122 t132 t133 t134) else (quarrylaw11_DecimalSplits.j2 kj41 a0 t123 t124 t135 false t120 t121 t122 t132 t133 t134)) = some r := by rw [if_pos rfl] at H; exact H
                                  clear H
                                  have H := H1
                                  clear H1
                                  by_cases c75 : t124 = 111
                                  · rw [if_pos c75] at H
                                    have c75b0 : (t124 == 111) = true := beq_iff_eq.mpr c75
                                    have c75b1 : (t124 != 111) = false := bne_eq_false_iff_eq.mpr c75
                                    clear c75
                                    have H' := Aside0.mk H
                                    clear H
                                    have hnb76 := NB141_125.out
                                    have hnc76 := NB125_141.out
                                    have hnb77 := NB141_131.out
                                    have hnc77 := NB131_141.out
                                    have hnb78 := NB141_136.out
                                    have hnc78 := NB136_141.out
                                    have hcz79_0 : w58.cell? ⟨gb141, 0, none⟩ = some (.bool false) := (blk_cell BK141.out 0).trans rfl
                                    have hcz79_1 : w58.cell? ⟨gb141, 1, none⟩ = some (.string (⟨#[]⟩ : ByteArray)) := (blk_cell BK141.out 1).trans rfl
                                    have hcz79_2 : w58.cell? ⟨gb141, 2, none⟩ = some (.int .i64 0) := (blk_cell BK141.out 2).trans rfl
                                    have hfz79_0 := blk_frozen BK141.out 0
                                    have hfz79_1 := blk_frozen BK141.out 1
                                    have hfz79_2 := blk_frozen BK141.out 2
                                    have hnb80 := NB125_131.out
                                    have hnc80 := NB131_125.out
                                    have hnb81 := NB125_136.out
                                    have hnc81 := NB136_125.out
                                    have hcz82_0 : w58.cell? ⟨gb125, 0, none⟩ = some (.bool t120) := (blk_cell BK125.out 0).trans rfl
                                    have hcz82_1 : w58.cell? ⟨gb125, 1, none⟩ = some (.string t121) := (blk_cell BK125.out 1).trans rfl
                                    have hcz82_2 : w58.cell? ⟨gb125, 2, none⟩ = some (.int .i64 t122) := (blk_cell BK125.out 2).trans rfl
                                    have hfz82_0 := blk_frozen BK125.out 0
                                    have hfz82_1 := blk_frozen BK125.out 1
                                    have hfz82_2 := blk_frozen BK125.out 2
                                    go_wp2_with (first | (go_at_call 11; (with_reducible refine (decimal_Formed.calls kj41 t120 t121 t122 true _ A73.out).mono ?_); rintro e w83 ⟨rfl, hb⟩; have n0_ := Aside0.mk (blk_below (g := gb125) (o := .cells #[.bool t120, .string t121, .int .i64 t122] 23 (0, 0)) (by (with_reducible repeat (first | refine blk_drewN ?_ _ | refine blk_drew ?_ | refine blk_alloc ?_ _)); refine blk_far ?_ NB125_141.out _; (with_reducible repeat (first | refine blk_drewN ?_ _ | refine blk_drew ?_ | refine blk_alloc ?_ _)); refine blk_far ?_ NB125_141.out _; (with_reducible repeat (first | refine blk_drewN ?_ _ | refine blk_drew ?_ | refine blk_alloc ?_ _)); refine blk_far ?_ NB125_141.out _; (with_reducible repeat (first | refine blk_drewN ?_ _ | refine blk_drew ?_ | refine blk_alloc ?_ _)); exact BK125.out) hb); have n1_ := Aside0.mk (blk_below (g := gb131) (o := .cells #[.bool t126, .string t127, .int .i64 t128] 23 (0, 0)) (by (with_reducible repeat (first | refine blk_drewN ?_ _ | refine blk_drew ?_ | refine blk_alloc ?_ _)); refine blk_far ?_ NB131_141.out _; (with_reducible repeat (first | refine blk_drewN ?_ _ | refine blk_drew ?_ | refine blk_alloc ?_ _)); refine blk_far ?_ NB131_141.out _; (with_reducible repeat (first | refine blk_drewN ?_ _ | refine blk_drew ?_ | refine blk_alloc ?_ _)); refine blk_far ?_ NB131_141.out _; (with_reducible repeat (first | refine blk_drewN ?_ _ | refine blk_drew ?_ | refine blk_alloc ?_ _)); exact BK131.out) hb); have n2_ := Aside0.mk (blk_below (g := gb136) (o := .cells #[.bool t132, .string t133, .int .i64 t134] 23 (0, 0)) (by (with_reducible repeat (first | refine blk_drewN ?_ _ | refine blk_drew ?_ | refine blk_alloc ?_ _)); refine blk_far ?_ NB136_141.out _; (with_reducible repeat (first | refine blk_drewN ?_ _ | refine blk_drew ?_ | refine blk_alloc ?_ _)); refine blk_far ?_ NB136_141.out _; (with_reducible repeat (first | refine blk_drewN ?_ _ | refine blk_drew ?_ | refine blk_alloc ?_ _)); refine blk_far ?_ NB136_141.out _; (with_reducible repeat (first | refine blk_drewN ?_ _ | refine blk_drew ?_ | refine blk_alloc ?_ _)); exact BK136.out) hb); have n3_ := Aside0.mk (blk_below (g := gb141) (o := .cells #[.bool t137, .string t138, .int .i64 t139] 23 (0, 0)) (by (with_reducible repeat (first | refine blk_drewN ?_ _ | refine blk_drew ?_ | refine blk_alloc ?_ _)); refine blk_put (cs := #[.bool t137, .string t138, .int .i64 0]) ?_ 2 _ rfl; (with_reducible repeat (first | refine blk_drewN ?_ _ | refine blk_drew ?_ | refine blk_alloc ?_ _)); refine blk_put (cs := #[.bool t137, .string (⟨#[]⟩ : ByteArray), .int .i64 0]) ?_ 1 _ rfl; (with_reducible repeat (first | refine blk_drewN ?_ _ | refine blk_drew ?_ | refine blk_alloc ?_ _)); refine blk_put (cs := #[.bool false, .string (⟨#[]⟩ : ByteArray), .int .i64 0]) ?_ 0 _ rfl; (with_reducible repeat (first | refine blk_drewN ?_ _ | refine blk_drew ?_ | refine blk_alloc ?_ _)); exact BK141.out) hb); have n4_ := Aside0.mk (below_step (by repeat (first | (with_reducible first | exact HB.out | apply below_alloc | apply pw_below_drewN | apply below_drew1 | refine below_set ?_ GE125.out | refine below_set ?_ GE131.out | refine below_set ?_ GE136.out | refine below_set ?_ GE141.out) | exact HB.out)) hb); clear BK125; clear BK131; clear BK136; clear BK141; clear HB; have BK125 := n0_; have BK131 := n1_; have BK136 := n2_; have BK141 := n3_; have HB := n4_; clear n0_ n1_ n2_ n3_ n4_; (try clear hb); (try clear hb2); (try clear hk); (try clear hi); have hcz84_0 : w83.cell? ⟨gb125, 0, none⟩ = some (.bool t120) := (blk_cell BK125.out 0).trans rfl; have hcz84_1 : w83.cell? ⟨gb125, 1, none⟩ = some (.string t121) := (blk_cell BK125.out 1).trans rfl; have hcz84_2 : w83.cell? ⟨gb125, 2, none⟩ = some (.int .i64 t122) := (blk_cell BK125.out 2).trans rfl; have hfz84_0 := blk_frozen BK125.out 0; have hfz84_1 := blk_frozen BK125.out 1; have hfz84_2 := blk_frozen BK125.out 2))
                                    go_meet
                                    case rel => exact ⟨_, ((t120 || (!(t121.toList == ([] : List UInt8)) || (!(t122 == 0))))), (by first | rfl | (simp; done) | (simp [*]; done)), H', ⟨by have := HJ7.out; have := HJ41.out; first | omega | exact Nat.le_refl _⟩, ⟨by (with_reducible repeat (first | refine blk_drewN ?_ _ | refine blk_drew ?_ | refine blk_alloc ?_ _)); exact BK125.out⟩, ⟨by (with_reducible repeat (first | refine blk_drewN ?_ _ | refine blk_drew ?_ | refine blk_alloc ?_ _)); exact BK131.out⟩, ⟨by (with_reducible repeat (first | refine blk_drewN ?_ _ | refine blk_drew ?_ | refine blk_alloc ?_ _)); exact BK136.out⟩, ⟨by (with_reducible repeat (first | refine blk_drewN ?_ _ | refine blk_drew ?_ | refine blk_alloc ?_ _)); exact BK141.out⟩, ⟨by repeat (first | (with_reducible first | exact HB.out | apply below_alloc | apply pw_below_drewN | apply below_drew1 | refine below_set ?_ GE125.out | refine below_set ?_ GE131.out | refine below_set ?_ GE136.out | refine below_set ?_ GE141.out) | exact HB.out)⟩⟩
                                  · rw [if_neg c75] at H
                                    have c75b0 : (t124 == 111) = false := beq_eq_false_iff_ne.mpr c75
                                    have c75b1 : (t124 != 111) = true := bne_iff_ne.mpr c75
                                    have H' := Aside0.mk H
                                    clear H
                                    have hnb85 := NB141_125.out
                                    have hnc85 := NB125_141.out
                                    have hnb86 := NB141_131.out
                                    have hnc86 := NB131_141.out
                                    have hnb87 := NB141_136.out
                                    have hnc87 := NB136_141.out
                                    have hcz88_0 : w58.cell? ⟨gb141, 0, none⟩ = some (.bool false) := (blk_cell BK141.out 0).trans rfl
                                    have hcz88_1 : w58.cell? ⟨gb141, 1, none⟩ = some (.string (⟨#[]⟩ : ByteArray)) := (blk_cell BK141.out 1).trans rfl
                                    have hcz88_2 : w58.cell? ⟨gb141, 2, none⟩ = some (.int .i64 0) := (blk_cell BK141.out 2).trans rfl
                                    have hfz88_0 := blk_frozen BK141.out 0
                                    have hfz88_1 := blk_frozen BK141.out 1
                                    have hfz88_2 := blk_frozen BK141.out 2
                                    have hnb89 := NB125_131.out
                                    have hnc89 := NB131_125.out
                                    have hnb90 := NB125_136.out
                                    have hnc90 := NB136_125.out
                                    have hcz91_0 : w58.cell? ⟨gb125, 0, none⟩ = some (.bool t120) := (blk_cell BK125.out 0).trans rfl
                                    have hcz91_1 : w58.cell? ⟨gb125, 1, none⟩ = some (.string t121) := (blk_cell BK125.out 1).trans rfl
                                    have hcz91_2 : w58.cell? ⟨gb125, 2, none⟩ = some (.int .i64 t122) := (blk_cell BK125.out 2).trans rfl
                                    have hfz91_0 := blk_frozen BK125.out 0
                                    have hfz91_1 := blk_frozen BK125.out 1
                                    have hfz91_2 := blk_frozen BK125.out 2
                                    go_wp2_with (first | (go_at_call 11; (with_reducible refine (decimal_Formed.calls kj41 t120 t121 t122 true _ A73.out).mono ?_); rintro e w92 ⟨rfl, hb⟩; have n0_ := Aside0.mk (blk_below (g := gb125) (o := .cells #[.bool t120, .string t121, .int .i64 t122] 23 (0, 0)) (by (with_reducible repeat (first | refine blk_drewN ?_ _ | refine blk_drew ?_ | refine blk_alloc ?_ _)); refine blk_far ?_ NB125_141.out _; (with_reducible repeat (first | refine blk_drewN ?_ _ | refine blk_drew ?_ | refine blk_alloc ?_ _)); refine blk_far ?_ NB125_141.out _; (with_reducible repeat (first | refine blk_drewN ?_ _ | refine blk_drew ?_ | refine blk_alloc ?_ _)); refine blk_far ?_ NB125_141.out _; (with_reducible repeat (first | refine blk_drewN ?_ _ | refine blk_drew ?_ | refine blk_alloc ?_ _)); exact BK125.out) hb); have n1_ := Aside0.mk (blk_below (g := gb131) (o := .cells #[.bool t126, .string t127, .int .i64 t128] 23 (0, 0)) (by (with_reducible repeat (first | refine blk_drewN ?_ _ | refine blk_drew ?_ | refine blk_alloc ?_ _)); refine blk_far ?_ NB131_141.out _; (with_reducible repeat (first | refine blk_drewN ?_ _ | refine blk_drew ?_ | refine blk_alloc ?_ _)); refine blk_far ?_ NB131_141.out _; (with_reducible repeat (first | refine blk_drewN ?_ _ | refine blk_drew ?_ | refine blk_alloc ?_ _)); refine blk_far ?_ NB131_141.out _; (with_reducible repeat (first | refine blk_drewN ?_ _ | refine blk_drew ?_ | refine blk_alloc ?_ _)); exact BK131.out) hb); have n2_ := Aside0.mk (blk_below (g := gb136) (o := .cells #[.bool t132, .string t133, .int .i64 t134] 23 (0, 0)) (by (with_reducible repeat (first | refine blk_drewN ?_ _ | refine blk_drew ?_ | refine blk_alloc ?_ _)); refine blk_far ?_ NB136_141.out _; (with_reducible repeat (first | refine blk_drewN ?_ _ | refine blk_drew ?_ | refine blk_alloc ?_ _)); refine blk_far ?_ NB136_141.out _; (with_reducible repeat (first | refine blk_drewN ?_ _ | refine blk_drew ?_ | refine blk_alloc ?_ _)); refine blk_far ?_ NB136_141.out _; (with_reducible repeat (first | refine blk_drewN ?_ _ | refine blk_drew ?_ | refine blk_alloc ?_ _)); exact BK136.out) hb); have n3_ := Aside0.mk (blk_below (g := gb141) (o := .cells #[.bool t137, .string t138, .int .i64 t139] 23 (0, 0)) (by (with_reducible repeat (first | refine blk_drewN ?_ _ | refine blk_drew ?_ | refine blk_alloc ?_ _)); refine blk_put (cs := #[.bool t137, .string t138, .int .i64 0]) ?_ 2 _ rfl; (with_reducible repeat (first | refine blk_drewN ?_ _ | refine blk_drew ?_ | refine blk_alloc ?_ _)); refine blk_put (cs := #[.bool t137, .string (⟨#[]⟩ : ByteArray), .int .i64 0]) ?_ 1 _ rfl; (with_reducible repeat (first | refine blk_drewN ?_ _ | refine blk_drew ?_ | refine blk_alloc ?_ _)); refine blk_put (cs := #[.bool false, .string (⟨#[]⟩ : ByteArray), .int .i64 0]) ?_ 0 _ rfl; (with_reducible repeat (first | refine blk_drewN ?_ _ | refine blk_drew ?_ | refine blk_alloc ?_ _)); exact BK141.out) hb); have n4_ := Aside0.mk (below_step (by repeat (first | (with_reducible first | exact HB.out | apply below_alloc | apply pw_below_drewN | apply below_drew1 | refine below_set ?_ GE125.out | refine below_set ?_ GE131.out | refine below_set ?_ GE136.out | refine below_set ?_ GE141.out) | exact HB.out)) hb); clear BK125; clear BK131; clear BK136; clear BK141; clear HB; have BK125 := n0_; have BK131 := n1_; have BK136 := n2_; have BK141 := n3_; have HB := n4_; clear n0_ n1_ n2_ n3_ n4_; (try clear hb); (try clear hb2); (try clear hk); (try clear hi)))
                                    go_meet
                                    case rel => exact ⟨_, (false), (by first | rfl | (simp; done) | (simp [*]; done)), H', ⟨by have := HJ7.out; have := HJ41.out; first | omega | exact Nat.le_refl _⟩, ⟨by (with_reducible repeat (first | refine blk_drewN ?_ _ | refine blk_drew ?_ | refine blk_alloc ?_ _)); exact BK125.out⟩, ⟨by (with_reducible repeat (first | refine blk_drewN ?_ _ | refine blk_drew ?_ | refine blk_alloc ?_ _)); exact BK131.out⟩, ⟨by (with_reducible repeat (first | refine blk_drewN ?_ _ | refine blk_drew ?_ | refine blk_alloc ?_ _)); exact BK136.out⟩, ⟨by (with_reducible repeat (first | refine blk_drewN ?_ _ | refine blk_drew ?_ | refine blk_alloc ?_ _)); exact BK141.out⟩, ⟨by repeat (first | (with_reducible first | exact HB.out | apply below_alloc | apply pw_below_drewN | apply below_drew1 | refine below_set ?_ GE125.out | refine below_set ?_ GE131.out | refine below_set ?_ GE136.out | refine below_set ?_ GE141.out) | exact HB.out)⟩⟩
                                · replace c74 := Bool.eq_false_iff.mpr c74
                                  subst c74
                                  have H1 : (quarrylaw11_DecimalSplits.j2 kj41 a0 t123 t124 t135 true t120 t121 t122 t132 t133 t134) = some r := by rw [if_neg (show ¬ (false = true) by decide)] at H; exact H
                                  clear H
                                  have H := H1
                                  clear H1
                                  have H' := Aside0.mk H
                                  clear H
                                  have hnb93 := NB141_125.out
                                  have hnc93 := NB125_141.out
                                  have hnb94 := NB141_131.out
                                  have hnc94 := NB131_141.out
                                  have hnb95 := NB141_136.out
                                  have hnc95 := NB136_141.out
                                  have hcz96_0 : w58.cell? ⟨gb141, 0, none⟩ = some (.bool false) := (blk_cell BK141.out 0).trans rfl
                                  have hcz96_1 : w58.cell? ⟨gb141, 1, none⟩ = some (.string (⟨#[]⟩ : ByteArray)) := (blk_cell BK141.out 1).trans rfl
                                  have hcz96_2 : w58.cell? ⟨gb141, 2, none⟩ = some (.int .i64 0) := (blk_cell BK141.out 2).trans rfl
                                  have hfz96_0 := blk_frozen BK141.out 0
                                  have hfz96_1 := blk_frozen BK141.out 1
                                  have hfz96_2 := blk_frozen BK141.out 2
                                  have hnb97 := NB125_131.out
                                  have hnc97 := NB131_125.out
                                  have hnb98 := NB125_136.out
                                  have hnc98 := NB136_125.out
                                  have hcz99_0 : w58.cell? ⟨gb125, 0, none⟩ = some (.bool t120) := (blk_cell BK125.out 0).trans rfl
                                  have hcz99_1 : w58.cell? ⟨gb125, 1, none⟩ = some (.string t121) := (blk_cell BK125.out 1).trans rfl
                                  have hcz99_2 : w58.cell? ⟨gb125, 2, none⟩ = some (.int .i64 t122) := (blk_cell BK125.out 2).trans rfl
                                  have hfz99_0 := blk_frozen BK125.out 0
                                  have hfz99_1 := blk_frozen BK125.out 1
                                  have hfz99_2 := blk_frozen BK125.out 2
                                  go_wp2_with (first | (go_at_call 11; (with_reducible refine (decimal_Formed.calls kj41 t120 t121 t122 false _ A73.out).mono ?_); rintro e w100 ⟨rfl, hb⟩; have n0_ := Aside0.mk (blk_below (g := gb125) (o := .cells #[.bool t120, .string t121, .int .i64 t122] 23 (0, 0)) (by (with_reducible repeat (first | refine blk_drewN ?_ _ | refine blk_drew ?_ | refine blk_alloc ?_ _)); refine blk_far ?_ NB125_141.out _; (with_reducible repeat (first | refine blk_drewN ?_ _ | refine blk_drew ?_ | refine blk_alloc ?_ _)); refine blk_far ?_ NB125_141.out _; (with_reducible repeat (first | refine blk_drewN ?_ _ | refine blk_drew ?_ | refine blk_alloc ?_ _)); refine blk_far ?_ NB125_141.out _; (with_reducible repeat (first | refine blk_drewN ?_ _ | refine blk_drew ?_ | refine blk_alloc ?_ _)); exact BK125.out) hb); have n1_ := Aside0.mk (blk_below (g := gb131) (o := .cells #[.bool t126, .string t127, .int .i64 t128] 23 (0, 0)) (by (with_reducible repeat (first | refine blk_drewN ?_ _ | refine blk_drew ?_ | refine blk_alloc ?_ _)); refine blk_far ?_ NB131_141.out _; (with_reducible repeat (first | refine blk_drewN ?_ _ | refine blk_drew ?_ | refine blk_alloc ?_ _)); refine blk_far ?_ NB131_141.out _; (with_reducible repeat (first | refine blk_drewN ?_ _ | refine blk_drew ?_ | refine blk_alloc ?_ _)); refine blk_far ?_ NB131_141.out _; (with_reducible repeat (first | refine blk_drewN ?_ _ | refine blk_drew ?_ | refine blk_alloc ?_ _)); exact BK131.out) hb); have n2_ := Aside0.mk (blk_below (g := gb136) (o := .cells #[.bool t132, .string t133, .int .i64 t134] 23 (0, 0)) (by (with_reducible repeat (first | refine blk_drewN ?_ _ | refine blk_drew ?_ | refine blk_alloc ?_ _)); refine blk_far ?_ NB136_141.out _; (with_reducible repeat (first | refine blk_drewN ?_ _ | refine blk_drew ?_ | refine blk_alloc ?_ _)); refine blk_far ?_ NB136_141.out _; (with_reducible repeat (first | refine blk_drewN ?_ _ | refine blk_drew ?_ | refine blk_alloc ?_ _)); refine blk_far ?_ NB136_141.out _; (with_reducible repeat (first | refine blk_drewN ?_ _ | refine blk_drew ?_ | refine blk_alloc ?_ _)); exact BK136.out) hb); have n3_ := Aside0.mk (blk_below (g := gb141) (o := .cells #[.bool t137, .string t138, .int .i64 t139] 23 (0, 0)) (by (with_reducible repeat (first | refine blk_drewN ?_ _ | refine blk_drew ?_ | refine blk_alloc ?_ _)); refine blk_put (cs := #[.bool t137, .string t138, .int .i64 0]) ?_ 2 _ rfl; (with_reducible repeat (first | refine blk_drewN ?_ _ | refine blk_drew ?_ | refine blk_alloc ?_ _)); refine blk_put (cs := #[.bool t137, .string (⟨#[]⟩ : ByteArray), .int .i64 0]) ?_ 1 _ rfl; (with_reducible repeat (first | refine blk_drewN ?_ _ | refine blk_drew ?_ | refine blk_alloc ?_ _)); refine blk_put (cs := #[.bool false, .string (⟨#[]⟩ : ByteArray), .int .i64 0]) ?_ 0 _ rfl; (with_reducible repeat (first | refine blk_drewN ?_ _ | refine blk_drew ?_ | refine blk_alloc ?_ _)); exact BK141.out) hb); have n4_ := Aside0.mk (below_step (by repeat (first | (with_reducible first | exact HB.out | apply below_alloc | apply pw_below_drewN | apply below_drew1 | refine below_set ?_ GE125.out | refine below_set ?_ GE131.out | refine below_set ?_ GE136.out | refine below_set ?_ GE141.out) | exact HB.out)) hb); clear BK125; clear BK131; clear BK136; clear BK141; clear HB; have BK125 := n0_; have BK131 := n1_; have BK136 := n2_; have BK141 := n3_; have HB := n4_; clear n0_ n1_ n2_ n3_ n4_; (try clear hb); (try clear hb2); (try clear hk); (try clear hi)))
                                  go_meet
                                  case rel => exact ⟨_, (true), (by first | rfl | (simp; done) | (simp [*]; done)), H', ⟨by have := HJ7.out; have := HJ41.out; first | omega | exact Nat.le_refl _⟩, ⟨by (with_reducible repeat (first | refine blk_drewN ?_ _ | refine blk_drew ?_ | refine blk_alloc ?_ _)); exact BK125.out⟩, ⟨by (with_reducible repeat (first | refine blk_drewN ?_ _ | refine blk_drew ?_ | refine blk_alloc ?_ _)); exact BK131.out⟩, ⟨by (with_reducible repeat (first | refine blk_drewN ?_ _ | refine blk_drew ?_ | refine blk_alloc ?_ _)); exact BK136.out⟩, ⟨by (with_reducible repeat (first | refine blk_drewN ?_ _ | refine blk_drew ?_ | refine blk_alloc ?_ _)); exact BK141.out⟩, ⟨by repeat (first | (with_reducible first | exact HB.out | apply below_alloc | apply pw_below_drewN | apply below_drew1 | refine below_set ?_ GE125.out | refine below_set ?_ GE131.out | refine below_set ?_ GE136.out | refine below_set ?_ GE141.out) | exact HB.out)⟩⟩
                              · rw [if_neg c72] at H
                                have c72b0 : (t124 == 0) = false := beq_eq_false_iff_ne.mpr c72
                                have c72b1 : (t124 != 0) = true := bne_iff_ne.mpr c72
                                by_cases c101 : t124 = 111
                                · rw [if_pos c101] at H
                                  have c101b0 : (t124 == 111) = true := beq_iff_eq.mpr c101
                                  have c101b1 : (t124 != 111) = false := bne_eq_false_iff_eq.mpr c101
                                  clear c101
                                  have H' := Aside0.mk H
                                  clear H
                                  have hnb102 := NB141_125.out
                                  have hnc102 := NB125_141.out
                                  have hnb103 := NB141_131.out
                                  have hnc103 := NB131_141.out
                                  have hnb104 := NB141_136.out
                                  have hnc104 := NB136_141.out
                                  have hcz105_0 : w58.cell? ⟨gb141, 0, none⟩ = some (.bool false) := (blk_cell BK141.out 0).trans rfl
                                  have hcz105_1 : w58.cell? ⟨gb141, 1, none⟩ = some (.string (⟨#[]⟩ : ByteArray)) := (blk_cell BK141.out 1).trans rfl
                                  have hcz105_2 : w58.cell? ⟨gb141, 2, none⟩ = some (.int .i64 0) := (blk_cell BK141.out 2).trans rfl
                                  have hfz105_0 := blk_frozen BK141.out 0
                                  have hfz105_1 := blk_frozen BK141.out 1
                                  have hfz105_2 := blk_frozen BK141.out 2
                                  have hnb106 := NB125_131.out
                                  have hnc106 := NB131_125.out
                                  have hnb107 := NB125_136.out
                                  have hnc107 := NB136_125.out
                                  have hcz108_0 : w58.cell? ⟨gb125, 0, none⟩ = some (.bool t120) := (blk_cell BK125.out 0).trans rfl
                                  have hcz108_1 : w58.cell? ⟨gb125, 1, none⟩ = some (.string t121) := (blk_cell BK125.out 1).trans rfl
                                  have hcz108_2 : w58.cell? ⟨gb125, 2, none⟩ = some (.int .i64 t122) := (blk_cell BK125.out 2).trans rfl
                                  have hfz108_0 := blk_frozen BK125.out 0
                                  have hfz108_1 := blk_frozen BK125.out 1
                                  have hfz108_2 := blk_frozen BK125.out 2
                                  go_wp2
                                  go_meet
                                  case rel => exact ⟨_, ((t120 || (!(t121.toList == ([] : List UInt8)) || (!(t122 == 0))))), (by first | rfl | (simp; done) | (simp [*]; done)), H', ⟨by have := HJ7.out; have := HJ41.out; first | omega | exact Nat.le_refl _⟩, ⟨by (with_reducible repeat (first | refine blk_drewN ?_ _ | refine blk_drew ?_ | refine blk_alloc ?_ _)); refine blk_far ?_ NB125_141.out _; (with_reducible repeat (first | refine blk_drewN ?_ _ | refine blk_drew ?_ | refine blk_alloc ?_ _)); refine blk_far ?_ NB125_141.out _; (with_reducible repeat (first | refine blk_drewN ?_ _ | refine blk_drew ?_ | refine blk_alloc ?_ _)); refine blk_far ?_ NB125_141.out _; (with_reducible repeat (first | refine blk_drewN ?_ _ | refine blk_drew ?_ | refine blk_alloc ?_ _)); exact BK125.out⟩, ⟨by (with_reducible repeat (first | refine blk_drewN ?_ _ | refine blk_drew ?_ | refine blk_alloc ?_ _)); refine blk_far ?_ NB131_141.out _; (with_reducible repeat (first | refine blk_drewN ?_ _ | refine blk_drew ?_ | refine blk_alloc ?_ _)); refine blk_far ?_ NB131_141.out _; (with_reducible repeat (first | refine blk_drewN ?_ _ | refine blk_drew ?_ | refine blk_alloc ?_ _)); refine blk_far ?_ NB131_141.out _; (with_reducible repeat (first | refine blk_drewN ?_ _ | refine blk_drew ?_ | refine blk_alloc ?_ _)); exact BK131.out⟩, ⟨by (with_reducible repeat (first | refine blk_drewN ?_ _ | refine blk_drew ?_ | refine blk_alloc ?_ _)); refine blk_far ?_ NB136_141.out _; (with_reducible repeat (first | refine blk_drewN ?_ _ | refine blk_drew ?_ | refine blk_alloc ?_ _)); refine blk_far ?_ NB136_141.out _; (with_reducible repeat (first | refine blk_drewN ?_ _ | refine blk_drew ?_ | refine blk_alloc ?_ _)); refine blk_far ?_ NB136_141.out _; (with_reducible repeat (first | refine blk_drewN ?_ _ | refine blk_drew ?_ | refine blk_alloc ?_ _)); exact BK136.out⟩, ⟨by (with_reducible repeat (first | refine blk_drewN ?_ _ | refine blk_drew ?_ | refine blk_alloc ?_ _)); refine blk_put (cs := #[.bool t137, .string t138, .int .i64 0]) ?_ 2 _ rfl; (with_reducible repeat (first | refine blk_drewN ?_ _ | refine blk_drew ?_ | refine blk_alloc ?_ _)); refine blk_put (cs := #[.bool t137, .string (⟨#[]⟩ : ByteArray), .int .i64 0]) ?_ 1 _ rfl; (with_reducible repeat (first | refine blk_drewN ?_ _ | refine blk_drew ?_ | refine blk_alloc ?_ _)); refine blk_put (cs := #[.bool false, .string (⟨#[]⟩ : ByteArray), .int .i64 0]) ?_ 0 _ rfl; (with_reducible repeat (first | refine blk_drewN ?_ _ | refine blk_drew ?_ | refine blk_alloc ?_ _)); exact BK141.out⟩, ⟨by repeat (first | (with_reducible first | exact HB.out | apply below_alloc | apply pw_below_drewN | apply below_drew1 | refine below_set ?_ GE125.out | refine below_set ?_ GE131.out | refine below_set ?_ GE136.out | refine below_set ?_ GE141.out) | exact HB.out)⟩⟩
                                · rw [if_neg c101] at H
                                  have c101b0 : (t124 == 111) = false := beq_eq_false_iff_ne.mpr c101
                                  have c101b1 : (t124 != 111) = true := bne_iff_ne.mpr c101
                                  have H' := Aside0.mk H
                                  clear H
                                  have hnb109 := NB141_125.out
                                  have hnc109 := NB125_141.out
                                  have hnb110 := NB141_131.out
                                  have hnc110 := NB131_141.out
                                  have hnb111 := NB141_136.out
                                  have hnc111 := NB136_141.out
                                  have hcz112_0 : w58.cell? ⟨gb141, 0, none⟩ = some (.bool false) := (blk_cell BK141.out 0).trans rfl
                                  have hcz112_1 : w58.cell? ⟨gb141, 1, none⟩ = some (.string (⟨#[]⟩ : ByteArray)) := (blk_cell BK141.out 1).trans rfl
                                  have hcz112_2 : w58.cell? ⟨gb141, 2, none⟩ = some (.int .i64 0) := (blk_cell BK141.out 2).trans rfl
                                  have hfz112_0 := blk_frozen BK141.out 0
                                  have hfz112_1 := blk_frozen BK141.out 1
                                  have hfz112_2 := blk_frozen BK141.out 2
                                  have hnb113 := NB125_131.out
                                  have hnc113 := NB131_125.out
                                  have hnb114 := NB125_136.out
                                  have hnc114 := NB136_125.out
                                  have hcz115_0 : w58.cell? ⟨gb125, 0, none⟩ = some (.bool t120) := (blk_cell BK125.out 0).trans rfl
                                  have hcz115_1 : w58.cell? ⟨gb125, 1, none⟩ = some (.string t121) := (blk_cell BK125.out 1).trans rfl
                                  have hcz115_2 : w58.cell? ⟨gb125, 2, none⟩ = some (.int .i64 t122) := (blk_cell BK125.out 2).trans rfl
                                  have hfz115_0 := blk_frozen BK125.out 0
                                  have hfz115_1 := blk_frozen BK125.out 1
                                  have hfz115_2 := blk_frozen BK125.out 2
                                  go_wp2
                                  go_meet
                                  case rel => exact ⟨_, (false), (by first | rfl | (simp; done) | (simp [*]; done)), H', ⟨by have := HJ7.out; have := HJ41.out; first | omega | exact Nat.le_refl _⟩, ⟨by (with_reducible repeat (first | refine blk_drewN ?_ _ | refine blk_drew ?_ | refine blk_alloc ?_ _)); refine blk_far ?_ NB125_141.out _; (with_reducible repeat (first | refine blk_drewN ?_ _ | refine blk_drew ?_ | refine blk_alloc ?_ _)); refine blk_far ?_ NB125_141.out _; (with_reducible repeat (first | refine blk_drewN ?_ _ | refine blk_drew ?_ | refine blk_alloc ?_ _)); refine blk_far ?_ NB125_141.out _; (with_reducible repeat (first | refine blk_drewN ?_ _ | refine blk_drew ?_ | refine blk_alloc ?_ _)); exact BK125.out⟩, ⟨by (with_reducible repeat (first | refine blk_drewN ?_ _ | refine blk_drew ?_ | refine blk_alloc ?_ _)); refine blk_far ?_ NB131_141.out _; (with_reducible repeat (first | refine blk_drewN ?_ _ | refine blk_drew ?_ | refine blk_alloc ?_ _)); refine blk_far ?_ NB131_141.out _; (with_reducible repeat (first | refine blk_drewN ?_ _ | refine blk_drew ?_ | refine blk_alloc ?_ _)); refine blk_far ?_ NB131_141.out _; (with_reducible repeat (first | refine blk_drewN ?_ _ | refine blk_drew ?_ | refine blk_alloc ?_ _)); exact BK131.out⟩, ⟨by (with_reducible repeat (first | refine blk_drewN ?_ _ | refine blk_drew ?_ | refine blk_alloc ?_ _)); refine blk_far ?_ NB136_141.out _; (with_reducible repeat (first | refine blk_drewN ?_ _ | refine blk_drew ?_ | refine blk_alloc ?_ _)); refine blk_far ?_ NB136_141.out _; (with_reducible repeat (first | refine blk_drewN ?_ _ | refine blk_drew ?_ | refine blk_alloc ?_ _)); refine blk_far ?_ NB136_141.out _; (with_reducible repeat (first | refine blk_drewN ?_ _ | refine blk_drew ?_ | refine blk_alloc ?_ _)); exact BK136.out⟩, ⟨by (with_reducible repeat (first | refine blk_drewN ?_ _ | refine blk_drew ?_ | refine blk_alloc ?_ _)); refine blk_put (cs := #[.bool t137, .string t138, .int .i64 0]) ?_ 2 _ rfl; (with_reducible repeat (first | refine blk_drewN ?_ _ | refine blk_drew ?_ | refine blk_alloc ?_ _)); refine blk_put (cs := #[.bool t137, .string (⟨#[]⟩ : ByteArray), .int .i64 0]) ?_ 1 _ rfl; (with_reducible repeat (first | refine blk_drewN ?_ _ | refine blk_drew ?_ | refine blk_alloc ?_ _)); refine blk_put (cs := #[.bool false, .string (⟨#[]⟩ : ByteArray), .int .i64 0]) ?_ 0 _ rfl; (with_reducible repeat (first | refine blk_drewN ?_ _ | refine blk_drew ?_ | refine blk_alloc ?_ _)); exact BK141.out⟩, ⟨by repeat (first | (with_reducible first | exact HB.out | apply below_alloc | apply pw_below_drewN | apply below_drew1 | refine below_set ?_ GE125.out | refine below_set ?_ GE131.out | refine below_set ?_ GE136.out | refine below_set ?_ GE141.out) | exact HB.out)⟩⟩
                            · rw [if_neg c71] at H
                              have c71b0 : (t140 == t124) = false := beq_eq_false_iff_ne.mpr c71
                              have c71b1 : (t140 != t124) = true := bne_iff_ne.mpr c71
                              have H' := Aside0.mk H
                              clear H
                              have hnb116 := NB141_125.out
                              have hnc116 := NB125_141.out
                              have hnb117 := NB141_131.out
                              have hnc117 := NB131_141.out
                              have hnb118 := NB141_136.out
                              have hnc118 := NB136_141.out
                              have hcz119_0 : w58.cell? ⟨gb141, 0, none⟩ = some (.bool false) := (blk_cell BK141.out 0).trans rfl
                              have hcz119_1 : w58.cell? ⟨gb141, 1, none⟩ = some (.string (⟨#[]⟩ : ByteArray)) := (blk_cell BK141.out 1).trans rfl
                              have hcz119_2 : w58.cell? ⟨gb141, 2, none⟩ = some (.int .i64 0) := (blk_cell BK141.out 2).trans rfl
                              have hfz119_0 := blk_frozen BK141.out 0
                              have hfz119_1 := blk_frozen BK141.out 1
                              have hfz119_2 := blk_frozen BK141.out 2
                              have hnb120 := NB125_131.out
                              have hnc120 := NB131_125.out
                              have hnb121 := NB125_136.out
                              have hnc121 := NB136_125.out
                              have hcz122_0 : w58.cell? ⟨gb125, 0, none⟩ = some (.bool t120) := (blk_cell BK125.out 0).trans rfl
                              have hcz122_1 : w58.cell? ⟨gb125, 1, none⟩ = some (.string t121) := (blk_cell BK125.out 1).trans rfl
                              have hcz122_2 : w58.cell? ⟨gb125, 2, none⟩ = some (.int .i64 t122) := (blk_cell BK125.out 2).trans rfl
                              have hfz122_0 := blk_frozen BK125.out 0
                              have hfz122_1 := blk_frozen BK125.out 1
                              have hfz122_2 := blk_frozen BK125.out 2
                              go_wp2
                              go_meet
                              case rel => exact ⟨_, (true), (by first | rfl | (simp; done) | (simp [*]; done)), H', ⟨by have := HJ7.out; have := HJ41.out; first | omega | exact Nat.le_refl _⟩, ⟨by (with_reducible repeat (first | refine blk_drewN ?_ _ | refine blk_drew ?_ | refine blk_alloc ?_ _)); refine blk_far ?_ NB125_141.out _; (with_reducible repeat (first | refine blk_drewN ?_ _ | refine blk_drew ?_ | refine blk_alloc ?_ _)); refine blk_far ?_ NB125_141.out _; (with_reducible repeat (first | refine blk_drewN ?_ _ | refine blk_drew ?_ | refine blk_alloc ?_ _)); refine blk_far ?_ NB125_141.out _; (with_reducible repeat (first | refine blk_drewN ?_ _ | refine blk_drew ?_ | refine blk_alloc ?_ _)); exact BK125.out⟩, ⟨by (with_reducible repeat (first | refine blk_drewN ?_ _ | refine blk_drew ?_ | refine blk_alloc ?_ _)); refine blk_far ?_ NB131_141.out _; (with_reducible repeat (first | refine blk_drewN ?_ _ | refine blk_drew ?_ | refine blk_alloc ?_ _)); refine blk_far ?_ NB131_141.out _; (with_reducible repeat (first | refine blk_drewN ?_ _ | refine blk_drew ?_ | refine blk_alloc ?_ _)); refine blk_far ?_ NB131_141.out _; (with_reducible repeat (first | refine blk_drewN ?_ _ | refine blk_drew ?_ | refine blk_alloc ?_ _)); exact BK131.out⟩, ⟨by (with_reducible repeat (first | refine blk_drewN ?_ _ | refine blk_drew ?_ | refine blk_alloc ?_ _)); refine blk_far ?_ NB136_141.out _; (with_reducible repeat (first | refine blk_drewN ?_ _ | refine blk_drew ?_ | refine blk_alloc ?_ _)); refine blk_far ?_ NB136_141.out _; (with_reducible repeat (first | refine blk_drewN ?_ _ | refine blk_drew ?_ | refine blk_alloc ?_ _)); refine blk_far ?_ NB136_141.out _; (with_reducible repeat (first | refine blk_drewN ?_ _ | refine blk_drew ?_ | refine blk_alloc ?_ _)); exact BK136.out⟩, ⟨by (with_reducible repeat (first | refine blk_drewN ?_ _ | refine blk_drew ?_ | refine blk_alloc ?_ _)); refine blk_put (cs := #[.bool t137, .string t138, .int .i64 0]) ?_ 2 _ rfl; (with_reducible repeat (first | refine blk_drewN ?_ _ | refine blk_drew ?_ | refine blk_alloc ?_ _)); refine blk_put (cs := #[.bool t137, .string (⟨#[]⟩ : ByteArray), .int .i64 0]) ?_ 1 _ rfl; (with_reducible repeat (first | refine blk_drewN ?_ _ | refine blk_drew ?_ | refine blk_alloc ?_ _)); refine blk_put (cs := #[.bool false, .string (⟨#[]⟩ : ByteArray), .int .i64 0]) ?_ 0 _ rfl; (with_reducible repeat (first | refine blk_drewN ?_ _ | refine blk_drew ?_ | refine blk_alloc ?_ _)); exact BK141.out⟩, ⟨by repeat (first | (with_reducible first | exact HB.out | apply below_alloc | apply pw_below_drewN | apply below_drew1 | refine below_set ?_ GE125.out | refine below_set ?_ GE131.out | refine below_set ?_ GE136.out | refine below_set ?_ GE141.out) | exact HB.out)⟩⟩
                        case rest =>
                          clear HC56
                          try clear c1
                          try clear c2
                          try clear p2
                          try clear c3
                          try clear c4
                          try clear c5
                          try clear c6
                          try clear c6b0
                          try clear c6b1
                          try clear c6b2
                          try clear p6
                          try clear c7
                          try clear c8
                          try clear c9
                          try clear c10
                          try clear c11
                          try clear c12
                          try clear c15
                          try clear c16
                          try clear c17
                          try clear c17b0
                          try clear c18
                          try clear c20
                          try clear c21
                          try clear c21b0
                          try clear c21b1
                          try clear c22
                          try clear c25
                          try clear c28
                          try clear c30
                          try clear c30b0
                          try clear c30b1
                          try clear c31
                          try clear c31b0
                          try clear c32
                          try clear c32b0
                          try clear c33
                          try clear c33b0
                          try clear c34
                          try clear c34b0
                          try clear c34b1
                          try clear c34b2
                          try clear c37
                          try clear c38
                          try clear c40
                          try clear c45
                          try clear c46
                          try clear c48
                          try clear c48b0
                          try clear c48b1
                          try clear c49
                          try clear c49b0
                          try clear c50
                          try clear c50b0
                          try clear c50b1
                          try clear c51
                          try clear c51b0
                          try clear c52
                          try clear c53
                          try clear c53b0
                          try clear c53b1
                          try clear c54
                          try clear c54b0
                          try clear c54b1
                          try clear c59
                          try clear c60
                          try clear c61
                          try clear c63
                          try clear c63b0
                          try clear c64
                          try clear c65
                          try clear c66
                          try clear c68
                          try clear c69
                          try clear c71
                          try clear c71b0
                          try clear c71b1
                          try clear c72
                          try clear c72b0
                          try clear c72b1
                          try clear c74
                          try clear c75
                          try clear c75b0
                          try clear c75b1
                          try clear c76
                          try clear c77
                          try clear c78
                          try clear c80
                          try clear c81
                          try clear c85
                          try clear c86
                          try clear c87
                          try clear c89
                          try clear c90
                          try clear c93
                          try clear c94
                          try clear c95
                          try clear c97
                          try clear c98
                          try clear c101
                          try clear c101b0
                          try clear c101b1
                          try clear c102
                          try clear c103
                          try clear c104
                          try clear c106
                          try clear c107
                          try clear c109
                          try clear c110
                          try clear c111
                          try clear c113
                          try clear c114
                          try clear c116
                          try clear c117
                          try clear c118
                          try clear c120
                          try clear c121
                          try clear hcz105_0
                          try clear hcz105_1
                          try clear hcz105_2
                          try clear hcz108_0
                          try clear hcz108_1
                          try clear hcz108_2
                          try clear hcz112_0
                          try clear hcz112_1
                          try clear hcz112_2
                          try clear hcz115_0
                          try clear hcz115_1
                          try clear hcz115_2
                          try clear hcz119_0
                          try clear hcz119_1
                          try clear hcz119_2
                          try clear hcz122_0
                          try clear hcz122_1
                          try clear hcz122_2
                          try clear hcz12_0
                          try clear hcz12_1
                          try clear hcz12_2
                          try clear hcz16_0
                          try clear hcz16_1
                          try clear hcz16_2
                          try clear hcz19_0
                          try clear hcz19_1
                          try clear hcz19_2
                          try clear hcz20_0
                          try clear hcz20_1
                          try clear hcz20_2
                          try clear hcz23_0
                          try clear hcz23_1
                          try clear hcz23_2
                          try clear hcz24_0
                          try clear hcz24_1
                          try clear hcz24_2
                          try clear hcz26_0
                          try clear hcz26_1
                          try clear hcz26_2
                          try clear hcz27_0
                          try clear hcz27_1
                          try clear hcz27_2
                          try clear hcz39_0
                          try clear hcz39_1
                          try clear hcz39_2
                          try clear hcz41_0
                          try clear hcz41_1
                          try clear hcz41_2
                          try clear hcz47_0
                          try clear hcz47_1
                          try clear hcz47_2
                          try clear hcz62_0
                          try clear hcz62_1
                          try clear hcz62_2
                          try clear hcz67_0
                          try clear hcz67_1
                          try clear hcz67_2
                          try clear hcz70_0
                          try clear hcz70_1
                          try clear hcz70_2
                          try clear hcz79_0
                          try clear hcz79_1
                          try clear hcz79_2
                          try clear hcz82_0
                          try clear hcz82_1
                          try clear hcz82_2
                          try clear hcz84_0
                          try clear hcz84_1
                          try clear hcz84_2
                          try clear hcz88_0
                          try clear hcz88_1
                          try clear hcz88_2
                          try clear hcz91_0
                          try clear hcz91_1
                          try clear hcz91_2
                          try clear hcz96_0
                          try clear hcz96_1
                          try clear hcz96_2
                          try clear hcz99_0
                          try clear hcz99_1
                          try clear hcz99_2
                          try clear hfz105_0
                          try clear hfz105_1
                          try clear hfz105_2
                          try clear hfz108_0
                          try clear hfz108_1
                          try clear hfz108_2
                          try clear hfz112_0
                          try clear hfz112_1
                          try clear hfz112_2
                          try clear hfz115_0
                          try clear hfz115_1
                          try clear hfz115_2
                          try clear hfz119_0
                          try clear hfz119_1
                          try clear hfz119_2
                          try clear hfz122_0
                          try clear hfz122_1
                          try clear hfz122_2
                          try clear hfz12_0
                          try clear hfz12_1
                          try clear hfz12_2
                          try clear hfz16_0
                          try clear hfz16_1
                          try clear hfz16_2
                          try clear hfz19_0
                          try clear hfz19_1
                          try clear hfz19_2
                          try clear hfz20_0
                          try clear hfz20_1
                          try clear hfz20_2
                          try clear hfz23_0
                          try clear hfz23_1
                          try clear hfz23_2
                          try clear hfz24_0
                          try clear hfz24_1
                          try clear hfz24_2
                          try clear hfz26_0
                          try clear hfz26_1
                          try clear hfz26_2
                          try clear hfz27_0
                          try clear hfz27_1
                          try clear hfz27_2
                          try clear hfz39_0
                          try clear hfz39_1
                          try clear hfz39_2
                          try clear hfz41_0
                          try clear hfz41_1
                          try clear hfz41_2
                          try clear hfz47_0
                          try clear hfz47_1
                          try clear hfz47_2
                          try clear hfz62_0
                          try clear hfz62_1
                          try clear hfz62_2
                          try clear hfz67_0
                          try clear hfz67_1
                          try clear hfz67_2
                          try clear hfz70_0
                          try clear hfz70_1
                          try clear hfz70_2
                          try clear hfz79_0
                          try clear hfz79_1
                          try clear hfz79_2
                          try clear hfz82_0
                          try clear hfz82_1
                          try clear hfz82_2
                          try clear hfz84_0
                          try clear hfz84_1
                          try clear hfz84_2
                          try clear hfz88_0
                          try clear hfz88_1
                          try clear hfz88_2
                          try clear hfz91_0
                          try clear hfz91_1
                          try clear hfz91_2
                          try clear hfz96_0
                          try clear hfz96_1
                          try clear hfz96_2
                          try clear hfz99_0
                          try clear hfz99_1
                          try clear hfz99_2
                          try clear p2
                          try clear p6
                          obtain ⟨kq, x126_55, rfl, HA, HJ55, BK125, BK131, BK136, BK141, HB⟩ := hcut
                          cases kq with
                          | zero => exact absurd HA.out (by simp [quarrylaw11_DecimalSplits.j2])
                          | succ kj55 =>
                            have H := HA.out
                            clear HA
                            simp only [quarrylaw11_DecimalSplits.j2] at H
                            by_cases c123 : x126_55 = true
                            · subst c123
                              have H1 : (none) = some r := by rw [if_pos rfl] at H; exact H
                              clear H
                              have H := H1
                              clear H1
                              exact absurd H (by simp)
                            · replace c123 := Bool.eq_false_iff.mpr c123
                              subst c123
                              have H1 : (if t123 = (a0.size : Int) then (if (t132 == t120 && (t133.toList == t121.toList && (t134 == t122))) = true then (some (t135 == t124)) else (none)) else (if (!t132 && (t133.toList == ([] : List UInt8) && (t134 == 0))) = true then (some (t135 == 110)) else (none))) = some r := by rw [if_neg (show ¬ (false = true) by decide)] at H; exact H
                              clear H
                              have H := H1
                              clear H1
                              by_cases c124 : t123 = (a0.size : Int)
                              · rw [if_pos c124] at H
                                have c124b0 : (t123 == (a0.size : Int)) = true := beq_iff_eq.mpr c124
                                have c124b1 : (t123 != (a0.size : Int)) = false := bne_eq_false_iff_eq.mpr c124
                                clear c124
                                by_cases c125 : (t132 == t120 && (t133.toList == t121.toList && (t134 == t122))) = true
                                · rw [if_pos c125] at H
                                  have c125b0 : (t132 == t120 && (t133.toList == t121.toList && (t134 == t122))) = true := c125
                                  (try (have ez_ := c125; simp [dz_] at ez_))
                                  (try (have c125b1 : decide (t132 = t120 && (t133.toList == t121.toList && (t134 == t122))) = true := by simpa using c125))
                                  (try (have c125b2 : (t132 == t120 && (t133.toList == t121.toList && (t134 == t122))) = true := by simpa using c125))
                                  clear c125
                                  obtain rfl := Option.some.inj H
                                  have hnb126 := NB136_125.out
                                  have hnc126 := NB125_136.out
                                  have hnb127 := NB136_131.out
                                  have hnc127 := NB131_136.out
                                  have hnb128 := NB136_141.out
                                  have hnc128 := NB141_136.out
                                  have hcz129_0 : wc.cell? ⟨gb136, 0, none⟩ = some (.bool t132) := (blk_cell BK136.out 0).trans rfl
                                  have hcz129_1 : wc.cell? ⟨gb136, 1, none⟩ = some (.string t133) := (blk_cell BK136.out 1).trans rfl
                                  have hcz129_2 : wc.cell? ⟨gb136, 2, none⟩ = some (.int .i64 t134) := (blk_cell BK136.out 2).trans rfl
                                  have hfz129_0 := blk_frozen BK136.out 0
                                  have hfz129_1 := blk_frozen BK136.out 1
                                  have hfz129_2 := blk_frozen BK136.out 2
                                  have hnb130 := NB125_131.out
                                  have hnc130 := NB131_125.out
                                  have hnb131 := NB125_141.out
                                  have hnc131 := NB141_125.out
                                  have hcz132_0 : wc.cell? ⟨gb125, 0, none⟩ = some (.bool t120) := (blk_cell BK125.out 0).trans rfl
                                  have hcz132_1 : wc.cell? ⟨gb125, 1, none⟩ = some (.string t121) := (blk_cell BK125.out 1).trans rfl
                                  have hcz132_2 : wc.cell? ⟨gb125, 2, none⟩ = some (.int .i64 t122) := (blk_cell BK125.out 2).trans rfl
                                  have hfz132_0 := blk_frozen BK125.out 0
                                  have hfz132_1 := blk_frozen BK125.out 1
                                  have hfz132_2 := blk_frozen BK125.out 2
                                  go_wp2
                                  go_ret
                                  exact ⟨by first | rfl | (simp [errW_none, errW_some] <;> rfl) | (simp [*, errW_none, errW_some] <;> rfl), by repeat (first | (with_reducible first | exact HB.out | apply below_alloc | apply pw_below_drewN | apply below_drew1 | refine below_set ?_ GE125.out | refine below_set ?_ GE131.out | refine below_set ?_ GE136.out | refine below_set ?_ GE141.out) | exact HB.out)⟩
                                · rw [if_neg c125] at H
                                  exact absurd H (by simp)
                              · rw [if_neg c124] at H
                                have c124b0 : (t123 == (a0.size : Int)) = false := beq_eq_false_iff_ne.mpr c124
                                have c124b1 : (t123 != (a0.size : Int)) = true := bne_iff_ne.mpr c124
                                by_cases c133 : (!t132 && (t133.toList == ([] : List UInt8) && (t134 == 0))) = true
                                · rw [if_pos c133] at H
                                  have c133b0 : (!t132 && (t133.toList == ([] : List UInt8) && (t134 == 0))) = true := c133
                                  (try (have dz_ : t132 = false ∧ t133.toList = [] ∧ t134 = 0 := by simpa using c133))
                                  clear c133
                                  obtain rfl := Option.some.inj H
                                  have hnb134 := NB136_125.out
                                  have hnc134 := NB125_136.out
                                  have hnb135 := NB136_131.out
                                  have hnc135 := NB131_136.out
                                  have hnb136 := NB136_141.out
                                  have hnc136 := NB141_136.out
                                  have hcz137_0 : wc.cell? ⟨gb136, 0, none⟩ = some (.bool t132) := (blk_cell BK136.out 0).trans rfl
                                  have hcz137_1 : wc.cell? ⟨gb136, 1, none⟩ = some (.string t133) := (blk_cell BK136.out 1).trans rfl
                                  have hcz137_2 : wc.cell? ⟨gb136, 2, none⟩ = some (.int .i64 t134) := (blk_cell BK136.out 2).trans rfl
                                  have hfz137_0 := blk_frozen BK136.out 0
                                  have hfz137_1 := blk_frozen BK136.out 1
                                  have hfz137_2 := blk_frozen BK136.out 2
                                  go_wp2
                                  go_ret
                                  exact ⟨by first | rfl | (simp [errW_none, errW_some] <;> rfl) | (simp [*, errW_none, errW_some] <;> rfl), by repeat (first | (with_reducible first | exact HB.out | apply below_alloc | apply pw_below_drewN | apply below_drew1 | refine below_set ?_ GE125.out | refine below_set ?_ GE131.out | refine below_set ?_ GE136.out | refine below_set ?_ GE141.out) | exact HB.out)⟩
                                · rw [if_neg c133] at H
                                  exact absurd H (by simp)
                      · rw [if_neg c54] at H
                        exact absurd H (by simp)
                    · rw [if_neg c53] at H
                      exact absurd H (by simp)
    · rw [if_neg c6] at H
      exact absurd H (by simp)
  · replace c4 := Bool.eq_false_iff.mpr c4
    subst c4
    have H1 : (none) = some r := by rw [if_neg (show ¬ (false = true) by decide)] at H; exact H
    clear H
    have H := H1
    clear H1
    exact absurd H (by simp)

end Go.Proofs.YtplokhniibdniaaDoor.PDecimalSplits
