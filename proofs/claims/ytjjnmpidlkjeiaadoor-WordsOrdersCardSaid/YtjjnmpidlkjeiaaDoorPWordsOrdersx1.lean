/- The machine side of a statement, laid by the kit's print program, run by wip/tools/gprint.py: some functions' contracts are given, proved by hand. -/
import Derived.Test.YtjjnmpidlkjeiaaDoorPWordsOrdersx0
namespace Go.Proofs.YtjjnmpidlkjeiaaDoor.PWordsOrders
open Go.RowKit Go.Proofs.YtjjnmpidlkjeiaaDoorW.PrintWords Go.Proofs.YtjjnmpidlkjeiaaDoorW.PrintLast Go.Proofs.YtjjnmpidlkjeiaaDoorW.PrintMore
attribute [local go_sem] max2_int min2_int max_two min_two max_three min_three max_four min_four   -- for this text's walks alone
set_option linter.unusedVariables false
set_option linter.unusedSimpArgs false

-- NOT PRINTED: function 8 (words_Each)

/-! ### quarrylaw03_WordsOrders: function 6 -/
mutual
def quarrylaw03_WordsOrders.j0 : Nat → Int → Int → Bool → Option (Bool)
  | 0, _, _, _ => none
  | k + 1, x0, x2, x49 => if x49 = true then (some false) else (if x2 < 0 then (quarrylaw03_WordsOrders.j1 k x0 x2 true) else (quarrylaw03_WordsOrders.j1 k x0 x2 (decide (x2 > 63))))
def quarrylaw03_WordsOrders.j1 : Nat → Int → Int → Bool → Option (Bool)
  | 0, _, _, _ => none
  | k + 1, x0, x2, x55 => if x55 = true then ((words_Rank.f x0 x2).bind fun t105 => ((words_Rank.f x0 (wrap64 (x2 + 1))).bind fun t106 => (if t105 = t106 then (some true) else (some (x2 == 9223372036854775807))))) else ((words_Rank.f x0 (wrap64 (x2 + 1))).bind fun t107 => ((words_Rank.f x0 x2).bind fun t108 => (if 0 ≤ (IntKind.u64.wrap (x2)) then (if (Go.bits .and .u64 (shr .u64 x0 (IntKind.u64.wrap (x2))) 1) = 1 then (if (wrap64 (t107 - t108)) = 1 then ((words_Rank.f x0 x2).bind fun t109 => ((words_Select.f x0 t109).bind fun t110 => (some (t110 == x2)))) else (some false)) else (some ((wrap64 (t107 - t108)) == 0))) else (none))))
end
def quarrylaw03_WordsOrders.f (k : Nat) (a0 : Int) (a1 : Int) (a2 : Int) : Option (Bool) := (words_Select.f a0 a1).bind fun t101 => (if t101 < (-1) then (quarrylaw03_WordsOrders.j0 k a0 a2 true) else (if t101 > 63 then (quarrylaw03_WordsOrders.j0 k a0 a2 true) else (if t101 ≥ 0 then (if 0 ≤ (IntKind.u64.wrap (t101)) then (if (Go.bits .and .u64 (shr .u64 a0 (IntKind.u64.wrap (t101))) 1) = 1 then ((words_Rank.f a0 t101).bind fun t102 => (if t102 = a1 then (if a1 < 0 then (quarrylaw03_WordsOrders.j0 k a0 a2 ((decide (t101 < 0)) != true)) else ((words_Rank.f a0 64).bind fun t103 => (quarrylaw03_WordsOrders.j0 k a0 a2 ((decide (t101 < 0)) != (decide (a1 ≥ t103)))))) else (quarrylaw03_WordsOrders.j0 k a0 a2 true))) else (quarrylaw03_WordsOrders.j0 k a0 a2 true)) else (none)) else (if a1 < 0 then (quarrylaw03_WordsOrders.j0 k a0 a2 ((decide (t101 < 0)) != true)) else ((words_Rank.f a0 64).bind fun t104 => (quarrylaw03_WordsOrders.j0 k a0 a2 ((decide (t101 < 0)) != (decide (a1 ≥ t104)))))))))
theorem quarrylaw03_WordsOrders.mono_l : ∀ k, (∀ y0 y1 y2, LeO (quarrylaw03_WordsOrders.j0 k y0 y1 y2) (quarrylaw03_WordsOrders.j0 (k + 1) y0 y1 y2)) ∧ (∀ y0 y1 y2, LeO (quarrylaw03_WordsOrders.j1 k y0 y1 y2) (quarrylaw03_WordsOrders.j1 (k + 1) y0 y1 y2))
  | 0 => ⟨fun _ _ _ r h => by simp [quarrylaw03_WordsOrders.j0] at h, fun _ _ _ r h => by simp [quarrylaw03_WordsOrders.j1] at h⟩
  | k + 1 => by
    obtain ⟨ih0, ih1⟩ := quarrylaw03_WordsOrders.mono_l k
    refine ⟨?_, ?_⟩
    · intro y0 y1 y2
      unfold quarrylaw03_WordsOrders.j0
      repeat' first
      | (with_reducible exact ih0 _ _ _)
      | (with_reducible exact ih1 _ _ _)
      | (with_reducible exact LeO.refl _)
      | (with_reducible exact LeO.none _)
      | (with_reducible refine LeO.ite ?_ ?_)
      | (with_reducible refine LeO.bind ?_ (fun _ => ?_))
      | exact ih0 _ _ _
      | exact ih1 _ _ _
      | exact LeO.none _
      | refine LeO.ite ?_ ?_
      | refine LeO.bind ?_ (fun _ => ?_)
    · intro y0 y1 y2
      unfold quarrylaw03_WordsOrders.j1
      repeat' first
      | (with_reducible exact ih0 _ _ _)
      | (with_reducible exact ih1 _ _ _)
      | (with_reducible exact LeO.refl _)
      | (with_reducible exact LeO.none _)
      | (with_reducible refine LeO.ite ?_ ?_)
      | (with_reducible refine LeO.bind ?_ (fun _ => ?_))
      | exact ih0 _ _ _
      | exact ih1 _ _ _
      | exact LeO.none _
      | refine LeO.ite ?_ ?_
      | refine LeO.bind ?_ (fun _ => ?_)
theorem quarrylaw03_WordsOrders.mono : ∀ a0 a1 a2 k, LeO (quarrylaw03_WordsOrders.f k a0 a1 a2) (quarrylaw03_WordsOrders.f (k + 1) a0 a1 a2) := by
  intro a0 a1 a2 k
  obtain ⟨ih0, ih1⟩ := quarrylaw03_WordsOrders.mono_l k
  unfold quarrylaw03_WordsOrders.f
  repeat' first
      | (with_reducible exact ih0 _ _ _)
      | (with_reducible exact ih1 _ _ _)
      | (with_reducible exact LeO.refl _)
      | (with_reducible exact LeO.none _)
      | (with_reducible refine LeO.ite ?_ ?_)
      | (with_reducible refine LeO.bind ?_ (fun _ => ?_))
      | exact ih0 _ _ _
      | exact ih1 _ _ _
      | exact LeO.none _
      | refine LeO.ite ?_ ?_
      | refine LeO.bind ?_ (fun _ => ?_)
set_option maxHeartbeats 8000000 in
set_option maxRecDepth 100000 in
theorem quarrylaw03_WordsOrders.calls (k : Nat) (a0 : Int) (a1 : Int) (a2 : Int) (r : Bool) (w : World) (h : quarrylaw03_WordsOrders.f k a0 a1 a2 = some r) (hT : TabW w := by first | exact hT | exact TabW.drewN hT _ | (refine TabW.below hT ?_; repeat (first | (with_reducible exact HB.out) | (with_reducible exact Below.refl _ _) | apply below_alloc | apply pw_below_drewN | apply below_drew1 | apply below_drew | assumption))) :
    Calls Tryd.prog 6 #[.int .u64 a0, .int .i64 a1, .int .i64 a2] w fun e w' => e = .returned (.bool r) ∧ Below w.heap.size w w' := by
  have HB := Aside0.mk (Below.refl w.heap.size w)
  have H : ((words_Select.f a0 a1).bind fun t101 => (if t101 < (-1) then (quarrylaw03_WordsOrders.j0 k a0 a2 true) else (if t101 > 63 then (quarrylaw03_WordsOrders.j0 k a0 a2 true) else (if t101 ≥ 0 then (if 0 ≤ (IntKind.u64.wrap (t101)) then (if (Go.bits .and .u64 (shr .u64 a0 (IntKind.u64.wrap (t101))) 1) = 1 then ((words_Rank.f a0 t101).bind fun t102 => (if t102 = a1 then (if a1 < 0 then (quarrylaw03_WordsOrders.j0 k a0 a2 ((decide (t101 < 0)) != true)) else ((words_Rank.f a0 64).bind fun t103 => (quarrylaw03_WordsOrders.j0 k a0 a2 ((decide (t101 < 0)) != (decide (a1 ≥ t103)))))) else (quarrylaw03_WordsOrders.j0 k a0 a2 true))) else (quarrylaw03_WordsOrders.j0 k a0 a2 true)) else (none)) else (if a1 < 0 then (quarrylaw03_WordsOrders.j0 k a0 a2 ((decide (t101 < 0)) != true)) else ((words_Rank.f a0 64).bind fun t104 => (quarrylaw03_WordsOrders.j0 k a0 a2 ((decide (t101 < 0)) != (decide (a1 ≥ t104)))))))))) = some r := h
  clear h
  replace H := Option.bind_eq_some_iff.mp H
  obtain ⟨t101, A40, H⟩ := H
  replace H : (if t101 < (-1) then (quarrylaw03_WordsOrders.j0 k a0 a2 true) else (if t101 > 63 then (quarrylaw03_WordsOrders.j0 k a0 a2 true) else (if t101 ≥ 0 then (if 0 ≤ (IntKind.u64.wrap (t101)) then (if (Go.bits .and .u64 (shr .u64 a0 (IntKind.u64.wrap (t101))) 1) = 1 then ((words_Rank.f a0 t101).bind fun t102 => (if t102 = a1 then (if a1 < 0 then (quarrylaw03_WordsOrders.j0 k a0 a2 ((decide (t101 < 0)) != true)) else ((words_Rank.f a0 64).bind fun t103 => (quarrylaw03_WordsOrders.j0 k a0 a2 ((decide (t101 < 0)) != (decide (a1 ≥ t103)))))) else (quarrylaw03_WordsOrders.j0 k a0 a2 true))) else (quarrylaw03_WordsOrders.j0 k a0 a2 true)) else (none)) else (if a1 < 0 then (quarrylaw03_WordsOrders.j0 k a0 a2 ((decide (t101 < 0)) != true)) else ((words_Rank.f a0 64).bind fun t104 => (quarrylaw03_WordsOrders.j0 k a0 a2 ((decide (t101 < 0)) != (decide (a1 ≥ t104))))))))) = some r := H
  have A4 := Aside0.mk A40
  clear A40
  have HC5 := Aside0.mk H
  clear H
  go_enter Tryd.func6, Tryd.ntmps6
  go_upto_region 2 with (first | ((with_reducible refine gate_callee (f := 15) rfl ?_); refine goesL_ (some 11) rfl rfl Tryd.func15 (by kernel_rfl) rfl #[.int .u64 a0, .int .i64 a1] rfl (by (try simp only [List.map_toArray, List.map_cons, List.map_nil]); first | done | rfl | (simp only [List.length_drop, List.length_take]; rfl)) ?_; (with_reducible refine (words_Select.calls a0 a1 t101 _ A4.out).mono ?_); rintro e w6 ⟨rfl, hb⟩; refine ⟨_, rfl, ?_⟩; have n0_ := Aside0.mk (below_step (by repeat (first | (with_reducible first | exact HB.out | apply below_alloc | apply pw_below_drewN | apply below_drew1) | exact HB.out)) hb); clear HB; have HB := n0_; clear n0_; (try clear hb); (try clear hb2); (try clear hk); (try clear hi)))
  (try simp only [Act.put, List.setIfInBounds_toArray, List.set_cons_zero, List.set_cons_succ])
  go_cut [49] (fun v49 wc => ∃ (kq : Nat) (x49_4 : Bool), v49 = .bool x49_4 ∧ Aside0 (quarrylaw03_WordsOrders.j0 kq a0 a2 x49_4 = some r) ∧ Aside0 (kq ≤ k) ∧ Aside0 (Below w.heap.size w wc))
  case first =>
    have H := HC5.out
    clear HC5
    by_cases c7 : t101 < (-1)
    · rw [if_pos c7] at H
      have c7b0 : decide (t101 < (-1)) = true := decide_eq_true c7
      clear c7
      (first | rw [c7b0] | (simp only [i64_w, i32_w]; rw [c7b0]) | skip)
      have H' := Aside0.mk H
      clear H
      go_wp2
      go_meet
      case rel => exact ⟨_, (true), (by first | rfl | (simp; done) | (simp [*]; done)), H', ⟨by first | omega | exact Nat.le_refl _⟩, ⟨by repeat (first | (with_reducible first | exact HB.out | apply below_alloc | apply pw_below_drewN | apply below_drew1) | exact HB.out)⟩⟩
    · rw [if_neg c7] at H
      have c7b0 : decide (t101 < (-1)) = false := decide_eq_false c7
      clear c7
      (first | rw [c7b0] | (simp only [i64_w, i32_w]; rw [c7b0]) | skip)
      by_cases c8 : t101 > 63
      · rw [if_pos c8] at H
        have c8b0 : decide (63 < t101) = true := decide_eq_true c8
        clear c8
        have H' := Aside0.mk H
        clear H
        go_wp2
        go_meet
        case rel => exact ⟨_, (true), (by first | rfl | (simp; done) | (simp [*]; done)), H', ⟨by first | omega | exact Nat.le_refl _⟩, ⟨by repeat (first | (with_reducible first | exact HB.out | apply below_alloc | apply pw_below_drewN | apply below_drew1) | exact HB.out)⟩⟩
      · rw [if_neg c8] at H
        have c8b0 : decide (63 < t101) = false := decide_eq_false c8
        clear c8
        by_cases c9 : t101 ≥ 0
        · rw [if_pos c9] at H
          have c9b0 : decide (0 ≤ t101) = true := decide_eq_true c9
          clear c9
          obtain ⟨ji10, hji10⟩ : ∃ j_ : Int, (IntKind.u64.wrap (t101)) = j_ := ⟨_, rfl⟩
          replace H : (if 0 ≤ (ji10) then (if (Go.bits .and .u64 (shr .u64 a0 (ji10)) 1) = 1 then ((words_Rank.f a0 t101).bind fun t102 => (if t102 = a1 then (if a1 < 0 then (quarrylaw03_WordsOrders.j0 k a0 a2 ((decide (t101 < 0)) != true)) else ((words_Rank.f a0 64).bind fun t103 => (quarrylaw03_WordsOrders.j0 k a0 a2 ((decide (t101 < 0)) != (decide (a1 ≥ t103)))))) else (quarrylaw03_WordsOrders.j0 k a0 a2 true))) else (quarrylaw03_WordsOrders.j0 k a0 a2 true)) else (none)) = some r := by first | (rw [hji10] at H; exact H) | (simp only [hji10] at H ⊢; exact H)
          by_cases c11 : 0 ≤ (ji10)
          · rw [if_pos c11] at H
            have c11b0 := eq_true c11
            have c11b1 : decide (0 ≤ (ji10)) = true := decide_eq_true c11
            clear c11
            obtain ⟨ji12, hji12⟩ : ∃ j_ : Int, (shr .u64 a0 (ji10)) = j_ := ⟨_, rfl⟩
            replace H : (if (Go.bits .and .u64 (ji12) 1) = 1 then ((words_Rank.f a0 t101).bind fun t102 => (if t102 = a1 then (if a1 < 0 then (quarrylaw03_WordsOrders.j0 k a0 a2 ((decide (t101 < 0)) != true)) else ((words_Rank.f a0 64).bind fun t103 => (quarrylaw03_WordsOrders.j0 k a0 a2 ((decide (t101 < 0)) != (decide (a1 ≥ t103)))))) else (quarrylaw03_WordsOrders.j0 k a0 a2 true))) else (quarrylaw03_WordsOrders.j0 k a0 a2 true)) = some r := by first | (rw [hji12] at H; exact H) | (simp only [hji12] at H ⊢; exact H)
            have hji12_ : (a0 / 2 ^ min (ji10).toNat 64) = ji12 := hji12
            have hji12z : (ji10) ≤ 64 → (a0 / 2 ^ (ji10).toNat) = ji12 := shr_small hji12
            by_cases c13 : (Go.bits .and .u64 (ji12) 1) = 1
            · rw [if_pos c13] at H
              have c13b0 : ((Go.bits .and .u64 (ji12) 1) == 1) = true := beq_iff_eq.mpr c13
              have c13b1 : ((Go.bits .and .u64 (ji12) 1) != 1) = false := bne_eq_false_iff_eq.mpr c13
              clear c13
              replace H := Option.bind_eq_some_iff.mp H
              obtain ⟨t102, A140, H⟩ := H
              replace H : (if t102 = a1 then (if a1 < 0 then (quarrylaw03_WordsOrders.j0 k a0 a2 ((decide (t101 < 0)) != true)) else ((words_Rank.f a0 64).bind fun t103 => (quarrylaw03_WordsOrders.j0 k a0 a2 ((decide (t101 < 0)) != (decide (a1 ≥ t103)))))) else (quarrylaw03_WordsOrders.j0 k a0 a2 true)) = some r := H
              have A14 := Aside0.mk A140
              clear A140
              by_cases c15 : t102 = a1
              · rw [if_pos c15] at H
                have c15b0 : (t102 == a1) = true := beq_iff_eq.mpr c15
                have c15b1 : (t102 != a1) = false := bne_eq_false_iff_eq.mpr c15
                clear c15
                by_cases c16 : a1 < 0
                · rw [if_pos c16] at H
                  have c16b0 : decide (a1 < 0) = true := decide_eq_true c16
                  clear c16
                  have H' := Aside0.mk H
                  clear H
                  go_wp2_with (first | (go_at_call 13; (with_reducible refine (words_Rank.calls a0 t101 t102 _ A14.out).mono ?_); rintro e w' ⟨rfl, ⟨nd, rfl⟩⟩))
                  go_meet
                  case rel => exact ⟨_, (((decide (t101 < 0)) != true)), (by first | rfl | (simp; done) | (simp [*]; done)), H', ⟨by first | omega | exact Nat.le_refl _⟩, ⟨by repeat (first | (with_reducible first | exact HB.out | apply below_alloc | apply pw_below_drewN | apply below_drew1) | exact HB.out)⟩⟩
                · rw [if_neg c16] at H
                  have c16b0 : decide (a1 < 0) = false := decide_eq_false c16
                  clear c16
                  replace H := Option.bind_eq_some_iff.mp H
                  obtain ⟨t103, A170, H⟩ := H
                  replace H : (quarrylaw03_WordsOrders.j0 k a0 a2 ((decide (t101 < 0)) != (decide (a1 ≥ t103)))) = some r := H
                  have A17 := Aside0.mk A170
                  clear A170
                  have H' := Aside0.mk H
                  clear H
                  go_wp2_with (first | (go_at_call 13; (with_reducible refine (words_Rank.calls a0 t101 t102 _ A14.out).mono ?_); rintro e w' ⟨rfl, ⟨nd, rfl⟩⟩) | (go_at_call 13; (with_reducible refine (words_Rank.calls a0 64 t103 _ A17.out).mono ?_); rintro e w' ⟨rfl, ⟨nd, rfl⟩⟩))
                  go_meet
                  case rel => exact ⟨_, (((decide (t101 < 0)) != (decide (a1 ≥ t103)))), (by first | rfl | (simp; done) | (simp [*]; done)), H', ⟨by first | omega | exact Nat.le_refl _⟩, ⟨by repeat (first | (with_reducible first | exact HB.out | apply below_alloc | apply pw_below_drewN | apply below_drew1) | exact HB.out)⟩⟩
              · rw [if_neg c15] at H
                have c15b0 : (t102 == a1) = false := beq_eq_false_iff_ne.mpr c15
                have c15b1 : (t102 != a1) = true := bne_iff_ne.mpr c15
                have H' := Aside0.mk H
                clear H
                go_wp2_with (first | (go_at_call 13; (with_reducible refine (words_Rank.calls a0 t101 t102 _ A14.out).mono ?_); rintro e w' ⟨rfl, ⟨nd, rfl⟩⟩))
                go_meet
                case rel => exact ⟨_, (true), (by first | rfl | (simp; done) | (simp [*]; done)), H', ⟨by first | omega | exact Nat.le_refl _⟩, ⟨by repeat (first | (with_reducible first | exact HB.out | apply below_alloc | apply pw_below_drewN | apply below_drew1) | exact HB.out)⟩⟩
            · rw [if_neg c13] at H
              have c13b0 : ((Go.bits .and .u64 (ji12) 1) == 1) = false := beq_eq_false_iff_ne.mpr c13
              have c13b1 : ((Go.bits .and .u64 (ji12) 1) != 1) = true := bne_iff_ne.mpr c13
              have H' := Aside0.mk H
              clear H
              go_wp2
              go_meet
              case rel => exact ⟨_, (true), (by first | rfl | (simp; done) | (simp [*]; done)), H', ⟨by first | omega | exact Nat.le_refl _⟩, ⟨by repeat (first | (with_reducible first | exact HB.out | apply below_alloc | apply pw_below_drewN | apply below_drew1) | exact HB.out)⟩⟩
          · rw [if_neg c11] at H
            exact absurd H (by simp)
        · rw [if_neg c9] at H
          have c9b0 : decide (0 ≤ t101) = false := decide_eq_false c9
          clear c9
          by_cases c18 : a1 < 0
          · rw [if_pos c18] at H
            have c18b0 : decide (a1 < 0) = true := decide_eq_true c18
            clear c18
            have H' := Aside0.mk H
            clear H
            go_wp2
            go_meet
            case rel => exact ⟨_, (((decide (t101 < 0)) != true)), (by first | rfl | (simp; done) | (simp [*]; done)), H', ⟨by first | omega | exact Nat.le_refl _⟩, ⟨by repeat (first | (with_reducible first | exact HB.out | apply below_alloc | apply pw_below_drewN | apply below_drew1) | exact HB.out)⟩⟩
          · rw [if_neg c18] at H
            have c18b0 : decide (a1 < 0) = false := decide_eq_false c18
            clear c18
            replace H := Option.bind_eq_some_iff.mp H
            obtain ⟨t104, A190, H⟩ := H
            replace H : (quarrylaw03_WordsOrders.j0 k a0 a2 ((decide (t101 < 0)) != (decide (a1 ≥ t104)))) = some r := H
            have A19 := Aside0.mk A190
            clear A190
            have H' := Aside0.mk H
            clear H
            go_wp2_with (first | (go_at_call 13; (with_reducible refine (words_Rank.calls a0 64 t104 _ A19.out).mono ?_); rintro e w' ⟨rfl, ⟨nd, rfl⟩⟩))
            go_meet
            case rel => exact ⟨_, (((decide (t101 < 0)) != (decide (a1 ≥ t104)))), (by first | rfl | (simp; done) | (simp [*]; done)), H', ⟨by first | omega | exact Nat.le_refl _⟩, ⟨by repeat (first | (with_reducible first | exact HB.out | apply below_alloc | apply pw_below_drewN | apply below_drew1) | exact HB.out)⟩⟩
  case rest =>
    clear HC5
    try clear c1
    try clear p2
    try clear c6
    try clear c7
    try clear c7b0
    try clear c8
    try clear c8b0
    try clear c9
    try clear c9b0
    try clear c11
    try clear c11b0
    try clear c11b1
    try clear c13
    try clear c13b0
    try clear c13b1
    try clear c15
    try clear c15b0
    try clear c15b1
    try clear c16
    try clear c16b0
    try clear c18
    try clear c18b0
    obtain ⟨kq, x49_4, rfl, HA, HJ4, HB⟩ := hcut
    cases kq with
    | zero => exact absurd HA.out (by simp [quarrylaw03_WordsOrders.j0])
    | succ kj4 =>
      have H := HA.out
      clear HA
      simp only [quarrylaw03_WordsOrders.j0] at H
      by_cases c20 : x49_4 = true
      · subst c20
        have H1 : (some false) = some r := by rw [if_pos rfl] at H; exact H
        clear H
        have H := H1
        clear H1
        obtain rfl := Option.some.inj H
        go_wp2
        go_ret
        exact ⟨by first | rfl | (simp [errW_none, errW_some] <;> rfl) | (simp [*, errW_none, errW_some] <;> rfl), by repeat (first | (with_reducible first | exact HB.out | apply below_alloc | apply pw_below_drewN | apply below_drew1) | exact HB.out)⟩
      · replace c20 := Bool.eq_false_iff.mpr c20
        subst c20
        have H1 : (if a2 < 0 then (quarrylaw03_WordsOrders.j1 kj4 a0 a2 true) else (quarrylaw03_WordsOrders.j1 kj4 a0 a2 (decide (a2 > 63)))) = some r := by rw [if_neg (show ¬ (false = true) by decide)] at H; exact H
        clear H
        have H := H1
        clear H1
        have HC21 := Aside0.mk H
        clear H
        go_upto_region 4 with (fail)
        go_cut [55] (fun v55 wc => ∃ (kq : Nat) (x55_20 : Bool), v55 = .bool x55_20 ∧ Aside0 (quarrylaw03_WordsOrders.j1 kq a0 a2 x55_20 = some r) ∧ Aside0 (kq ≤ kj4) ∧ Aside0 (Below w.heap.size w wc))
        case first =>
          have H := HC21.out
          clear HC21
          by_cases c22 : a2 < 0
          · rw [if_pos c22] at H
            have c22b0 : decide (a2 < 0) = true := decide_eq_true c22
            clear c22
            (first | rw [c22b0] | (simp only [i64_w, i32_w]; rw [c22b0]) | skip)
            have H' := Aside0.mk H
            clear H
            go_wp2
            go_meet
            case rel => exact ⟨_, (true), (by first | rfl | (simp; done) | (simp [*]; done)), H', ⟨by have := HJ4.out; first | omega | exact Nat.le_refl _⟩, ⟨by repeat (first | (with_reducible first | exact HB.out | apply below_alloc | apply pw_below_drewN | apply below_drew1) | exact HB.out)⟩⟩
          · rw [if_neg c22] at H
            have c22b0 : decide (a2 < 0) = false := decide_eq_false c22
            clear c22
            (first | rw [c22b0] | (simp only [i64_w, i32_w]; rw [c22b0]) | skip)
            have H' := Aside0.mk H
            clear H
            go_wp2
            go_meet
            case rel => exact ⟨_, (decide (a2 > 63)), (by first | rfl | (simp; done) | (simp [*]; done)), H', ⟨by have := HJ4.out; first | omega | exact Nat.le_refl _⟩, ⟨by repeat (first | (with_reducible first | exact HB.out | apply below_alloc | apply pw_below_drewN | apply below_drew1) | exact HB.out)⟩⟩
        case rest =>
          clear HC21
          try clear c1
          try clear c2
          try clear p2
          try clear c6
          try clear c7
          try clear c7b0
          try clear c8
          try clear c8b0
          try clear c9
          try clear c9b0
          try clear c11
          try clear c11b0
          try clear c11b1
          try clear c13
          try clear c13b0
          try clear c13b1
          try clear c15
          try clear c15b0
          try clear c15b1
          try clear c16
          try clear c16b0
          try clear c18
          try clear c18b0
          try clear c20
          try clear c22
          try clear c22b0
          try clear p2
          obtain ⟨kq, x55_20, rfl, HA, HJ20, HB⟩ := hcut
          cases kq with
          | zero => exact absurd HA.out (by simp [quarrylaw03_WordsOrders.j1])
          | succ kj20 =>
            have H := HA.out
            clear HA
            simp only [quarrylaw03_WordsOrders.j1] at H
            by_cases c23 : x55_20 = true
            · subst c23
              have H1 : ((words_Rank.f a0 a2).bind fun t105 => ((words_Rank.f a0 (wrap64 (a2 + 1))).bind fun t106 => (if t105 = t106 then (some true) else (some (a2 == 9223372036854775807))))) = some r := by rw [if_pos rfl] at H; exact H
              clear H
              have H := H1
              clear H1
              replace H := Option.bind_eq_some_iff.mp H
              obtain ⟨t105, A240, H⟩ := H
              replace H : ((words_Rank.f a0 (wrap64 (a2 + 1))).bind fun t106 => (if t105 = t106 then (some true) else (some (a2 == 9223372036854775807)))) = some r := H
              have A24 := Aside0.mk A240
              clear A240
              replace H := Option.bind_eq_some_iff.mp H
              obtain ⟨t106, A250, H⟩ := H
              replace H : (if t105 = t106 then (some true) else (some (a2 == 9223372036854775807))) = some r := H
              have A25 := Aside0.mk A250
              clear A250
              by_cases c26 : t105 = t106
              · rw [if_pos c26] at H
                have c26b0 : (t105 == t106) = true := beq_iff_eq.mpr c26
                have c26b1 : (t105 != t106) = false := bne_eq_false_iff_eq.mpr c26
                clear c26
                obtain rfl := Option.some.inj H
                go_wp2_with (first | ((with_reducible refine gate_callee (f := 13) rfl ?_); refine goesL_ (some 58) rfl rfl Tryd.func13 (by kernel_rfl) rfl #[.int .u64 a0, .int .i64 a2] rfl (by (try simp only [List.map_toArray, List.map_cons, List.map_nil]); first | done | rfl | (simp only [List.length_drop, List.length_take]; rfl)) ?_; (with_reducible refine (words_Rank.calls a0 a2 t105 _ A24.out).mono ?_); rintro e w' ⟨rfl, ⟨nd, rfl⟩⟩; refine ⟨_, rfl, ?_⟩) | ((with_reducible refine gate_callee (f := 13) rfl ?_); refine goesL_ (some 62) rfl rfl Tryd.func13 (by kernel_rfl) rfl #[.int .u64 a0, .int .i64 (wrap64 (a2 + 1))] rfl (by (try simp only [List.map_toArray, List.map_cons, List.map_nil]); first | done | rfl | (simp only [List.length_drop, List.length_take]; rfl)) ?_; (with_reducible refine (words_Rank.calls a0 (wrap64 (a2 + 1)) t106 _ A25.out).mono ?_); rintro e w' ⟨rfl, ⟨nd, rfl⟩⟩; refine ⟨_, rfl, ?_⟩))
                go_ret
                exact ⟨by first | rfl | (simp [errW_none, errW_some] <;> rfl) | (simp [*, errW_none, errW_some] <;> rfl), by repeat (first | (with_reducible first | exact HB.out | apply below_alloc | apply pw_below_drewN | apply below_drew1) | exact HB.out)⟩
              · rw [if_neg c26] at H
                have c26b0 : (t105 == t106) = false := beq_eq_false_iff_ne.mpr c26
                have c26b1 : (t105 != t106) = true := bne_iff_ne.mpr c26
                obtain rfl := Option.some.inj H
                go_wp2_with (first | ((with_reducible refine gate_callee (f := 13) rfl ?_); refine goesL_ (some 58) rfl rfl Tryd.func13 (by kernel_rfl) rfl #[.int .u64 a0, .int .i64 a2] rfl (by (try simp only [List.map_toArray, List.map_cons, List.map_nil]); first | done | rfl | (simp only [List.length_drop, List.length_take]; rfl)) ?_; (with_reducible refine (words_Rank.calls a0 a2 t105 _ A24.out).mono ?_); rintro e w' ⟨rfl, ⟨nd, rfl⟩⟩; refine ⟨_, rfl, ?_⟩) | ((with_reducible refine gate_callee (f := 13) rfl ?_); refine goesL_ (some 62) rfl rfl Tryd.func13 (by kernel_rfl) rfl #[.int .u64 a0, .int .i64 (wrap64 (a2 + 1))] rfl (by (try simp only [List.map_toArray, List.map_cons, List.map_nil]); first | done | rfl | (simp only [List.length_drop, List.length_take]; rfl)) ?_; (with_reducible refine (words_Rank.calls a0 (wrap64 (a2 + 1)) t106 _ A25.out).mono ?_); rintro e w' ⟨rfl, ⟨nd, rfl⟩⟩; refine ⟨_, rfl, ?_⟩))
                go_ret
                exact ⟨by first | rfl | (simp [errW_none, errW_some] <;> rfl) | (simp [*, errW_none, errW_some] <;> rfl), by repeat (first | (with_reducible first | exact HB.out | apply below_alloc | apply pw_below_drewN | apply below_drew1) | exact HB.out)⟩
            · replace c23 := Bool.eq_false_iff.mpr c23
              subst c23
              have H1 : ((words_Rank.f a0 (wrap64 (a2 + 1))).bind fun t107 => ((words_Rank.f a0 a2).bind fun t108 => (if 0 ≤ (IntKind.u64.wrap (a2)) then (if (Go.bits .and .u64 (shr .u64 a0 (IntKind.u64.wrap (a2))) 1) = 1 then (if (wrap64 (t107 - t108)) = 1 then ((words_Rank.f a0 a2).bind fun t109 => ((words_Select.f a0 t109).bind fun t110 => (some (t110 == a2)))) else (some false)) else (some ((wrap64 (t107 - t108)) == 0))) else (none)))) = some r := by rw [if_neg (show ¬ (false = true) by decide)] at H; exact H
              clear H
              have H := H1
              clear H1
              replace H := Option.bind_eq_some_iff.mp H
              obtain ⟨t107, A270, H⟩ := H
              replace H : ((words_Rank.f a0 a2).bind fun t108 => (if 0 ≤ (IntKind.u64.wrap (a2)) then (if (Go.bits .and .u64 (shr .u64 a0 (IntKind.u64.wrap (a2))) 1) = 1 then (if (wrap64 (t107 - t108)) = 1 then ((words_Rank.f a0 a2).bind fun t109 => ((words_Select.f a0 t109).bind fun t110 => (some (t110 == a2)))) else (some false)) else (some ((wrap64 (t107 - t108)) == 0))) else (none))) = some r := H
              have A27 := Aside0.mk A270
              clear A270
              replace H := Option.bind_eq_some_iff.mp H
              obtain ⟨t108, A280, H⟩ := H
              replace H : (if 0 ≤ (IntKind.u64.wrap (a2)) then (if (Go.bits .and .u64 (shr .u64 a0 (IntKind.u64.wrap (a2))) 1) = 1 then (if (wrap64 (t107 - t108)) = 1 then ((words_Rank.f a0 a2).bind fun t109 => ((words_Select.f a0 t109).bind fun t110 => (some (t110 == a2)))) else (some false)) else (some ((wrap64 (t107 - t108)) == 0))) else (none)) = some r := H
              have A28 := Aside0.mk A280
              clear A280
              obtain ⟨ji29, hji29⟩ : ∃ j_ : Int, (IntKind.u64.wrap (a2)) = j_ := ⟨_, rfl⟩
              replace H : (if 0 ≤ (ji29) then (if (Go.bits .and .u64 (shr .u64 a0 (ji29)) 1) = 1 then (if (wrap64 (t107 - t108)) = 1 then ((words_Rank.f a0 a2).bind fun t109 => ((words_Select.f a0 t109).bind fun t110 => (some (t110 == a2)))) else (some false)) else (some ((wrap64 (t107 - t108)) == 0))) else (none)) = some r := by first | (rw [hji29] at H; exact H) | (simp only [hji29] at H ⊢; exact H)
              (try rw [hji29] at A27)
              (try rw [hji29] at A28)
              by_cases c30 : 0 ≤ (ji29)
              · rw [if_pos c30] at H
                have c30b0 := eq_true c30
                have c30b1 : decide (0 ≤ (ji29)) = true := decide_eq_true c30
                clear c30
                obtain ⟨ji31, hji31⟩ : ∃ j_ : Int, (shr .u64 a0 (ji29)) = j_ := ⟨_, rfl⟩
                replace H : (if (Go.bits .and .u64 (ji31) 1) = 1 then (if (wrap64 (t107 - t108)) = 1 then ((words_Rank.f a0 a2).bind fun t109 => ((words_Select.f a0 t109).bind fun t110 => (some (t110 == a2)))) else (some false)) else (some ((wrap64 (t107 - t108)) == 0))) = some r := by first | (rw [hji31] at H; exact H) | (simp only [hji31] at H ⊢; exact H)
                (try rw [hji31] at A27)
                (try rw [hji31] at A28)
                have hji31_ : (a0 / 2 ^ min (ji29).toNat 64) = ji31 := hji31
                have hji31z : (ji29) ≤ 64 → (a0 / 2 ^ (ji29).toNat) = ji31 := shr_small hji31
                by_cases c32 : (Go.bits .and .u64 (ji31) 1) = 1
                · rw [if_pos c32] at H
                  have c32b0 : ((Go.bits .and .u64 (ji31) 1) == 1) = true := beq_iff_eq.mpr c32
                  have c32b1 : ((Go.bits .and .u64 (ji31) 1) != 1) = false := bne_eq_false_iff_eq.mpr c32
                  clear c32
                  by_cases c33 : (wrap64 (t107 - t108)) = 1
                  · rw [if_pos c33] at H
                    have c33b0 : ((wrap64 (t107 - t108)) == 1) = true := beq_iff_eq.mpr c33
                    have c33b1 : ((wrap64 (t107 - t108)) != 1) = false := bne_eq_false_iff_eq.mpr c33
                    clear c33
                    replace H := Option.bind_eq_some_iff.mp H
                    obtain ⟨t109, A340, H⟩ := H
                    replace H : ((words_Select.f a0 t109).bind fun t110 => (some (t110 == a2))) = some r := H
                    have A34 := Aside0.mk A340
                    clear A340
                    replace H := Option.bind_eq_some_iff.mp H
                    obtain ⟨t110, A350, H⟩ := H
                    replace H : (some (t110 == a2)) = some r := H
                    have A35 := Aside0.mk A350
                    clear A350
                    obtain rfl := Option.some.inj H
                    go_wp2_with (first | ((with_reducible refine gate_callee (f := 13) rfl ?_); refine goesL_ (some 71) rfl rfl Tryd.func13 (by kernel_rfl) rfl #[.int .u64 a0, .int .i64 (wrap64 (a2 + 1))] rfl (by (try simp only [List.map_toArray, List.map_cons, List.map_nil]); first | done | rfl | (simp only [List.length_drop, List.length_take]; rfl)) ?_; (with_reducible refine (words_Rank.calls a0 (wrap64 (a2 + 1)) t107 _ A27.out).mono ?_); rintro e w' ⟨rfl, ⟨nd, rfl⟩⟩; refine ⟨_, rfl, ?_⟩) | ((with_reducible refine gate_callee (f := 13) rfl ?_); refine goesL_ (some 74) rfl rfl Tryd.func13 (by kernel_rfl) rfl #[.int .u64 a0, .int .i64 a2] rfl (by (try simp only [List.map_toArray, List.map_cons, List.map_nil]); first | done | rfl | (simp only [List.length_drop, List.length_take]; rfl)) ?_; (with_reducible refine (words_Rank.calls a0 a2 t108 _ A28.out).mono ?_); rintro e w' ⟨rfl, ⟨nd, rfl⟩⟩; refine ⟨_, rfl, ?_⟩) | (go_at_call 13; (with_reducible refine (words_Rank.calls a0 a2 t109 _ A34.out).mono ?_); rintro e w' ⟨rfl, ⟨nd, rfl⟩⟩) | (go_at_call 15; (with_reducible refine (words_Select.calls a0 t109 t110 _ A35.out).mono ?_); rintro e w36 ⟨rfl, hb⟩; have n0_ := Aside0.mk (below_step (by repeat (first | (with_reducible first | exact HB.out | apply below_alloc | apply pw_below_drewN | apply below_drew1) | exact HB.out)) hb); clear HB; have HB := n0_; clear n0_; (try clear hb); (try clear hb2); (try clear hk); (try clear hi)))
                    go_ret
                    exact ⟨by first | rfl | (simp [errW_none, errW_some] <;> rfl) | (simp only [← hji29, ← hji31]; first | rfl | (simp [errW_none, errW_some] <;> rfl)) | (simp [*, errW_none, errW_some] <;> rfl), by repeat (first | (with_reducible first | exact HB.out | apply below_alloc | apply pw_below_drewN | apply below_drew1) | exact HB.out)⟩
                  · rw [if_neg c33] at H
                    have c33b0 : ((wrap64 (t107 - t108)) == 1) = false := beq_eq_false_iff_ne.mpr c33
                    have c33b1 : ((wrap64 (t107 - t108)) != 1) = true := bne_iff_ne.mpr c33
                    obtain rfl := Option.some.inj H
                    go_wp2_with (first | ((with_reducible refine gate_callee (f := 13) rfl ?_); refine goesL_ (some 71) rfl rfl Tryd.func13 (by kernel_rfl) rfl #[.int .u64 a0, .int .i64 (wrap64 (a2 + 1))] rfl (by (try simp only [List.map_toArray, List.map_cons, List.map_nil]); first | done | rfl | (simp only [List.length_drop, List.length_take]; rfl)) ?_; (with_reducible refine (words_Rank.calls a0 (wrap64 (a2 + 1)) t107 _ A27.out).mono ?_); rintro e w' ⟨rfl, ⟨nd, rfl⟩⟩; refine ⟨_, rfl, ?_⟩) | ((with_reducible refine gate_callee (f := 13) rfl ?_); refine goesL_ (some 74) rfl rfl Tryd.func13 (by kernel_rfl) rfl #[.int .u64 a0, .int .i64 a2] rfl (by (try simp only [List.map_toArray, List.map_cons, List.map_nil]); first | done | rfl | (simp only [List.length_drop, List.length_take]; rfl)) ?_; (with_reducible refine (words_Rank.calls a0 a2 t108 _ A28.out).mono ?_); rintro e w' ⟨rfl, ⟨nd, rfl⟩⟩; refine ⟨_, rfl, ?_⟩))
                    go_ret
                    exact ⟨by first | rfl | (simp [errW_none, errW_some] <;> rfl) | (simp only [← hji29, ← hji31]; first | rfl | (simp [errW_none, errW_some] <;> rfl)) | (simp [*, errW_none, errW_some] <;> rfl), by repeat (first | (with_reducible first | exact HB.out | apply below_alloc | apply pw_below_drewN | apply below_drew1) | exact HB.out)⟩
                · rw [if_neg c32] at H
                  have c32b0 : ((Go.bits .and .u64 (ji31) 1) == 1) = false := beq_eq_false_iff_ne.mpr c32
                  have c32b1 : ((Go.bits .and .u64 (ji31) 1) != 1) = true := bne_iff_ne.mpr c32
                  obtain rfl := Option.some.inj H
                  go_wp2_with (first | ((with_reducible refine gate_callee (f := 13) rfl ?_); refine goesL_ (some 71) rfl rfl Tryd.func13 (by kernel_rfl) rfl #[.int .u64 a0, .int .i64 (wrap64 (a2 + 1))] rfl (by (try simp only [List.map_toArray, List.map_cons, List.map_nil]); first | done | rfl | (simp only [List.length_drop, List.length_take]; rfl)) ?_; (with_reducible refine (words_Rank.calls a0 (wrap64 (a2 + 1)) t107 _ A27.out).mono ?_); rintro e w' ⟨rfl, ⟨nd, rfl⟩⟩; refine ⟨_, rfl, ?_⟩) | ((with_reducible refine gate_callee (f := 13) rfl ?_); refine goesL_ (some 74) rfl rfl Tryd.func13 (by kernel_rfl) rfl #[.int .u64 a0, .int .i64 a2] rfl (by (try simp only [List.map_toArray, List.map_cons, List.map_nil]); first | done | rfl | (simp only [List.length_drop, List.length_take]; rfl)) ?_; (with_reducible refine (words_Rank.calls a0 a2 t108 _ A28.out).mono ?_); rintro e w' ⟨rfl, ⟨nd, rfl⟩⟩; refine ⟨_, rfl, ?_⟩))
                  go_ret
                  exact ⟨by first | rfl | (simp [errW_none, errW_some] <;> rfl) | (simp only [← hji29, ← hji31]; first | rfl | (simp [errW_none, errW_some] <;> rfl)) | (simp [*, errW_none, errW_some] <;> rfl), by repeat (first | (with_reducible first | exact HB.out | apply below_alloc | apply pw_below_drewN | apply below_drew1) | exact HB.out)⟩
              · rw [if_neg c30] at H
                exact absurd H (by simp)

end Go.Proofs.YtjjnmpidlkjeiaaDoor.PWordsOrders
