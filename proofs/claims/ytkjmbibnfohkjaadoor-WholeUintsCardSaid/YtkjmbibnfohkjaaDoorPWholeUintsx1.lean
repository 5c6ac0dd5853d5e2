/- The machine side of a statement, laid by the kit's print program, run by wip/tools/gprint.py: some functions' contracts are given, proved by hand. -/
import Derived.Test.YtkjmbibnfohkjaaDoorPWholeUintsx0
namespace Go.Proofs.YtkjmbibnfohkjaaDoor.PWholeUints
open Go.RowKit Go.Proofs.YtkjmbibnfohkjaaDoorW.PrintWords Go.Proofs.YtkjmbibnfohkjaaDoorW.PrintLast Go.Proofs.YtkjmbibnfohkjaaDoorW.PrintMore
attribute [local go_sem] max2_int min2_int max_two min_two max_three min_three max_four min_four   -- for this text's walks alone
set_option linter.unusedVariables false
set_option linter.unusedSimpArgs false

/-! ### quarrylaw12_awake: function 31 -/
def quarrylaw12_awake.f  : Option (Bool) := (whole_Int_int8.f (⟨#[45, 49, 50, 56]⟩ : ByteArray)).bind fun bt101 => (if bt101.1 = (-128) then (some (bt101.2 == 0)) else (some false))
set_option maxHeartbeats 8000000 in
set_option maxRecDepth 100000 in
theorem quarrylaw12_awake.calls  (r : Bool) (w : World) (h : quarrylaw12_awake.f  = some r) (hT : TabW w := by first | exact hT | exact TabW.drewN hT _ | (refine TabW.below hT ?_; repeat (first | (with_reducible exact HB.out) | (with_reducible exact Below.refl _ _) | apply below_alloc | apply pw_below_drewN | apply below_drew1 | apply below_drew | assumption | refine below_set ?_ (Aside0.out (by assumption))))) :
    Calls Tryd.prog 31 #[] w fun e w' => e = .returned (.bool r) ∧ Below w.heap.size w w' := by
  have HB := Aside0.mk (Below.refl w.heap.size w)
  have H : ((whole_Int_int8.f (⟨#[45, 49, 50, 56]⟩ : ByteArray)).bind fun bt101 => (if bt101.1 = (-128) then (some (bt101.2 == 0)) else (some false))) = some r := h
  clear h
  replace H := Option.bind_eq_some_iff.mp H
  obtain ⟨⟨t101, t102⟩, A10, H⟩ := H
  replace H : (if t101 = (-128) then (some (t102 == 0)) else (some false)) = some r := H
  have A1 := Aside0.mk A10
  clear A10
  by_cases c2 : t101 = (-128)
  · rw [if_pos c2] at H
    have c2b0 : (t101 == (-128)) = true := beq_iff_eq.mpr c2
    have c2b1 : (t101 != (-128)) = false := bne_eq_false_iff_eq.mpr c2
    clear c2
    obtain rfl := Option.some.inj H
    go_enter Tryd.func31, Tryd.ntmps31
    go_wp2_with (first | ((with_reducible refine gate_callee (f := 23) rfl ?_); refine goesL_ (some 4) rfl rfl Tryd.func23 (by kernel_rfl) rfl #[.string (⟨#[45, 49, 50, 56]⟩ : ByteArray)] rfl (by (try simp only [List.map_toArray, List.map_cons, List.map_nil]); first | done | rfl | (simp only [List.length_drop, List.length_take]; rfl)) ?_; (with_reducible refine (whole_Int_int8.calls (⟨#[45, 49, 50, 56]⟩ : ByteArray) t101 t102 _ A1.out).mono ?_); rintro e w3 ⟨rfl, hb⟩; refine ⟨_, rfl, ?_⟩; have n0_ := Aside0.mk (below_step (by repeat (first | (with_reducible first | exact HB.out | apply below_alloc | apply pw_below_drewN | apply below_drew1) | exact HB.out)) hb); clear HB; have HB := n0_; clear n0_; (try clear hb); (try clear hb2); (try clear hk); (try clear hi)))
    go_ret
    exact ⟨by first | rfl | (simp [errW_none, errW_some] <;> rfl) | (simp [*, errW_none, errW_some] <;> rfl), by repeat (first | (with_reducible first | exact HB.out | apply below_alloc | apply pw_below_drewN | apply below_drew1) | exact HB.out)⟩
  · rw [if_neg c2] at H
    have c2b0 : (t101 == (-128)) = false := beq_eq_false_iff_ne.mpr c2
    have c2b1 : (t101 != (-128)) = true := bne_iff_ne.mpr c2
    obtain rfl := Option.some.inj H
    go_enter Tryd.func31, Tryd.ntmps31
    go_wp2_with (first | ((with_reducible refine gate_callee (f := 23) rfl ?_); refine goesL_ (some 4) rfl rfl Tryd.func23 (by kernel_rfl) rfl #[.string (⟨#[45, 49, 50, 56]⟩ : ByteArray)] rfl (by (try simp only [List.map_toArray, List.map_cons, List.map_nil]); first | done | rfl | (simp only [List.length_drop, List.length_take]; rfl)) ?_; (with_reducible refine (whole_Int_int8.calls (⟨#[45, 49, 50, 56]⟩ : ByteArray) t101 t102 _ A1.out).mono ?_); rintro e w4 ⟨rfl, hb⟩; refine ⟨_, rfl, ?_⟩; have n0_ := Aside0.mk (below_step (by repeat (first | (with_reducible first | exact HB.out | apply below_alloc | apply pw_below_drewN | apply below_drew1) | exact HB.out)) hb); clear HB; have HB := n0_; clear n0_; (try clear hb); (try clear hb2); (try clear hk); (try clear hi)))
    go_ret
    exact ⟨by first | rfl | (simp [errW_none, errW_some] <;> rfl) | (simp [*, errW_none, errW_some] <;> rfl), by repeat (first | (with_reducible first | exact HB.out | apply below_alloc | apply pw_below_drewN | apply below_drew1) | exact HB.out)⟩

/-! ### quarryref11_is: function 138 -/
def quarryref11_is.f (a0 : ByteArray) (a1 : Int) (a2 : Int) (a3 : Int) : Option (Bool) := if a1 < (a0.size : Int) then (if 0 ≤ a1 then (if (bt a0 a1) = a2 then (some true) else (some ((bt a0 a1) == a3))) else (none)) else (some false)
set_option maxHeartbeats 8000000 in
set_option maxRecDepth 100000 in
theorem quarryref11_is.calls (a0 : ByteArray) (a1 : Int) (a2 : Int) (a3 : Int) (r : Bool) (w : World) (h : quarryref11_is.f a0 a1 a2 a3 = some r) (hT : TabW w := by first | exact hT | exact TabW.drewN hT _ | (refine TabW.below hT ?_; repeat (first | (with_reducible exact HB.out) | (with_reducible exact Below.refl _ _) | apply below_alloc | apply pw_below_drewN | apply below_drew1 | apply below_drew | assumption | refine below_set ?_ (Aside0.out (by assumption))))) :
    Calls Tryd.prog 138 #[.string a0, .int .i64 a1, .int .u8 a2, .int .u8 a3] w fun e w' => e = .returned (.bool r) ∧ Drawn0 w w' := by
  have H : (if a1 < (a0.size : Int) then (if 0 ≤ a1 then (if (bt a0 a1) = a2 then (some true) else (some ((bt a0 a1) == a3))) else (none)) else (some false)) = some r := h
  clear h
  by_cases c5 : a1 < (a0.size : Int)
  · rw [if_pos c5] at H
    have c5b0 : decide (a1 < (a0.size : Int)) = true := decide_eq_true c5
    clear c5
    by_cases c6 : 0 ≤ a1
    · rw [if_pos c6] at H
      have c6b0 : decide (0 ≤ a1) = true := decide_eq_true c6
      clear c6
      by_cases c8 : (bt a0 a1) = a2
      · rw [if_pos c8] at H
        have c8b0 : ((bt a0 a1) == a2) = true := beq_iff_eq.mpr c8
        have c8b1 : ((bt a0 a1) != a2) = false := bne_eq_false_iff_eq.mpr c8
        clear c8
        obtain rfl := Option.some.inj H
        have p7 : 0 ≤ (a1 : Int) := of_decide_eq_true (by first | (with_reducible assumption) | assumption)
        have q7 : a1 < (a0.size : Int) := of_decide_eq_true (by first | (with_reducible assumption) | assumption)
        have hx7 := bt_at a0 a1
        replace p7 := eq_true p7
        replace q7 := eq_true q7
        go_enter Tryd.func138, Tryd.ntmps138
        go_wp2
        go_ret
        exact ⟨by first | rfl | (simp; done) | (simp [*]; done), by repeat (first | exact Drawn0.refl _ | apply Drawn0.step)⟩
      · rw [if_neg c8] at H
        have c8b0 : ((bt a0 a1) == a2) = false := beq_eq_false_iff_ne.mpr c8
        have c8b1 : ((bt a0 a1) != a2) = true := bne_iff_ne.mpr c8
        obtain rfl := Option.some.inj H
        have p7 : 0 ≤ (a1 : Int) := of_decide_eq_true (by first | (with_reducible assumption) | assumption)
        have q7 : a1 < (a0.size : Int) := of_decide_eq_true (by first | (with_reducible assumption) | assumption)
        have hx7 := bt_at a0 a1
        replace p7 := eq_true p7
        replace q7 := eq_true q7
        have p9 : 0 ≤ (a1 : Int) := of_decide_eq_true (by first | (with_reducible assumption) | assumption)
        have q9 : a1 < (a0.size : Int) := of_decide_eq_true (by first | (with_reducible assumption) | assumption)
        have hx9 := bt_at a0 a1
        replace p9 := eq_true p9
        replace q9 := eq_true q9
        go_enter Tryd.func138, Tryd.ntmps138
        go_wp2
        go_ret
        exact ⟨by first | rfl | (simp; done) | (simp [*]; done), by repeat (first | exact Drawn0.refl _ | apply Drawn0.step)⟩
    · rw [if_neg c6] at H
      exact absurd H (by simp)
  · rw [if_neg c5] at H
    have c5b0 : decide (a1 < (a0.size : Int)) = false := decide_eq_false c5
    clear c5
    obtain rfl := Option.some.inj H
    go_enter Tryd.func138, Tryd.ntmps138
    go_wp2
    go_ret
    exact ⟨by first | rfl | (simp; done) | (simp [*]; done), by repeat (first | exact Drawn0.refl _ | apply Drawn0.step)⟩

/-! ### quarryref11_digit: function 139 -/
def quarryref11_digit.f (a0 : ByteArray) (a1 : Int) : Option (Bool) := if a1 < (a0.size : Int) then (if 0 ≤ a1 then (if (bt a0 a1) ≥ 48 then (some (decide ((bt a0 a1) ≤ 57))) else (some false)) else (none)) else (some false)
set_option maxHeartbeats 8000000 in
set_option maxRecDepth 100000 in
theorem quarryref11_digit.calls (a0 : ByteArray) (a1 : Int) (r : Bool) (w : World) (h : quarryref11_digit.f a0 a1 = some r) (hT : TabW w := by first | exact hT | exact TabW.drewN hT _ | (refine TabW.below hT ?_; repeat (first | (with_reducible exact HB.out) | (with_reducible exact Below.refl _ _) | apply below_alloc | apply pw_below_drewN | apply below_drew1 | apply below_drew | assumption | refine below_set ?_ (Aside0.out (by assumption))))) :
    Calls Tryd.prog 139 #[.string a0, .int .i64 a1] w fun e w' => e = .returned (.bool r) ∧ Drawn0 w w' := by
  have H : (if a1 < (a0.size : Int) then (if 0 ≤ a1 then (if (bt a0 a1) ≥ 48 then (some (decide ((bt a0 a1) ≤ 57))) else (some false)) else (none)) else (some false)) = some r := h
  clear h
  by_cases c3 : a1 < (a0.size : Int)
  · rw [if_pos c3] at H
    have c3b0 : decide (a1 < (a0.size : Int)) = true := decide_eq_true c3
    clear c3
    by_cases c4 : 0 ≤ a1
    · rw [if_pos c4] at H
      have c4b0 : decide (0 ≤ a1) = true := decide_eq_true c4
      clear c4
      by_cases c6 : (bt a0 a1) ≥ 48
      · rw [if_pos c6] at H
        have c6b0 : decide (48 ≤ (bt a0 a1)) = true := decide_eq_true c6
        clear c6
        obtain rfl := Option.some.inj H
        have p5 : 0 ≤ (a1 : Int) := of_decide_eq_true (by first | (with_reducible assumption) | assumption)
        have q5 : a1 < (a0.size : Int) := of_decide_eq_true (by first | (with_reducible assumption) | assumption)
        have hx5 := bt_at a0 a1
        replace p5 := eq_true p5
        replace q5 := eq_true q5
        have p7 : 0 ≤ (a1 : Int) := of_decide_eq_true (by first | (with_reducible assumption) | assumption)
        have q7 : a1 < (a0.size : Int) := of_decide_eq_true (by first | (with_reducible assumption) | assumption)
        have hx7 := bt_at a0 a1
        replace p7 := eq_true p7
        replace q7 := eq_true q7
        go_enter Tryd.func139, Tryd.ntmps139
        go_wp2
        go_ret
        exact ⟨by first | rfl | (simp; done) | (simp [*]; done), by repeat (first | exact Drawn0.refl _ | apply Drawn0.step)⟩
      · rw [if_neg c6] at H
        have c6b0 : decide (48 ≤ (bt a0 a1)) = false := decide_eq_false c6
        clear c6
        obtain rfl := Option.some.inj H
        have p5 : 0 ≤ (a1 : Int) := of_decide_eq_true (by first | (with_reducible assumption) | assumption)
        have q5 : a1 < (a0.size : Int) := of_decide_eq_true (by first | (with_reducible assumption) | assumption)
        have hx5 := bt_at a0 a1
        replace p5 := eq_true p5
        replace q5 := eq_true q5
        go_enter Tryd.func139, Tryd.ntmps139
        go_wp2
        go_ret
        exact ⟨by first | rfl | (simp; done) | (simp [*]; done), by repeat (first | exact Drawn0.refl _ | apply Drawn0.step)⟩
    · rw [if_neg c4] at H
      exact absurd H (by simp)
  · rw [if_neg c3] at H
    have c3b0 : decide (a1 < (a0.size : Int)) = false := decide_eq_false c3
    clear c3
    obtain rfl := Option.some.inj H
    go_enter Tryd.func139, Tryd.ntmps139
    go_wp2
    go_ret
    exact ⟨by first | rfl | (simp; done) | (simp [*]; done), by repeat (first | exact Drawn0.refl _ | apply Drawn0.step)⟩

/-! ### quarryref11_digits: function 140 -/
def quarryref11_digits.l0 : Nat → ByteArray → Int → Option (Int)
  | 0, _, _ => none
  | k + 1, x0, x1 => (quarryref11_digit.f x0 x1).bind fun t103 => (if t103 = true then (quarryref11_digits.l0 k x0 (wrap64 (x1 + 1))) else (some x1))
def quarryref11_digits.f (k : Nat) (a0 : ByteArray) (a1 : Int) : Option (Int) := quarryref11_digits.l0 k a0 a1
theorem quarryref11_digits.mono_l : ∀ k, (∀ y0 y1, LeO (quarryref11_digits.l0 k y0 y1) (quarryref11_digits.l0 (k + 1) y0 y1))
  | 0 => fun _ _ r h => by simp [quarryref11_digits.l0] at h
  | k + 1 => by
    have ih0 := quarryref11_digits.mono_l k
    · intro y0 y1
      unfold quarryref11_digits.l0
      repeat' first
      | (with_reducible exact ih0 _ _)
      | (with_reducible exact LeO.refl _)
      | (with_reducible exact LeO.none _)
      | (with_reducible refine LeO.ite ?_ ?_)
      | (with_reducible refine LeO.bind ?_ (fun _ => ?_))
      | exact ih0 _ _
      | exact LeO.none _
      | refine LeO.ite ?_ ?_
      | refine LeO.bind ?_ (fun _ => ?_)
theorem quarryref11_digits.mono : ∀ a0 a1 k, LeO (quarryref11_digits.f k a0 a1) (quarryref11_digits.f (k + 1) a0 a1) := by
  intro a0 a1 k
  have ih0 := quarryref11_digits.mono_l k
  unfold quarryref11_digits.f
  repeat' first
      | (with_reducible exact ih0 _ _)
      | (with_reducible exact LeO.refl _)
      | (with_reducible exact LeO.none _)
      | (with_reducible refine LeO.ite ?_ ?_)
      | (with_reducible refine LeO.bind ?_ (fun _ => ?_))
      | exact ih0 _ _
      | exact LeO.none _
      | refine LeO.ite ?_ ?_
      | refine LeO.bind ?_ (fun _ => ?_)
set_option maxHeartbeats 8000000 in
set_option maxRecDepth 100000 in
theorem quarryref11_digits.calls (k : Nat) (a0 : ByteArray) (a1 : Int) (r : Int) (w : World) (h : quarryref11_digits.f k a0 a1 = some r) (hT : TabW w := by first | exact hT | exact TabW.drewN hT _ | (refine TabW.below hT ?_; repeat (first | (with_reducible exact HB.out) | (with_reducible exact Below.refl _ _) | apply below_alloc | apply pw_below_drewN | apply below_drew1 | apply below_drew | assumption | refine below_set ?_ (Aside0.out (by assumption))))) :
    Calls Tryd.prog 140 #[.string a0, .int .i64 a1] w fun e w' => e = .returned (.int .i64 r) ∧ Drawn0 w w' := by
  have H : (quarryref11_digits.l0 k a0 a1) = some r := h
  clear h
  have H' := Aside0.mk H
  clear H
  go_enter Tryd.func140, Tryd.ntmps140
  go_wp2
  go_loopg [1] k (fun kq v1 w' => ∃ (x1_1 : Int), v1 = .int .i64 x1_1 ∧ Aside0 (quarryref11_digits.l0 kq a0 x1_1 = some r) ∧ Aside0 (kq ≤ k) ∧ Drawn0 w w')
  case atStart => exact ⟨(a1), (by first | rfl | (simp; done) | (simp [*]; done)), H', ⟨Nat.le_refl _⟩, by repeat (first | exact Drawn0.refl _ | apply Drawn0.step)⟩
  case round =>
    clear H'
    try clear c1
    try clear p2
    obtain ⟨x1_1, rfl, HA, HK1, ⟨m1, rfl⟩⟩ := hrel
    cases gk with
    | zero => exact absurd HA.out (by simp [quarryref11_digits.l0])
    | succ k1 =>
      have H := HA.out
      clear HA
      simp only [quarryref11_digits.l0] at H
      replace H := Option.bind_eq_some_iff.mp H
      obtain ⟨t103, A30, H⟩ := H
      replace H : (if t103 = true then (quarryref11_digits.l0 k1 a0 (wrap64 (x1_1 + 1))) else (some x1_1)) = some r := H
      have A3 := Aside0.mk A30
      clear A30
      by_cases c4 : t103 = true
      · subst c4
        have H1 : (quarryref11_digits.l0 k1 a0 (wrap64 (x1_1 + 1))) = some r := by rw [if_pos rfl] at H; exact H
        clear H
        have H := H1
        clear H1
        have H' := Aside0.mk H
        clear H
        go_wp2_with (first | ((with_reducible refine gate_callee (f := 139) rfl ?_); refine goesL_ (some 7) rfl rfl Tryd.func139 (by kernel_rfl) rfl #[.string a0, .int .i64 x1_1] rfl (by (try simp only [List.map_toArray, List.map_cons, List.map_nil]); first | done | rfl | (simp only [List.length_drop, List.length_take]; rfl)) ?_; (with_reducible refine (quarryref11_digit.calls a0 x1_1 true _ A3.out).mono ?_); rintro e w' ⟨rfl, ⟨nd, rfl⟩⟩; refine ⟨_, rfl, ?_⟩))
        go_roundg k1
        case measure => have := HK1.out; omega
        case rel => exact ⟨(wrap64 (x1_1 + 1)), (by first | rfl | (simp; done) | (simp [*]; done)), H', ⟨by have := HK1.out; omega⟩, by repeat (first | exact Drawn0.refl _ | apply Drawn0.step)⟩
      · replace c4 := Bool.eq_false_iff.mpr c4
        subst c4
        have H1 : (some x1_1) = some r := by rw [if_neg (show ¬ (false = true) by decide)] at H; exact H
        clear H
        have H := H1
        clear H1
        obtain rfl := Option.some.inj H
        go_wp2_with (first | ((with_reducible refine gate_callee (f := 139) rfl ?_); refine goesL_ (some 7) rfl rfl Tryd.func139 (by kernel_rfl) rfl #[.string a0, .int .i64 x1_1] rfl (by (try simp only [List.map_toArray, List.map_cons, List.map_nil]); first | done | rfl | (simp only [List.length_drop, List.length_take]; rfl)) ?_; (with_reducible refine (quarryref11_digit.calls a0 x1_1 false _ A3.out).mono ?_); rintro e w' ⟨rfl, ⟨nd, rfl⟩⟩; refine ⟨_, rfl, ?_⟩))
        go_ret
        exact ⟨by first | rfl | (simp; done) | (simp [*]; done), by repeat (first | exact Drawn0.refl _ | apply Drawn0.step)⟩

/-! ### quarryref11_scan: function 128 -/
mutual
def quarryref11_scan.j0 : Nat → ByteArray → Int → Bool → ByteArray → ByteArray → ByteArray → Option (Bool × ByteArray × ByteArray × ByteArray × Int × Bool)
  | 0, _, _, _, _, _, _ => none
  | k + 1, x0, x1, x106000, x106001, x106002, x106003 => (quarryref11_digit.f x0 x1).bind fun t107 => (if t107 = true then ((quarryref11_digits.f k x0 x1).bind fun t108 => (if 0 ≤ x1 then (if x1 < (x0.size : Int) then (if (bt x0 x1) = 48 then (quarryref11_scan.j1 k x0 x1 (wrap64 (x1 + 1)) x106000 x106001 x106002 x106003) else (quarryref11_scan.j1 k x0 x1 t108 x106000 x106001 x106002 x106003)) else (none)) else (none))) else (some (x106000, x106001, x106002, x106003, x1, false)))
def quarryref11_scan.j1 : Nat → ByteArray → Int → Int → Bool → ByteArray → ByteArray → ByteArray → Option (Bool × ByteArray × ByteArray × ByteArray × Int × Bool)
  | 0, _, _, _, _, _, _, _ => none
  | k + 1, x0, x1, x8, x106000, x106001, x106002, x106003 => if 0 ≤ x1 then (if x1 ≤ x8 then (if x8 ≤ (x0.size : Int) then ((quarryref11_is.f x0 x8 46 46).bind fun t109 => (if t109 = true then ((quarryref11_digits.f k x0 (wrap64 (x8 + 1))).bind fun t110 => (if t110 = (wrap64 (x8 + 1)) then (some (x106000, x0.extract (x1 : Int).toNat (x8 : Int).toNat, x106002, x106003, t110, false)) else (if 0 ≤ (wrap64 (x8 + 1)) then (if (wrap64 (x8 + 1)) ≤ t110 then (if t110 ≤ (x0.size : Int) then (quarryref11_scan.j2 k x0 t110 x106000 (x0.extract (x1 : Int).toNat (x8 : Int).toNat) (x0.extract ((wrap64 (x8 + 1)) : Int).toNat (t110 : Int).toNat) x106003) else (none)) else (none)) else (none)))) else (quarryref11_scan.j2 k x0 x8 x106000 (x0.extract (x1 : Int).toNat (x8 : Int).toNat) x106002 x106003))) else (none)) else (none)) else (none)
def quarryref11_scan.j2 : Nat → ByteArray → Int → Bool → ByteArray → ByteArray → ByteArray → Option (Bool × ByteArray × ByteArray × ByteArray × Int × Bool)
  | 0, _, _, _, _, _, _ => none
  | k + 1, x0, x1, x106000, x106001, x106002, x106003 => (quarryref11_is.f x0 x1 101 69).bind fun t111 => (if t111 = true then ((quarryref11_is.f x0 (wrap64 (x1 + 1)) 43 45).bind fun t112 => (if t112 = true then ((quarryref11_digits.f k x0 (wrap64 ((wrap64 (x1 + 1)) + 1))).bind fun t113 => (if t113 = (wrap64 ((wrap64 (x1 + 1)) + 1)) then (some (x106000, x106001, x106002, x106003, t113, false)) else (if 0 ≤ (wrap64 (x1 + 1)) then (if (wrap64 (x1 + 1)) ≤ t113 then (if t113 ≤ (x0.size : Int) then (some (x106000, x106001, x106002, x0.extract ((wrap64 (x1 + 1)) : Int).toNat (t113 : Int).toNat, t113, true)) else (none)) else (none)) else (none)))) else ((quarryref11_digits.f k x0 (wrap64 (x1 + 1))).bind fun t114 => (if t114 = (wrap64 (x1 + 1)) then (some (x106000, x106001, x106002, x106003, t114, false)) else (if 0 ≤ (wrap64 (x1 + 1)) then (if (wrap64 (x1 + 1)) ≤ t114 then (if t114 ≤ (x0.size : Int) then (some (x106000, x106001, x106002, x0.extract ((wrap64 (x1 + 1)) : Int).toNat (t114 : Int).toNat, t114, true)) else (none)) else (none)) else (none)))))) else (some (x106000, x106001, x106002, x106003, x1, true)))
end
def quarryref11_scan.f (k : Nat) (a0 : ByteArray) (a1 : Int) : Option (Bool × ByteArray × ByteArray × ByteArray × Int × Bool) := (quarryref11_is.f a0 a1 45 45).bind fun t106 => (if t106 = true then (quarryref11_scan.j0 k a0 (wrap64 (a1 + 1)) true (⟨#[]⟩ : ByteArray) (⟨#[]⟩ : ByteArray) (⟨#[]⟩ : ByteArray)) else (quarryref11_scan.j0 k a0 a1 false (⟨#[]⟩ : ByteArray) (⟨#[]⟩ : ByteArray) (⟨#[]⟩ : ByteArray)))
theorem quarryref11_scan.mono_l : ∀ k, (∀ y0 y1 y2 y3 y4 y5, LeO (quarryref11_scan.j0 k y0 y1 y2 y3 y4 y5) (quarryref11_scan.j0 (k + 1) y0 y1 y2 y3 y4 y5)) ∧ (∀ y0 y1 y2 y3 y4 y5 y6, LeO (quarryref11_scan.j1 k y0 y1 y2 y3 y4 y5 y6) (quarryref11_scan.j1 (k + 1) y0 y1 y2 y3 y4 y5 y6)) ∧ (∀ y0 y1 y2 y3 y4 y5, LeO (quarryref11_scan.j2 k y0 y1 y2 y3 y4 y5) (quarryref11_scan.j2 (k + 1) y0 y1 y2 y3 y4 y5))
  | 0 => ⟨fun _ _ _ _ _ _ r h => by simp [quarryref11_scan.j0] at h, fun _ _ _ _ _ _ _ r h => by simp [quarryref11_scan.j1] at h, fun _ _ _ _ _ _ r h => by simp [quarryref11_scan.j2] at h⟩
  | k + 1 => by
    obtain ⟨ih0, ih1, ih2⟩ := quarryref11_scan.mono_l k
    refine ⟨?_, ?_, ?_⟩
    · intro y0 y1 y2 y3 y4 y5
      unfold quarryref11_scan.j0
      repeat' first
      | (with_reducible exact ih0 _ _ _ _ _ _)
      | (with_reducible exact ih1 _ _ _ _ _ _ _)
      | (with_reducible exact ih2 _ _ _ _ _ _)
      | (with_reducible exact quarryref11_digits.mono _ _ _)
      | (with_reducible exact LeO.refl _)
      | (with_reducible exact LeO.none _)
      | (with_reducible refine LeO.ite ?_ ?_)
      | (with_reducible refine LeO.bind ?_ (fun _ => ?_))
      | exact ih0 _ _ _ _ _ _
      | exact ih1 _ _ _ _ _ _ _
      | exact ih2 _ _ _ _ _ _
      | exact quarryref11_digits.mono _ _ _
      | exact LeO.none _
      | refine LeO.ite ?_ ?_
      | refine LeO.bind ?_ (fun _ => ?_)
    · intro y0 y1 y2 y3 y4 y5 y6
      unfold quarryref11_scan.j1
      repeat' first
      | (with_reducible exact ih0 _ _ _ _ _ _)
      | (with_reducible exact ih1 _ _ _ _ _ _ _)
      | (with_reducible exact ih2 _ _ _ _ _ _)
      | (with_reducible exact quarryref11_digits.mono _ _ _)
      | (with_reducible exact LeO.refl _)
      | (with_reducible exact LeO.none _)
      | (with_reducible refine LeO.ite ?_ ?_)
      | (with_reducible refine LeO.bind ?_ (fun _ => ?_))
      | exact ih0 _ _ _ _ _ _
      | exact ih1 _ _ _ _ _ _ _
      | exact ih2 _ _ _ _ _ _
      | exact quarryref11_digits.mono _ _ _
      | exact LeO.none _
      | refine LeO.ite ?_ ?_
      | refine LeO.bind ?_ (fun _ => ?_)
    · intro y0 y1 y2 y3 y4 y5
      unfold quarryref11_scan.j2
      repeat' first
      | (with_reducible exact ih0 _ _ _ _ _ _)
      | (with_reducible exact ih1 _ _ _ _ _ _ _)
      | (with_reducible exact ih2 _ _ _ _ _ _)
      | (with_reducible exact quarryref11_digits.mono _ _ _)
      | (with_reducible exact LeO.refl _)
      | (with_reducible exact LeO.none _)
      | (with_reducible refine LeO.ite ?_ ?_)
      | (with_reducible refine LeO.bind ?_ (fun _ => ?_))
      | exact ih0 _ _ _ _ _ _
      | exact ih1 _ _ _ _ _ _ _
      | exact ih2 _ _ _ _ _ _
      | exact quarryref11_digits.mono _ _ _
      | exact LeO.none _
      | refine LeO.ite ?_ ?_
      | refine LeO.bind ?_ (fun _ => ?_)
theorem quarryref11_scan.mono : ∀ a0 a1 k, LeO (quarryref11_scan.f k a0 a1) (quarryref11_scan.f (k + 1) a0 a1) := by
  intro a0 a1 k
  obtain ⟨ih0, ih1, ih2⟩ := quarryref11_scan.mono_l k
  unfold quarryref11_scan.f
  repeat' first
      | (with_reducible exact ih0 _ _ _ _ _ _)
      | (with_reducible exact ih1 _ _ _ _ _ _ _)
      | (with_reducible exact ih2 _ _ _ _ _ _)
      | (with_reducible exact quarryref11_digits.mono _ _ _)
      | (with_reducible exact LeO.refl _)
      | (with_reducible exact LeO.none _)
      | (with_reducible refine LeO.ite ?_ ?_)
      | (with_reducible refine LeO.bind ?_ (fun _ => ?_))
      | exact ih0 _ _ _ _ _ _
      | exact ih1 _ _ _ _ _ _ _
      | exact ih2 _ _ _ _ _ _
      | exact quarryref11_digits.mono _ _ _
      | exact LeO.none _
      | refine LeO.ite ?_ ?_
      | refine LeO.bind ?_ (fun _ => ?_)
set_option maxHeartbeats 8000000 in
set_option maxRecDepth 100000 in
theorem quarryref11_scan.calls (k : Nat) (a0 : ByteArray) (a1 : Int) (r1 : Bool) (r2 : ByteArray) (r3 : ByteArray) (r4 : ByteArray) (r5 : Int) (r6 : Bool) (w : World) (h : quarryref11_scan.f k a0 a1 = some (r1, r2, r3, r4, r5, r6)) (hT : TabW w := by first | exact hT | exact TabW.drewN hT _ | (refine TabW.below hT ?_; repeat (first | (with_reducible exact HB.out) | (with_reducible exact Below.refl _ _) | apply below_alloc | apply pw_below_drewN | apply below_drew1 | apply below_drew | assumption | refine below_set ?_ (Aside0.out (by assumption))))) :
    Calls Tryd.prog 128 #[.string a0, .int .i64 a1] w fun e w' => e = .returned (.tuple #[.agg #[.bool r1, .string r2, .string r3, .string r4], .int .i64 r5, .bool r6]) ∧ Below w.heap.size w w' := by
  have hu147 := Tryd.underlying147
  have HB := Aside0.mk (Below.refl w.heap.size w)
  have H : ((quarryref11_is.f a0 a1 45 45).bind fun t106 => (if t106 = true then (quarryref11_scan.j0 k a0 (wrap64 (a1 + 1)) true (⟨#[]⟩ : ByteArray) (⟨#[]⟩ : ByteArray) (⟨#[]⟩ : ByteArray)) else (quarryref11_scan.j0 k a0 a1 false (⟨#[]⟩ : ByteArray) (⟨#[]⟩ : ByteArray) (⟨#[]⟩ : ByteArray)))) = some (r1, r2, r3, r4, r5, r6) := h
  clear h
  replace H := Option.bind_eq_some_iff.mp H
  obtain ⟨t106, A30, H⟩ := H
  replace H : (if t106 = true then (quarryref11_scan.j0 k a0 (wrap64 (a1 + 1)) true (⟨#[]⟩ : ByteArray) (⟨#[]⟩ : ByteArray) (⟨#[]⟩ : ByteArray)) else (quarryref11_scan.j0 k a0 a1 false (⟨#[]⟩ : ByteArray) (⟨#[]⟩ : ByteArray) (⟨#[]⟩ : ByteArray))) = some (r1, r2, r3, r4, r5, r6) := H
  have A3 := Aside0.mk A30
  clear A30
  have HC4 := Aside0.mk H
  clear H
  go_enter Tryd.func128, Tryd.ntmps128
  go_upto_if 13 with (first | ((with_reducible refine gate_dst (N := 4) rfl ?_); refine box_event ?hg (N := 4) ?hd (cs := #[.bool false, .string (⟨#[]⟩ : ByteArray), .string (⟨#[]⟩ : ByteArray), .string (⟨#[]⟩ : ByteArray)]) (t := 147) ?hr ?_; (case hd => rfl); (case hg => rfl); (case hr => first | (go_simp; done) | (go_simp; rfl)); intro gb104 hg w5 hbox hb; have n0_ := Aside0.mk (below_step (by repeat (first | (with_reducible first | exact HB.out | apply below_alloc | apply pw_below_drewN | apply below_drew1) | exact HB.out)) hb); have n1_ := Aside0.mk (hbox); have n2_ := Aside0.mk ((by rw [hg]; exact (below_size (by repeat (first | (with_reducible first | exact HB.out | apply below_alloc | apply pw_below_drewN | apply below_drew1) | exact HB.out))) : w.heap.size ≤ gb104)); have n3_ := Aside0.mk ((by rw [hg]; exact (below_size (by repeat (first | (with_reducible first | exact HB.out | apply below_alloc | apply pw_below_drewN | apply below_drew1) | exact HB.out))) : w.heap.size ≤ gb104)); clear HB; have HB := n0_; have BK104 := n1_; have GW104 := n2_; have GE104 := n3_; clear n0_ n1_ n2_ n3_; clear hb hbox hg) | ((with_reducible refine gate_dst (N := 7) rfl ?_); refine box_event ?hg (N := 7) ?hd (cs := #[.bool false, .string (⟨#[]⟩ : ByteArray), .string (⟨#[]⟩ : ByteArray), .string (⟨#[]⟩ : ByteArray)]) (t := 147) ?hr ?_; (case hd => rfl); (case hg => rfl); (case hr => first | (go_simp; done) | (go_simp; rfl)); intro gb105 hg w6 hbox hb; have n0_ := Aside0.mk (blk_below (g := gb104) (o := .cells #[.bool false, .string (⟨#[]⟩ : ByteArray), .string (⟨#[]⟩ : ByteArray), .string (⟨#[]⟩ : ByteArray)] 147 (0, 0)) (by (with_reducible repeat (first | refine blk_drewN ?_ _ | refine blk_drew ?_ | refine blk_alloc ?_ _)); exact BK104.out) hb); have n1_ := Aside0.mk (below_step (by repeat (first | (with_reducible first | exact HB.out | apply below_alloc | apply pw_below_drewN | apply below_drew1 | refine below_set ?_ GE104.out) | exact HB.out)) hb); have n2_ := Aside0.mk (hbox); have n3_ := Aside0.mk ((by rw [hg]; exact (below_size (by repeat (first | (with_reducible first | exact HB.out | apply below_alloc | apply pw_below_drewN | apply below_drew1 | refine below_set ?_ GE104.out) | exact HB.out))) : w.heap.size ≤ gb105)); have n4_ := Aside0.mk ((by rw [hg]; exact (below_size (by repeat (first | (with_reducible first | exact HB.out | apply below_alloc | apply pw_below_drewN | apply below_drew1 | refine below_set ?_ GE104.out) | exact HB.out))) : w.heap.size ≤ gb105)); have n5_ := Aside0.mk ((by rw [hg]; exact Nat.ne_of_lt (blk_lt (g := gb104) (o := .cells #[.bool false, .string (⟨#[]⟩ : ByteArray), .string (⟨#[]⟩ : ByteArray), .string (⟨#[]⟩ : ByteArray)] 147 (0, 0)) (by (with_reducible repeat (first | refine blk_drewN ?_ _ | refine blk_drew ?_ | refine blk_alloc ?_ _)); exact BK104.out)) : gb104 ≠ gb105)); have n6_ := Aside0.mk ((by rw [hg]; exact Nat.ne_of_gt (blk_lt (g := gb104) (o := .cells #[.bool false, .string (⟨#[]⟩ : ByteArray), .string (⟨#[]⟩ : ByteArray), .string (⟨#[]⟩ : ByteArray)] 147 (0, 0)) (by (with_reducible repeat (first | refine blk_drewN ?_ _ | refine blk_drew ?_ | refine blk_alloc ?_ _)); exact BK104.out)) : gb105 ≠ gb104)); clear BK104; clear HB; have BK104 := n0_; have HB := n1_; have BK105 := n2_; have GW105 := n3_; have GE105 := n4_; have NB104_105 := n5_; have NB105_104 := n6_; clear n0_ n1_ n2_ n3_ n4_ n5_ n6_; clear hb hbox hg) | ((with_reducible refine gate_callee (f := 138) rfl ?_); refine goesL_ (some 13) rfl rfl Tryd.func138 (by kernel_rfl) rfl #[.string a0, .int .i64 a1, .int .u8 45, .int .u8 45] rfl (by (try simp only [List.map_toArray, List.map_cons, List.map_nil]); first | done | rfl | (simp only [List.length_drop, List.length_take]; rfl)) ?_; (with_reducible refine (quarryref11_is.calls a0 a1 45 45 t106 _ A3.out).mono ?_); rintro e w' ⟨rfl, ⟨nd, rfl⟩⟩; refine ⟨_, rfl, ?_⟩))
  (try simp only [Act.put, List.setIfInBounds_toArray, List.set_cons_zero, List.set_cons_succ])
  go_cut [1] (fun v1 wc => ∃ (kq : Nat) (x1_3 : Int) (x106000_3 : Bool), v1 = .int .i64 x1_3 ∧ Aside0 (quarryref11_scan.j0 kq a0 x1_3 x106000_3 (⟨#[]⟩ : ByteArray) (⟨#[]⟩ : ByteArray) (⟨#[]⟩ : ByteArray) = some (r1, r2, r3, r4, r5, r6)) ∧ Aside0 (kq ≤ k) ∧ Aside0 (wc.heap[gb104]? = some (.cells #[.bool false, .string (⟨#[]⟩ : ByteArray), .string (⟨#[]⟩ : ByteArray), .string (⟨#[]⟩ : ByteArray)] 147 (0, 0))) ∧ Aside0 (wc.heap[gb105]? = some (.cells #[.bool x106000_3, .string (⟨#[]⟩ : ByteArray), .string (⟨#[]⟩ : ByteArray), .string (⟨#[]⟩ : ByteArray)] 147 (0, 0))) ∧ Aside0 (Below w.heap.size w wc))
  case first =>
    have H := HC4.out
    clear HC4
    by_cases c7 : t106 = true
    · subst c7
      have H1 : (quarryref11_scan.j0 k a0 (wrap64 (a1 + 1)) true (⟨#[]⟩ : ByteArray) (⟨#[]⟩ : ByteArray) (⟨#[]⟩ : ByteArray)) = some (r1, r2, r3, r4, r5, r6) := by rw [if_pos rfl] at H; exact H
      clear H
      have H := H1
      clear H1
      have H' := Aside0.mk H
      clear H
      have hnb8 := NB105_104.out
      have hnc8 := NB104_105.out
      have hcz9_0 : w6.cell? ⟨gb105, 0, none⟩ = some (.bool false) := (blk_cell BK105.out 0).trans rfl
      have hcz9_1 : w6.cell? ⟨gb105, 1, none⟩ = some (.string (⟨#[]⟩ : ByteArray)) := (blk_cell BK105.out 1).trans rfl
      have hcz9_2 : w6.cell? ⟨gb105, 2, none⟩ = some (.string (⟨#[]⟩ : ByteArray)) := (blk_cell BK105.out 2).trans rfl
      have hcz9_3 : w6.cell? ⟨gb105, 3, none⟩ = some (.string (⟨#[]⟩ : ByteArray)) := (blk_cell BK105.out 3).trans rfl
      have hfz9_0 := blk_frozen BK105.out 0
      have hfz9_1 := blk_frozen BK105.out 1
      have hfz9_2 := blk_frozen BK105.out 2
      have hfz9_3 := blk_frozen BK105.out 3
      go_wp2
      go_meet
      case rel => exact ⟨_, (wrap64 (a1 + 1)), (true), (by first | rfl | (simp; done) | (simp [*]; done)), H', ⟨by first | omega | exact Nat.le_refl _⟩, ⟨by (with_reducible repeat (first | refine blk_drewN ?_ _ | refine blk_drew ?_ | refine blk_alloc ?_ _)); refine blk_far ?_ NB104_105.out _; (with_reducible repeat (first | refine blk_drewN ?_ _ | refine blk_drew ?_ | refine blk_alloc ?_ _)); exact BK104.out⟩, ⟨by (with_reducible repeat (first | refine blk_drewN ?_ _ | refine blk_drew ?_ | refine blk_alloc ?_ _)); refine blk_put (cs := #[.bool false, .string (⟨#[]⟩ : ByteArray), .string (⟨#[]⟩ : ByteArray), .string (⟨#[]⟩ : ByteArray)]) ?_ 0 _ rfl; (with_reducible repeat (first | refine blk_drewN ?_ _ | refine blk_drew ?_ | refine blk_alloc ?_ _)); exact BK105.out⟩, ⟨by repeat (first | (with_reducible first | exact HB.out | apply below_alloc | apply pw_below_drewN | apply below_drew1 | refine below_set ?_ GE104.out | refine below_set ?_ GE105.out) | exact HB.out)⟩⟩
    · replace c7 := Bool.eq_false_iff.mpr c7
      subst c7
      have H1 : (quarryref11_scan.j0 k a0 a1 false (⟨#[]⟩ : ByteArray) (⟨#[]⟩ : ByteArray) (⟨#[]⟩ : ByteArray)) = some (r1, r2, r3, r4, r5, r6) := by rw [if_neg (show ¬ (false = true) by decide)] at H; exact H
      clear H
      have H := H1
      clear H1
      have H' := Aside0.mk H
      clear H
      go_wp2
      go_meet
      case rel => exact ⟨_, (a1), (false), (by first | rfl | (simp; done) | (simp [*]; done)), H', ⟨by first | omega | exact Nat.le_refl _⟩, ⟨by (with_reducible repeat (first | refine blk_drewN ?_ _ | refine blk_drew ?_ | refine blk_alloc ?_ _)); exact BK104.out⟩, ⟨by (with_reducible repeat (first | refine blk_drewN ?_ _ | refine blk_drew ?_ | refine blk_alloc ?_ _)); exact BK105.out⟩, ⟨by repeat (first | (with_reducible first | exact HB.out | apply below_alloc | apply pw_below_drewN | apply below_drew1 | refine below_set ?_ GE104.out | refine below_set ?_ GE105.out) | exact HB.out)⟩⟩
  case rest =>
    clear HC4
    try clear c1
    try clear p2
    try clear p6
    try clear c7
    try clear c8
    try clear hcz9_0
    try clear hcz9_1
    try clear hcz9_2
    try clear hcz9_3
    try clear hfz9_0
    try clear hfz9_1
    try clear hfz9_2
    try clear hfz9_3
    obtain ⟨kq, x1_3, x106000_3, rfl, HA, HJ3, BK104, BK105, HB⟩ := hcut
    cases kq with
    | zero => exact absurd HA.out (by simp [quarryref11_scan.j0])
    | succ kj3 =>
      have H := HA.out
      clear HA
      simp only [quarryref11_scan.j0] at H
      replace H := Option.bind_eq_some_iff.mp H
      obtain ⟨t107, A100, H⟩ := H
      replace H : (if t107 = true then ((quarryref11_digits.f kj3 a0 x1_3).bind fun t108 => (if 0 ≤ x1_3 then (if x1_3 < (a0.size : Int) then (if (bt a0 x1_3) = 48 then (quarryref11_scan.j1 kj3 a0 x1_3 (wrap64 (x1_3 + 1)) x106000_3 (⟨#[]⟩ : ByteArray) (⟨#[]⟩ : ByteArray) (⟨#[]⟩ : ByteArray)) else (quarryref11_scan.j1 kj3 a0 x1_3 t108 x106000_3 (⟨#[]⟩ : ByteArray) (⟨#[]⟩ : ByteArray) (⟨#[]⟩ : ByteArray))) else (none)) else (none))) else (some (x106000_3, (⟨#[]⟩ : ByteArray), (⟨#[]⟩ : ByteArray), (⟨#[]⟩ : ByteArray), x1_3, false))) = some (r1, r2, r3, r4, r5, r6) := H
      have A10 := Aside0.mk A100
      clear A100
      by_cases c11 : t107 = true
      · subst c11
        have H1 : ((quarryref11_digits.f kj3 a0 x1_3).bind fun t108 => (if 0 ≤ x1_3 then (if x1_3 < (a0.size : Int) then (if (bt a0 x1_3) = 48 then (quarryref11_scan.j1 kj3 a0 x1_3 (wrap64 (x1_3 + 1)) x106000_3 (⟨#[]⟩ : ByteArray) (⟨#[]⟩ : ByteArray) (⟨#[]⟩ : ByteArray)) else (quarryref11_scan.j1 kj3 a0 x1_3 t108 x106000_3 (⟨#[]⟩ : ByteArray) (⟨#[]⟩ : ByteArray) (⟨#[]⟩ : ByteArray))) else (none)) else (none))) = some (r1, r2, r3, r4, r5, r6) := by rw [if_pos rfl] at H; exact H
        clear H
        have H := H1
        clear H1
        replace H := Option.bind_eq_some_iff.mp H
        obtain ⟨t108, A120, H⟩ := H
        replace H : (if 0 ≤ x1_3 then (if x1_3 < (a0.size : Int) then (if (bt a0 x1_3) = 48 then (quarryref11_scan.j1 kj3 a0 x1_3 (wrap64 (x1_3 + 1)) x106000_3 (⟨#[]⟩ : ByteArray) (⟨#[]⟩ : ByteArray) (⟨#[]⟩ : ByteArray)) else (quarryref11_scan.j1 kj3 a0 x1_3 t108 x106000_3 (⟨#[]⟩ : ByteArray) (⟨#[]⟩ : ByteArray) (⟨#[]⟩ : ByteArray))) else (none)) else (none)) = some (r1, r2, r3, r4, r5, r6) := H
        have A12 := Aside0.mk A120
        clear A120
        by_cases c13 : 0 ≤ x1_3
        · rw [if_pos c13] at H
          have c13b0 : decide (0 ≤ x1_3) = true := decide_eq_true c13
          clear c13
          by_cases c14 : x1_3 < (a0.size : Int)
          · rw [if_pos c14] at H
            have c14b0 : decide (x1_3 < (a0.size : Int)) = true := decide_eq_true c14
            clear c14
            have HC16 := Aside0.mk H
            clear H
            go_upto_if 29 with (first | ((with_reducible refine gate_callee (f := 139) rfl ?_); refine goesL_ (some 19) rfl rfl Tryd.func139 (by kernel_rfl) rfl #[.string a0, .int .i64 x1_3] rfl (by (try simp only [List.map_toArray, List.map_cons, List.map_nil]); first | done | rfl | (simp only [List.length_drop, List.length_take]; rfl)) ?_; (with_reducible refine (quarryref11_digit.calls a0 x1_3 true _ A10.out).mono ?_); rintro e w' ⟨rfl, ⟨nd, rfl⟩⟩; refine ⟨_, rfl, ?_⟩) | ((with_reducible refine gate_callee (f := 140) rfl ?_); refine goesL_ (some 25) rfl rfl Tryd.func140 (by kernel_rfl) rfl #[.string a0, .int .i64 x1_3] rfl (by (try simp only [List.map_toArray, List.map_cons, List.map_nil]); first | done | rfl | (simp only [List.length_drop, List.length_take]; rfl)) ?_; (with_reducible refine (quarryref11_digits.calls kj3 a0 x1_3 t108 _ A12.out).mono ?_); rintro e w' ⟨rfl, ⟨nd, rfl⟩⟩; refine ⟨_, rfl, ?_⟩; have p15 : 0 ≤ (x1_3 : Int) := of_decide_eq_true (by first | (with_reducible assumption) | assumption); have q15 : x1_3 < (a0.size : Int) := of_decide_eq_true (by first | (with_reducible assumption) | assumption); have hx15 := bt_at a0 x1_3; replace p15 := eq_true p15; replace q15 := eq_true q15))
            (try simp only [Act.put, List.setIfInBounds_toArray, List.set_cons_zero, List.set_cons_succ])
            go_cut [8] (fun v8 wc => ∃ (kq : Nat) (x8_15 : Int), v8 = .int .i64 x8_15 ∧ Aside0 (quarryref11_scan.j1 kq a0 x1_3 x8_15 x106000_3 (⟨#[]⟩ : ByteArray) (⟨#[]⟩ : ByteArray) (⟨#[]⟩ : ByteArray) = some (r1, r2, r3, r4, r5, r6)) ∧ Aside0 (kq ≤ kj3) ∧ Aside0 (wc.heap[gb104]? = some (.cells #[.bool false, .string (⟨#[]⟩ : ByteArray), .string (⟨#[]⟩ : ByteArray), .string (⟨#[]⟩ : ByteArray)] 147 (0, 0))) ∧ Aside0 (wc.heap[gb105]? = some (.cells #[.bool x106000_3, .string (⟨#[]⟩ : ByteArray), .string (⟨#[]⟩ : ByteArray), .string (⟨#[]⟩ : ByteArray)] 147 (0, 0))) ∧ Aside0 (Below w.heap.size w wc))
            case first =>
              have H := HC16.out
              clear HC16
              by_cases c17 : (bt a0 x1_3) = 48
              · rw [if_pos c17] at H
                have c17b0 : ((bt a0 x1_3) == 48) = true := beq_iff_eq.mpr c17
                have c17b1 : ((bt a0 x1_3) != 48) = false := bne_eq_false_iff_eq.mpr c17
                clear c17
                (first | rw [c17b0] | (simp only [i64_w, i32_w]; rw [c17b0]) | skip)
                have H' := Aside0.mk H
                clear H
                go_wp2
                go_meet
                case rel => exact ⟨_, (wrap64 (x1_3 + 1)), (by first | rfl | (simp; done) | (simp [*]; done)), H', ⟨by have := HJ3.out; first | omega | exact Nat.le_refl _⟩, ⟨by (with_reducible repeat (first | refine blk_drewN ?_ _ | refine blk_drew ?_ | refine blk_alloc ?_ _)); exact BK104.out⟩, ⟨by (with_reducible repeat (first | refine blk_drewN ?_ _ | refine blk_drew ?_ | refine blk_alloc ?_ _)); exact BK105.out⟩, ⟨by repeat (first | (with_reducible first | exact HB.out | apply below_alloc | apply pw_below_drewN | apply below_drew1 | refine below_set ?_ GE104.out | refine below_set ?_ GE105.out) | exact HB.out)⟩⟩
              · rw [if_neg c17] at H
                have c17b0 : ((bt a0 x1_3) == 48) = false := beq_eq_false_iff_ne.mpr c17
                have c17b1 : ((bt a0 x1_3) != 48) = true := bne_iff_ne.mpr c17
                (first | rw [c17b0] | (simp only [i64_w, i32_w]; rw [c17b0]) | skip)
                have H' := Aside0.mk H
                clear H
                go_wp2
                go_meet
                case rel => exact ⟨_, (t108), (by first | rfl | (simp; done) | (simp [*]; done)), H', ⟨by have := HJ3.out; first | omega | exact Nat.le_refl _⟩, ⟨by (with_reducible repeat (first | refine blk_drewN ?_ _ | refine blk_drew ?_ | refine blk_alloc ?_ _)); exact BK104.out⟩, ⟨by (with_reducible repeat (first | refine blk_drewN ?_ _ | refine blk_drew ?_ | refine blk_alloc ?_ _)); exact BK105.out⟩, ⟨by repeat (first | (with_reducible first | exact HB.out | apply below_alloc | apply pw_below_drewN | apply below_drew1 | refine below_set ?_ GE104.out | refine below_set ?_ GE105.out) | exact HB.out)⟩⟩
            case rest =>
              clear HC16
              try clear c1
              try clear p1
              try clear q1
              try clear hx1
              try clear p2
              try clear p6
              try clear c7
              try clear c8
              try clear c11
              try clear c12
              try clear c13
              try clear c13b0
              try clear c14
              try clear c14b0
              try clear p15
              try clear q15
              try clear hx15
              try clear c17
              try clear c17b0
              try clear c17b1
              try clear hcz9_0
              try clear hcz9_1
              try clear hcz9_2
              try clear hcz9_3
              try clear hfz9_0
              try clear hfz9_1
              try clear hfz9_2
              try clear hfz9_3
              try clear p15
              try clear p2
              try clear p6
              try clear q15
              obtain ⟨kq, x8_15, rfl, HA, HJ15, BK104, BK105, HB⟩ := hcut
              cases kq with
              | zero => exact absurd HA.out (by simp [quarryref11_scan.j1])
              | succ kj15 =>
                have H := HA.out
                clear HA
                simp only [quarryref11_scan.j1] at H
                by_cases c18 : 0 ≤ x1_3
                · rw [if_pos c18] at H
                  have c18b0 := eq_true c18
                  have c18b1 : decide (0 ≤ x1_3) = true := decide_eq_true c18
                  clear c18
                  by_cases c19 : x1_3 ≤ x8_15
                  · rw [if_pos c19] at H
                    have c19b0 := eq_true c19
                    have c19b1 : decide (x1_3 ≤ x8_15) = true := decide_eq_true c19
                    clear c19
                    by_cases c20 : x8_15 ≤ (a0.size : Int)
                    · rw [if_pos c20] at H
                      have c20b0 := eq_true c20
                      have c20b1 : decide (x8_15 ≤ (a0.size : Int)) = true := decide_eq_true c20
                      clear c20
                      replace H := Option.bind_eq_some_iff.mp H
                      obtain ⟨t109, A210, H⟩ := H
                      replace H : (if t109 = true then ((quarryref11_digits.f kj15 a0 (wrap64 (x8_15 + 1))).bind fun t110 => (if t110 = (wrap64 (x8_15 + 1)) then (some (x106000_3, a0.extract (x1_3 : Int).toNat (x8_15 : Int).toNat, (⟨#[]⟩ : ByteArray), (⟨#[]⟩ : ByteArray), t110, false)) else (if 0 ≤ (wrap64 (x8_15 + 1)) then (if (wrap64 (x8_15 + 1)) ≤ t110 then (if t110 ≤ (a0.size : Int) then (quarryref11_scan.j2 kj15 a0 t110 x106000_3 (a0.extract (x1_3 : Int).toNat (x8_15 : Int).toNat) (a0.extract ((wrap64 (x8_15 + 1)) : Int).toNat (t110 : Int).toNat) (⟨#[]⟩ : ByteArray)) else (none)) else (none)) else (none)))) else (quarryref11_scan.j2 kj15 a0 x8_15 x106000_3 (a0.extract (x1_3 : Int).toNat (x8_15 : Int).toNat) (⟨#[]⟩ : ByteArray) (⟨#[]⟩ : ByteArray))) = some (r1, r2, r3, r4, r5, r6) := H
                      have A21 := Aside0.mk A210
                      clear A210
                      have HC22 := Aside0.mk H
                      clear H
                      have hnb23 := NB105_104.out
                      have hnc23 := NB104_105.out
                      have hcz24_0 : wc.cell? ⟨gb105, 0, none⟩ = some (.bool x106000_3) := (blk_cell BK105.out 0).trans rfl
                      have hcz24_1 : wc.cell? ⟨gb105, 1, none⟩ = some (.string (⟨#[]⟩ : ByteArray)) := (blk_cell BK105.out 1).trans rfl
                      have hcz24_2 : wc.cell? ⟨gb105, 2, none⟩ = some (.string (⟨#[]⟩ : ByteArray)) := (blk_cell BK105.out 2).trans rfl
                      have hcz24_3 : wc.cell? ⟨gb105, 3, none⟩ = some (.string (⟨#[]⟩ : ByteArray)) := (blk_cell BK105.out 3).trans rfl
                      have hfz24_0 := blk_frozen BK105.out 0
                      have hfz24_1 := blk_frozen BK105.out 1
                      have hfz24_2 := blk_frozen BK105.out 2
                      have hfz24_3 := blk_frozen BK105.out 3
                      go_upto_if 40 with (first | ((with_reducible refine gate_callee (f := 138) rfl ?_); refine goesL_ (some 40) rfl rfl Tryd.func138 (by kernel_rfl) rfl #[.string a0, .int .i64 x8_15, .int .u8 46, .int .u8 46] rfl (by (try simp only [List.map_toArray, List.map_cons, List.map_nil]); first | done | rfl | (simp only [List.length_drop, List.length_take]; rfl)) ?_; (with_reducible refine (quarryref11_is.calls a0 x8_15 46 46 t109 _ A21.out).mono ?_); rintro e w' ⟨rfl, ⟨nd, rfl⟩⟩; refine ⟨_, rfl, ?_⟩))
                      (try simp only [Act.put, List.setIfInBounds_toArray, List.set_cons_zero, List.set_cons_succ])
                      go_cut [1] (fun v1 wc => ∃ (kq : Nat) (x1_21 : Int) (x105000_21 : Bool) (x105001_21 : ByteArray) (x105002_21 : ByteArray) (x105003_21 : ByteArray) (x106002_21 : ByteArray), v1 = .int .i64 x1_21 ∧ Aside0 (quarryref11_scan.j2 kq a0 x1_21 x106000_3 (a0.extract (x1_3 : Int).toNat (x8_15 : Int).toNat) x106002_21 (⟨#[]⟩ : ByteArray) = some (r1, r2, r3, r4, r5, r6)) ∧ Aside0 (kq ≤ kj15) ∧ Aside0 (wc.heap[gb104]? = some (.cells #[.bool x105000_21, .string x105001_21, .string x105002_21, .string x105003_21] 147 (0, 0))) ∧ Aside0 (wc.heap[gb105]? = some (.cells #[.bool x106000_3, .string (a0.extract (x1_3 : Int).toNat (x8_15 : Int).toNat), .string x106002_21, .string (⟨#[]⟩ : ByteArray)] 147 (0, 0))) ∧ Aside0 (Below w.heap.size w wc))
                      case first =>
                        have H := HC22.out
                        clear HC22
                        by_cases c25 : t109 = true
                        · subst c25
                          have H1 : ((quarryref11_digits.f kj15 a0 (wrap64 (x8_15 + 1))).bind fun t110 => (if t110 = (wrap64 (x8_15 + 1)) then (some (x106000_3, a0.extract (x1_3 : Int).toNat (x8_15 : Int).toNat, (⟨#[]⟩ : ByteArray), (⟨#[]⟩ : ByteArray), t110, false)) else (if 0 ≤ (wrap64 (x8_15 + 1)) then (if (wrap64 (x8_15 + 1)) ≤ t110 then (if t110 ≤ (a0.size : Int) then (quarryref11_scan.j2 kj15 a0 t110 x106000_3 (a0.extract (x1_3 : Int).toNat (x8_15 : Int).toNat) (a0.extract ((wrap64 (x8_15 + 1)) : Int).toNat (t110 : Int).toNat) (⟨#[]⟩ : ByteArray)) else (none)) else (none)) else (none)))) = some (r1, r2, r3, r4, r5, r6) := by rw [if_pos rfl] at H; exact H
                          clear H
                          have H := H1
                          clear H1
                          replace H := Option.bind_eq_some_iff.mp H
                          obtain ⟨t110, A260, H⟩ := H
                          replace H : (if t110 = (wrap64 (x8_15 + 1)) then (some (x106000_3, a0.extract (x1_3 : Int).toNat (x8_15 : Int).toNat, (⟨#[]⟩ : ByteArray), (⟨#[]⟩ : ByteArray), t110, false)) else (if 0 ≤ (wrap64 (x8_15 + 1)) then (if (wrap64 (x8_15 + 1)) ≤ t110 then (if t110 ≤ (a0.size : Int) then (quarryref11_scan.j2 kj15 a0 t110 x106000_3 (a0.extract (x1_3 : Int).toNat (x8_15 : Int).toNat) (a0.extract ((wrap64 (x8_15 + 1)) : Int).toNat (t110 : Int).toNat) (⟨#[]⟩ : ByteArray)) else (none)) else (none)) else (none))) = some (r1, r2, r3, r4, r5, r6) := H
                          have A26 := Aside0.mk A260
                          clear A260
                          by_cases c27 : t110 = (wrap64 (x8_15 + 1))
                          · rw [if_pos c27] at H
                            have c27b0 : (t110 == (wrap64 (x8_15 + 1))) = true := beq_iff_eq.mpr c27
                            have c27b1 : (t110 != (wrap64 (x8_15 + 1))) = false := bne_eq_false_iff_eq.mpr c27
                            clear c27
                            (first | rw [c27b0] | (simp only [i64_w, i32_w]; rw [c27b0]) | skip)
                            simp only [Option.some.injEq, Prod.mk.injEq] at H
                            obtain ⟨rfl, rfl, rfl, rfl, rfl, rfl⟩ := H
                            go_wp2_with (first | ((with_reducible refine gate_callee (f := 140) rfl ?_); refine goesL_ (some 44) rfl rfl Tryd.func140 (by kernel_rfl) rfl #[.string a0, .int .i64 (wrap64 (x8_15 + 1))] rfl (by (try simp only [List.map_toArray, List.map_cons, List.map_nil]); first | done | rfl | (simp only [List.length_drop, List.length_take]; rfl)) ?_; (with_reducible refine (quarryref11_digits.calls kj15 a0 (wrap64 (x8_15 + 1)) t110 _ A26.out).mono ?_); rintro e w' ⟨rfl, ⟨nd, rfl⟩⟩; refine ⟨_, rfl, ?_⟩; have hnb28 := NB105_104.out; have hnc28 := NB104_105.out; have hcz29_0 : wc.cell? ⟨gb105, 0, none⟩ = some (.bool x106000_3) := (blk_cell BK105.out 0).trans rfl; have hcz29_1 : wc.cell? ⟨gb105, 1, none⟩ = some (.string (⟨#[]⟩ : ByteArray)) := (blk_cell BK105.out 1).trans rfl; have hcz29_2 : wc.cell? ⟨gb105, 2, none⟩ = some (.string (⟨#[]⟩ : ByteArray)) := (blk_cell BK105.out 2).trans rfl; have hcz29_3 : wc.cell? ⟨gb105, 3, none⟩ = some (.string (⟨#[]⟩ : ByteArray)) := (blk_cell BK105.out 3).trans rfl; have hfz29_0 := blk_frozen BK105.out 0; have hfz29_1 := blk_frozen BK105.out 1; have hfz29_2 := blk_frozen BK105.out 2; have hfz29_3 := blk_frozen BK105.out 3; have hcz30_0 : wc.cell? ⟨gb104, 0, none⟩ = some (.bool false) := (blk_cell BK104.out 0).trans rfl; have hcz30_1 : wc.cell? ⟨gb104, 1, none⟩ = some (.string (⟨#[]⟩ : ByteArray)) := (blk_cell BK104.out 1).trans rfl; have hcz30_2 : wc.cell? ⟨gb104, 2, none⟩ = some (.string (⟨#[]⟩ : ByteArray)) := (blk_cell BK104.out 2).trans rfl; have hcz30_3 : wc.cell? ⟨gb104, 3, none⟩ = some (.string (⟨#[]⟩ : ByteArray)) := (blk_cell BK104.out 3).trans rfl; have hfz30_0 := blk_frozen BK104.out 0; have hfz30_1 := blk_frozen BK104.out 1; have hfz30_2 := blk_frozen BK104.out 2; have hfz30_3 := blk_frozen BK104.out 3))
                            refine bodyPost_ret (results_ctt rfl _ _ gb104 147 #[.bool x106000_3, .string (a0.extract (x1_3 : Int).toNat (x8_15 : Int).toNat), .string (⟨#[]⟩ : ByteArray), .string (⟨#[]⟩ : ByteArray)] (0, 0) _ rfl (by (with_reducible repeat (first | refine blk_drewN ?_ _ | refine blk_drew ?_ | refine blk_alloc ?_ _)); refine blk_put (cs := #[.bool x106000_3, .string (a0.extract (x1_3 : Int).toNat (x8_15 : Int).toNat), .string (⟨#[]⟩ : ByteArray), .string (⟨#[]⟩ : ByteArray)]) ?_ 3 _ rfl; (with_reducible repeat (first | refine blk_drewN ?_ _ | refine blk_drew ?_ | refine blk_alloc ?_ _)); refine blk_put (cs := #[.bool x106000_3, .string (a0.extract (x1_3 : Int).toNat (x8_15 : Int).toNat), .string (⟨#[]⟩ : ByteArray), .string (⟨#[]⟩ : ByteArray)]) ?_ 2 _ rfl; (with_reducible repeat (first | refine blk_drewN ?_ _ | refine blk_drew ?_ | refine blk_alloc ?_ _)); refine blk_put (cs := #[.bool x106000_3, .string (⟨#[]⟩ : ByteArray), .string (⟨#[]⟩ : ByteArray), .string (⟨#[]⟩ : ByteArray)]) ?_ 1 _ rfl; (with_reducible repeat (first | refine blk_drewN ?_ _ | refine blk_drew ?_ | refine blk_alloc ?_ _)); refine blk_put (cs := #[.bool false, .string (⟨#[]⟩ : ByteArray), .string (⟨#[]⟩ : ByteArray), .string (⟨#[]⟩ : ByteArray)]) ?_ 0 _ rfl; (with_reducible repeat (first | refine blk_drewN ?_ _ | refine blk_drew ?_ | refine blk_alloc ?_ _)); refine blk_far ?_ NB104_105.out _; (with_reducible repeat (first | refine blk_drewN ?_ _ | refine blk_drew ?_ | refine blk_alloc ?_ _)); exact BK104.out) Tryd.underlying147 rfl (by kernel_rfl)) rfl ?_
                            exact ⟨by first | rfl | (simp [errW_none, errW_some] <;> rfl) | (simp [*, errW_none, errW_some] <;> rfl), by repeat (first | (with_reducible first | exact HB.out | apply below_alloc | apply pw_below_drewN | apply below_drew1 | refine below_set ?_ GE104.out | refine below_set ?_ GE105.out) | exact HB.out)⟩
                          · rw [if_neg c27] at H
                            have c27b0 : (t110 == (wrap64 (x8_15 + 1))) = false := beq_eq_false_iff_ne.mpr c27
                            have c27b1 : (t110 != (wrap64 (x8_15 + 1))) = true := bne_iff_ne.mpr c27
                            (first | rw [c27b0] | (simp only [i64_w, i32_w]; rw [c27b0]) | skip)
                            obtain ⟨ji31, hji31⟩ : ∃ j_ : Int, (wrap64 (x8_15 + 1)) = j_ := ⟨_, rfl⟩
                            replace H : (if 0 ≤ (ji31) then (if (ji31) ≤ t110 then (if t110 ≤ (a0.size : Int) then (quarryref11_scan.j2 kj15 a0 t110 x106000_3 (a0.extract (x1_3 : Int).toNat (x8_15 : Int).toNat) (a0.extract ((ji31) : Int).toNat (t110 : Int).toNat) (⟨#[]⟩ : ByteArray)) else (none)) else (none)) else (none)) = some (r1, r2, r3, r4, r5, r6) := by first | (rw [hji31] at H; exact H) | (simp only [hji31] at H ⊢; exact H)
                            (try rw [hji31] at c27b0)
                            (try rw [hji31] at c27b1)
                            (try rw [hji31] at A26)
                            have hji31w : (IntKind.i64.wrap (x8_15 + 1)) = ji31 := (i64_w _).trans hji31
                            by_cases c32 : 0 ≤ (ji31)
                            · rw [if_pos c32] at H
                              have c32b0 := eq_true c32
                              have c32b1 : decide (0 ≤ (ji31)) = true := decide_eq_true c32
                              clear c32
                              by_cases c33 : (ji31) ≤ t110
                              · rw [if_pos c33] at H
                                have c33b0 := eq_true c33
                                have c33b1 : decide ((ji31) ≤ t110) = true := decide_eq_true c33
                                clear c33
                                by_cases c34 : t110 ≤ (a0.size : Int)
                                · rw [if_pos c34] at H
                                  have c34b0 := eq_true c34
                                  have c34b1 : decide (t110 ≤ (a0.size : Int)) = true := decide_eq_true c34
                                  clear c34
                                  have H' := Aside0.mk H
                                  clear H
                                  go_wp2_with (first | ((with_reducible refine gate_callee (f := 140) rfl ?_); refine goesL_ (some 44) rfl rfl Tryd.func140 (by kernel_rfl) rfl #[.string a0, .int .i64 ji31] rfl (by (try simp only [List.map_toArray, List.map_cons, List.map_nil]); first | done | (simp only [hji31]; rfl) | rfl | (simp only [List.length_drop, List.length_take]; rfl)) ?_; (with_reducible refine (quarryref11_digits.calls kj15 a0 ji31 t110 _ A26.out).mono ?_); rintro e w' ⟨rfl, ⟨nd, rfl⟩⟩; refine ⟨_, rfl, ?_⟩; have hnb35 := NB105_104.out; have hnc35 := NB104_105.out; have hcz36_0 : wc.cell? ⟨gb105, 0, none⟩ = some (.bool x106000_3) := (blk_cell BK105.out 0).trans rfl; have hcz36_1 : wc.cell? ⟨gb105, 1, none⟩ = some (.string (⟨#[]⟩ : ByteArray)) := (blk_cell BK105.out 1).trans rfl; have hcz36_2 : wc.cell? ⟨gb105, 2, none⟩ = some (.string (⟨#[]⟩ : ByteArray)) := (blk_cell BK105.out 2).trans rfl; have hcz36_3 : wc.cell? ⟨gb105, 3, none⟩ = some (.string (⟨#[]⟩ : ByteArray)) := (blk_cell BK105.out 3).trans rfl; have hfz36_0 := blk_frozen BK105.out 0; have hfz36_1 := blk_frozen BK105.out 1; have hfz36_2 := blk_frozen BK105.out 2; have hfz36_3 := blk_frozen BK105.out 3))
                                  go_meet
                                  case rel => exact ⟨_, (t110), (false), ((⟨#[]⟩ : ByteArray)), ((⟨#[]⟩ : ByteArray)), ((⟨#[]⟩ : ByteArray)), (a0.extract ((ji31) : Int).toNat (t110 : Int).toNat), (by first | rfl | (simp; done) | (simp [*]; done)), H', ⟨by have := HJ3.out; have := HJ15.out; first | omega | exact Nat.le_refl _⟩, ⟨by (with_reducible repeat (first | refine blk_drewN ?_ _ | refine blk_drew ?_ | refine blk_alloc ?_ _)); refine blk_far ?_ NB104_105.out _; (with_reducible repeat (first | refine blk_drewN ?_ _ | refine blk_drew ?_ | refine blk_alloc ?_ _)); refine blk_far ?_ NB104_105.out _; (with_reducible repeat (first | refine blk_drewN ?_ _ | refine blk_drew ?_ | refine blk_alloc ?_ _)); exact BK104.out⟩, ⟨by (with_reducible repeat (first | refine blk_drewN ?_ _ | refine blk_drew ?_ | refine blk_alloc ?_ _)); refine blk_put (cs := #[.bool x106000_3, .string (a0.extract (x1_3 : Int).toNat (x8_15 : Int).toNat), .string (⟨#[]⟩ : ByteArray), .string (⟨#[]⟩ : ByteArray)]) ?_ 2 _ rfl; (with_reducible repeat (first | refine blk_drewN ?_ _ | refine blk_drew ?_ | refine blk_alloc ?_ _)); refine blk_put (cs := #[.bool x106000_3, .string (⟨#[]⟩ : ByteArray), .string (⟨#[]⟩ : ByteArray), .string (⟨#[]⟩ : ByteArray)]) ?_ 1 _ rfl; (with_reducible repeat (first | refine blk_drewN ?_ _ | refine blk_drew ?_ | refine blk_alloc ?_ _)); exact BK105.out⟩, ⟨by repeat (first | (with_reducible first | exact HB.out | apply below_alloc | apply pw_below_drewN | apply below_drew1 | refine below_set ?_ GE104.out | refine below_set ?_ GE105.out) | exact HB.out)⟩⟩
                                · rw [if_neg c34] at H
                                  exact absurd H (by simp)
                              · rw [if_neg c33] at H
                                exact absurd H (by simp)
                            · rw [if_neg c32] at H
                              exact absurd H (by simp)
                        · replace c25 := Bool.eq_false_iff.mpr c25
                          subst c25
                          have H1 : (quarryref11_scan.j2 kj15 a0 x8_15 x106000_3 (a0.extract (x1_3 : Int).toNat (x8_15 : Int).toNat) (⟨#[]⟩ : ByteArray) (⟨#[]⟩ : ByteArray)) = some (r1, r2, r3, r4, r5, r6) := by rw [if_neg (show ¬ (false = true) by decide)] at H; exact H
                          clear H
                          have H := H1
                          clear H1
                          have H' := Aside0.mk H
                          clear H
                          go_wp2
                          go_meet
                          case rel => exact ⟨_, (x8_15), (false), ((⟨#[]⟩ : ByteArray)), ((⟨#[]⟩ : ByteArray)), ((⟨#[]⟩ : ByteArray)), ((⟨#[]⟩ : ByteArray)), (by first | rfl | (simp; done) | (simp [*]; done)), H', ⟨by have := HJ3.out; have := HJ15.out; first | omega | exact Nat.le_refl _⟩, ⟨by (with_reducible repeat (first | refine blk_drewN ?_ _ | refine blk_drew ?_ | refine blk_alloc ?_ _)); refine blk_far ?_ NB104_105.out _; (with_reducible repeat (first | refine blk_drewN ?_ _ | refine blk_drew ?_ | refine blk_alloc ?_ _)); exact BK104.out⟩, ⟨by (with_reducible repeat (first | refine blk_drewN ?_ _ | refine blk_drew ?_ | refine blk_alloc ?_ _)); refine blk_put (cs := #[.bool x106000_3, .string (⟨#[]⟩ : ByteArray), .string (⟨#[]⟩ : ByteArray), .string (⟨#[]⟩ : ByteArray)]) ?_ 1 _ rfl; (with_reducible repeat (first | refine blk_drewN ?_ _ | refine blk_drew ?_ | refine blk_alloc ?_ _)); exact BK105.out⟩, ⟨by repeat (first | (with_reducible first | exact HB.out | apply below_alloc | apply pw_below_drewN | apply below_drew1 | refine below_set ?_ GE104.out | refine below_set ?_ GE105.out) | exact HB.out)⟩⟩
                      case rest =>
                        clear HC22
                        try clear c1
                        try clear p1
                        try clear q1
                        try clear hx1
                        try clear c2
                        try clear p2
                        try clear c3
                        try clear p6
                        try clear c7
                        try clear c8
                        try clear c11
                        try clear c12
                        try clear c13
                        try clear c13b0
                        try clear c14
                        try clear c14b0
                        try clear p15
                        try clear q15
                        try clear hx15
                        try clear c17
                        try clear c17b0
                        try clear c17b1
                        try clear c18
                        try clear c18b0
                        try clear c18b1
                        try clear c19
                        try clear c19b0
                        try clear c19b1
                        try clear c20
                        try clear c20b0
                        try clear c20b1
                        try clear c23
                        try clear c25
                        try clear c27
                        try clear c27b0
                        try clear c27b1
                        try clear c28
                        try clear c32
                        try clear c32b0
                        try clear c32b1
                        try clear c33
                        try clear c33b0
                        try clear c33b1
                        try clear c34
                        try clear c34b0
                        try clear c34b1
                        try clear c35
                        try clear hcz24_0
                        try clear hcz24_1
                        try clear hcz24_2
                        try clear hcz24_3
                        try clear hcz29_0
                        try clear hcz29_1
                        try clear hcz29_2
                        try clear hcz29_3
                        try clear hcz30_0
                        try clear hcz30_1
                        try clear hcz30_2
                        try clear hcz30_3
                        try clear hcz36_0
                        try clear hcz36_1
                        try clear hcz36_2
                        try clear hcz36_3
                        try clear hcz9_0
                        try clear hcz9_1
                        try clear hcz9_2
                        try clear hcz9_3
                        try clear hfz24_0
                        try clear hfz24_1
                        try clear hfz24_2
                        try clear hfz24_3
                        try clear hfz29_0
                        try clear hfz29_1
                        try clear hfz29_2
                        try clear hfz29_3
                        try clear hfz30_0
                        try clear hfz30_1
                        try clear hfz30_2
                        try clear hfz30_3
                        try clear hfz36_0
                        try clear hfz36_1
                        try clear hfz36_2
                        try clear hfz36_3
                        try clear hfz9_0
                        try clear hfz9_1
                        try clear hfz9_2
                        try clear hfz9_3
                        try clear p1
                        try clear p15
                        try clear p2
                        try clear p6
                        try clear q1
                        try clear q15
                        obtain ⟨kq, x1_21, x105000_21, x105001_21, x105002_21, x105003_21, x106002_21, rfl, HA, HJ21, BK104, BK105, HB⟩ := hcut
                        cases kq with
                        | zero => exact absurd HA.out (by simp [quarryref11_scan.j2])
                        | succ kj21 =>
                          have H := HA.out
                          clear HA
                          simp only [quarryref11_scan.j2] at H
                          replace H := Option.bind_eq_some_iff.mp H
                          obtain ⟨t111, A370, H⟩ := H
                          replace H : (if t111 = true then ((quarryref11_is.f a0 (wrap64 (x1_21 + 1)) 43 45).bind fun t112 => (if t112 = true then ((quarryref11_digits.f kj21 a0 (wrap64 ((wrap64 (x1_21 + 1)) + 1))).bind fun t113 => (if t113 = (wrap64 ((wrap64 (x1_21 + 1)) + 1)) then (some (x106000_3, (a0.extract (x1_3 : Int).toNat (x8_15 : Int).toNat), x106002_21, (⟨#[]⟩ : ByteArray), t113, false)) else (if 0 ≤ (wrap64 (x1_21 + 1)) then (if (wrap64 (x1_21 + 1)) ≤ t113 then (if t113 ≤ (a0.size : Int) then (some (x106000_3, (a0.extract (x1_3 : Int).toNat (x8_15 : Int).toNat), x106002_21, a0.extract ((wrap64 (x1_21 + 1)) : Int).toNat (t113 : Int).toNat, t113, true)) else (none)) else (none)) else (none)))) else ((quarryref11_digits.f kj21 a0 (wrap64 (x1_21 + 1))).bind fun t114 => (if t114 = (wrap64 (x1_21 + 1)) then (some (x106000_3, (a0.extract (x1_3 : Int).toNat (x8_15 : Int).toNat), x106002_21, (⟨#[]⟩ : ByteArray), t114, false)) else (if 0 ≤ (wrap64 (x1_21 + 1)) then (if (wrap64 (x1_21 + 1)) ≤ t114 then (if t114 ≤ (a0.size : Int) then (some (x106000_3, (a0.extract (x1_3 : Int).toNat (x8_15 : Int).toNat), x106002_21, a0.extract ((wrap64 (x1_21 + 1)) : Int).toNat (t114 : Int).toNat, t114, true)) else (none)) else (none)) else (none)))))) else (some (x106000_3, (a0.extract (x1_3 : Int).toNat (x8_15 : Int).toNat), x106002_21, (⟨#[]⟩ : ByteArray), x1_21, true))) = some (r1, r2, r3, r4, r5, r6) := H
                          have A37 := Aside0.mk A370
                          clear A370
                          by_cases c38 : t111 = true
                          · subst c38
                            have H1 : ((quarryref11_is.f a0 (wrap64 (x1_21 + 1)) 43 45).bind fun t112 => (if t112 = true then ((quarryref11_digits.f kj21 a0 (wrap64 ((wrap64 (x1_21 + 1)) + 1))).bind fun t113 => (if t113 = (wrap64 ((wrap64 (x1_21 + 1)) + 1)) then (some (x106000_3, (a0.extract (x1_3 : Int).toNat (x8_15 : Int).toNat), x106002_21, (⟨#[]⟩ : ByteArray), t113, false)) else (if 0 ≤ (wrap64 (x1_21 + 1)) then (if (wrap64 (x1_21 + 1)) ≤ t113 then (if t113 ≤ (a0.size : Int) then (some (x106000_3, (a0.extract (x1_3 : Int).toNat (x8_15 : Int).toNat), x106002_21, a0.extract ((wrap64 (x1_21 + 1)) : Int).toNat (t113 : Int).toNat, t113, true)) else (none)) else (none)) else (none)))) else ((quarryref11_digits.f kj21 a0 (wrap64 (x1_21 + 1))).bind fun t114 => (if t114 = (wrap64 (x1_21 + 1)) then (some (x106000_3, (a0.extract (x1_3 : Int).toNat (x8_15 : Int).toNat), x106002_21, (⟨#[]⟩ : ByteArray), t114, false)) else (if 0 ≤ (wrap64 (x1_21 + 1)) then (if (wrap64 (x1_21 + 1)) ≤ t114 then (if t114 ≤ (a0.size : Int) then (some (x106000_3, (a0.extract (x1_3 : Int).toNat (x8_15 : Int).toNat), x106002_21, a0.extract ((wrap64 (x1_21 + 1)) : Int).toNat (t114 : Int).toNat, t114, true)) else (none)) else (none)) else (none)))))) = some (r1, r2, r3, r4, r5, r6) := by rw [if_pos rfl] at H; exact H
                            clear H
                            have H := H1
                            clear H1
                            replace H := Option.bind_eq_some_iff.mp H
                            obtain ⟨t112, A390, H⟩ := H
                            replace H : (if t112 = true then ((quarryref11_digits.f kj21 a0 (wrap64 ((wrap64 (x1_21 + 1)) + 1))).bind fun t113 => (if t113 = (wrap64 ((wrap64 (x1_21 + 1)) + 1)) then (some (x106000_3, (a0.extract (x1_3 : Int).toNat (x8_15 : Int).toNat), x106002_21, (⟨#[]⟩ : ByteArray), t113, false)) else (if 0 ≤ (wrap64 (x1_21 + 1)) then (if (wrap64 (x1_21 + 1)) ≤ t113 then (if t113 ≤ (a0.size : Int) then (some (x106000_3, (a0.extract (x1_3 : Int).toNat (x8_15 : Int).toNat), x106002_21, a0.extract ((wrap64 (x1_21 + 1)) : Int).toNat (t113 : Int).toNat, t113, true)) else (none)) else (none)) else (none)))) else ((quarryref11_digits.f kj21 a0 (wrap64 (x1_21 + 1))).bind fun t114 => (if t114 = (wrap64 (x1_21 + 1)) then (some (x106000_3, (a0.extract (x1_3 : Int).toNat (x8_15 : Int).toNat), x106002_21, (⟨#[]⟩ : ByteArray), t114, false)) else (if 0 ≤ (wrap64 (x1_21 + 1)) then (if (wrap64 (x1_21 + 1)) ≤ t114 then (if t114 ≤ (a0.size : Int) then (some (x106000_3, (a0.extract (x1_3 : Int).toNat (x8_15 : Int).toNat), x106002_21, a0.extract ((wrap64 (x1_21 + 1)) : Int).toNat (t114 : Int).toNat, t114, true)) else (none)) else (none)) else (none))))) = some (r1, r2, r3, r4, r5, r6) := H
                            have A39 := Aside0.mk A390
                            clear A390
                            by_cases c40 : t112 = true
                            · subst c40
                              have H1 : ((quarryref11_digits.f kj21 a0 (wrap64 ((wrap64 (x1_21 + 1)) + 1))).bind fun t113 => (if t113 = (wrap64 ((wrap64 (x1_21 + 1)) + 1)) then (some (x106000_3, (a0.extract (x1_3 : Int).toNat (x8_15 : Int).toNat), x106002_21, (⟨#[]⟩ : ByteArray), t113, false)) else (if 0 ≤ (wrap64 (x1_21 + 1)) then (if (wrap64 (x1_21 + 1)) ≤ t113 then (if t113 ≤ (a0.size : Int) then (some (x106000_3, (a0.extract (x1_3 : Int).toNat (x8_15 : Int).toNat), x106002_21, a0.extract ((wrap64 (x1_21 + 1)) : Int).toNat (t113 : Int).toNat, t113, true)) else (none)) else (none)) else (none)))) = some (r1, r2, r3, r4, r5, r6) := by rw [if_pos rfl] at H; exact H
                              clear H
                              have H := H1
                              clear H1
                              replace H := Option.bind_eq_some_iff.mp H
                              obtain ⟨t113, A410, H⟩ := H
                              replace H : (if t113 = (wrap64 ((wrap64 (x1_21 + 1)) + 1)) then (some (x106000_3, (a0.extract (x1_3 : Int).toNat (x8_15 : Int).toNat), x106002_21, (⟨#[]⟩ : ByteArray), t113, false)) else (if 0 ≤ (wrap64 (x1_21 + 1)) then (if (wrap64 (x1_21 + 1)) ≤ t113 then (if t113 ≤ (a0.size : Int) then (some (x106000_3, (a0.extract (x1_3 : Int).toNat (x8_15 : Int).toNat), x106002_21, a0.extract ((wrap64 (x1_21 + 1)) : Int).toNat (t113 : Int).toNat, t113, true)) else (none)) else (none)) else (none))) = some (r1, r2, r3, r4, r5, r6) := H
                              have A41 := Aside0.mk A410
                              clear A410
                              by_cases c42 : t113 = (wrap64 ((wrap64 (x1_21 + 1)) + 1))
                              · rw [if_pos c42] at H
                                have c42b0 : (t113 == (wrap64 ((wrap64 (x1_21 + 1)) + 1))) = true := beq_iff_eq.mpr c42
                                have c42b1 : (t113 != (wrap64 ((wrap64 (x1_21 + 1)) + 1))) = false := bne_eq_false_iff_eq.mpr c42
                                clear c42
                                simp only [Option.some.injEq, Prod.mk.injEq] at H
                                obtain ⟨rfl, rfl, rfl, rfl, rfl, rfl⟩ := H
                                go_wp2_with (first | ((with_reducible refine gate_callee (f := 138) rfl ?_); refine goesL_ (some 60) rfl rfl Tryd.func138 (by kernel_rfl) rfl #[.string a0, .int .i64 x1_21, .int .u8 101, .int .u8 69] rfl (by (try simp only [List.map_toArray, List.map_cons, List.map_nil]); first | done | rfl | (simp only [List.length_drop, List.length_take]; rfl)) ?_; (with_reducible refine (quarryref11_is.calls a0 x1_21 101 69 true _ A37.out).mono ?_); rintro e w' ⟨rfl, ⟨nd, rfl⟩⟩; refine ⟨_, rfl, ?_⟩; (try (rw [drewN_self wc]; generalize hq_ : World.drewN wc _ = wc; have n0_ : Aside0 (wc.heap[gb104]? = some (.cells #[.bool x105000_21, .string x105001_21, .string x105002_21, .string x105003_21] 147 (0, 0))) := ⟨by rw [← hq_]; exact (by (with_reducible repeat (first | refine blk_drewN ?_ _ | refine blk_drew ?_ | refine blk_alloc ?_ _)); exact BK104.out)⟩; have n1_ : Aside0 (wc.heap[gb105]? = some (.cells #[.bool x106000_3, .string (a0.extract (x1_3 : Int).toNat (x8_15 : Int).toNat), .string x106002_21, .string (⟨#[]⟩ : ByteArray)] 147 (0, 0))) := ⟨by rw [← hq_]; exact (by (with_reducible repeat (first | refine blk_drewN ?_ _ | refine blk_drew ?_ | refine blk_alloc ?_ _)); exact BK105.out)⟩; have n2_ : Aside0 (Below w.heap.size w wc) := ⟨by rw [← hq_]; exact (by repeat (first | (with_reducible first | exact HB.out | apply below_alloc | apply pw_below_drewN | apply below_drew1 | refine below_set ?_ GE104.out | refine below_set ?_ GE105.out) | exact HB.out))⟩; clear BK104 BK105 HB hq_; have BK104 := n0_; have BK105 := n1_; have HB := n2_; clear n0_ n1_ n2_))) | ((with_reducible refine gate_callee (f := 138) rfl ?_); refine goesL_ (some 66) rfl rfl Tryd.func138 (by kernel_rfl) rfl #[.string a0, .int .i64 (wrap64 (x1_21 + 1)), .int .u8 43, .int .u8 45] rfl (by (try simp only [List.map_toArray, List.map_cons, List.map_nil]); first | done | rfl | (simp only [List.length_drop, List.length_take]; rfl)) ?_; (with_reducible refine (quarryref11_is.calls a0 (wrap64 (x1_21 + 1)) 43 45 true _ A39.out).mono ?_); rintro e w' ⟨rfl, ⟨nd, rfl⟩⟩; refine ⟨_, rfl, ?_⟩; (try (rw [drewN_self wc]; generalize hq_ : World.drewN wc _ = wc; have n0_ : Aside0 (wc.heap[gb104]? = some (.cells #[.bool x105000_21, .string x105001_21, .string x105002_21, .string x105003_21] 147 (0, 0))) := ⟨by rw [← hq_]; exact (by (with_reducible repeat (first | refine blk_drewN ?_ _ | refine blk_drew ?_ | refine blk_alloc ?_ _)); exact BK104.out)⟩; have n1_ : Aside0 (wc.heap[gb105]? = some (.cells #[.bool x106000_3, .string (a0.extract (x1_3 : Int).toNat (x8_15 : Int).toNat), .string x106002_21, .string (⟨#[]⟩ : ByteArray)] 147 (0, 0))) := ⟨by rw [← hq_]; exact (by (with_reducible repeat (first | refine blk_drewN ?_ _ | refine blk_drew ?_ | refine blk_alloc ?_ _)); exact BK105.out)⟩; have n2_ : Aside0 (Below w.heap.size w wc) := ⟨by rw [← hq_]; exact (by repeat (first | (with_reducible first | exact HB.out | apply below_alloc | apply pw_below_drewN | apply below_drew1 | refine below_set ?_ GE104.out | refine below_set ?_ GE105.out) | exact HB.out))⟩; clear BK104 BK105 HB hq_; have BK104 := n0_; have BK105 := n1_; have HB := n2_; clear n0_ n1_ n2_))) | ((with_reducible refine gate_callee (f := 140) rfl ?_); refine goesL_ (some 71) rfl rfl Tryd.func140 (by kernel_rfl) rfl #[.string a0, .int .i64 (wrap64 ((wrap64 (x1_21 + 1)) + 1))] rfl (by (try simp only [List.map_toArray, List.map_cons, List.map_nil]); first | done | rfl | (simp only [List.length_drop, List.length_take]; rfl)) ?_; (with_reducible refine (quarryref11_digits.calls kj21 a0 (wrap64 ((wrap64 (x1_21 + 1)) + 1)) t113 _ A41.out).mono ?_); rintro e w' ⟨rfl, ⟨nd, rfl⟩⟩; refine ⟨_, rfl, ?_⟩; (try (rw [drewN_self wc]; generalize hq_ : World.drewN wc _ = wc; have n0_ : Aside0 (wc.heap[gb104]? = some (.cells #[.bool x105000_21, .string x105001_21, .string x105002_21, .string x105003_21] 147 (0, 0))) := ⟨by rw [← hq_]; exact (by (with_reducible repeat (first | refine blk_drewN ?_ _ | refine blk_drew ?_ | refine blk_alloc ?_ _)); exact BK104.out)⟩; have n1_ : Aside0 (wc.heap[gb105]? = some (.cells #[.bool x106000_3, .string (a0.extract (x1_3 : Int).toNat (x8_15 : Int).toNat), .string x106002_21, .string (⟨#[]⟩ : ByteArray)] 147 (0, 0))) := ⟨by rw [← hq_]; exact (by (with_reducible repeat (first | refine blk_drewN ?_ _ | refine blk_drew ?_ | refine blk_alloc ?_ _)); exact BK105.out)⟩; have n2_ : Aside0 (Below w.heap.size w wc) := ⟨by rw [← hq_]; exact (by repeat (first | (with_reducible first | exact HB.out | apply below_alloc | apply pw_below_drewN | apply below_drew1 | refine below_set ?_ GE104.out | refine below_set ?_ GE105.out) | exact HB.out))⟩; clear BK104 BK105 HB hq_; have BK104 := n0_; have BK105 := n1_; have HB := n2_; clear n0_ n1_ n2_)); have hnb43 := NB105_104.out; have hnc43 := NB104_105.out; have hcz44_0 : wc.cell? ⟨gb105, 0, none⟩ = some (.bool x106000_3) := (blk_cell BK105.out 0).trans rfl; have hcz44_1 : wc.cell? ⟨gb105, 1, none⟩ = some (.string (a0.extract (x1_3 : Int).toNat (x8_15 : Int).toNat)) := (blk_cell BK105.out 1).trans rfl; have hcz44_2 : wc.cell? ⟨gb105, 2, none⟩ = some (.string x106002_21) := (blk_cell BK105.out 2).trans rfl; have hcz44_3 : wc.cell? ⟨gb105, 3, none⟩ = some (.string (⟨#[]⟩ : ByteArray)) := (blk_cell BK105.out 3).trans rfl; have hfz44_0 := blk_frozen BK105.out 0; have hfz44_1 := blk_frozen BK105.out 1; have hfz44_2 := blk_frozen BK105.out 2; have hfz44_3 := blk_frozen BK105.out 3; have hcz45_0 : wc.cell? ⟨gb104, 0, none⟩ = some (.bool x105000_21) := (blk_cell BK104.out 0).trans rfl; have hcz45_1 : wc.cell? ⟨gb104, 1, none⟩ = some (.string x105001_21) := (blk_cell BK104.out 1).trans rfl; have hcz45_2 : wc.cell? ⟨gb104, 2, none⟩ = some (.string x105002_21) := (blk_cell BK104.out 2).trans rfl; have hcz45_3 : wc.cell? ⟨gb104, 3, none⟩ = some (.string x105003_21) := (blk_cell BK104.out 3).trans rfl; have hfz45_0 := blk_frozen BK104.out 0; have hfz45_1 := blk_frozen BK104.out 1; have hfz45_2 := blk_frozen BK104.out 2; have hfz45_3 := blk_frozen BK104.out 3))
                                refine bodyPost_ret (results_ctt rfl _ _ gb104 147 #[.bool x106000_3, .string (a0.extract (x1_3 : Int).toNat (x8_15 : Int).toNat), .string x106002_21, .string (⟨#[]⟩ : ByteArray)] (0, 0) _ rfl (by (with_reducible repeat (first | refine blk_drewN ?_ _ | refine blk_drew ?_ | refine blk_alloc ?_ _)); refine blk_put (cs := #[.bool x106000_3, .string (a0.extract (x1_3 : Int).toNat (x8_15 : Int).toNat), .string x106002_21, .string x105003_21]) ?_ 3 _ rfl; (with_reducible repeat (first | refine blk_drewN ?_ _ | refine blk_drew ?_ | refine blk_alloc ?_ _)); refine blk_put (cs := #[.bool x106000_3, .string (a0.extract (x1_3 : Int).toNat (x8_15 : Int).toNat), .string x105002_21, .string x105003_21]) ?_ 2 _ rfl; (with_reducible repeat (first | refine blk_drewN ?_ _ | refine blk_drew ?_ | refine blk_alloc ?_ _)); refine blk_put (cs := #[.bool x106000_3, .string x105001_21, .string x105002_21, .string x105003_21]) ?_ 1 _ rfl; (with_reducible repeat (first | refine blk_drewN ?_ _ | refine blk_drew ?_ | refine blk_alloc ?_ _)); refine blk_put (cs := #[.bool x105000_21, .string x105001_21, .string x105002_21, .string x105003_21]) ?_ 0 _ rfl; (with_reducible repeat (first | refine blk_drewN ?_ _ | refine blk_drew ?_ | refine blk_alloc ?_ _)); exact BK104.out) Tryd.underlying147 rfl (by kernel_rfl)) rfl ?_
                                exact ⟨by first | rfl | (simp [errW_none, errW_some] <;> rfl) | (simp [*, errW_none, errW_some] <;> rfl), by repeat (first | (with_reducible first | exact HB.out | apply below_alloc | apply pw_below_drewN | apply below_drew1 | refine below_set ?_ GE104.out | refine below_set ?_ GE105.out) | exact HB.out)⟩
                              · rw [if_neg c42] at H
                                have c42b0 : (t113 == (wrap64 ((wrap64 (x1_21 + 1)) + 1))) = false := beq_eq_false_iff_ne.mpr c42
                                have c42b1 : (t113 != (wrap64 ((wrap64 (x1_21 + 1)) + 1))) = true := bne_iff_ne.mpr c42
                                obtain ⟨ji46, hji46⟩ : ∃ j_ : Int, (wrap64 (x1_21 + 1)) = j_ := ⟨_, rfl⟩
                                replace H : (if 0 ≤ (ji46) then (if (ji46) ≤ t113 then (if t113 ≤ (a0.size : Int) then (some (x106000_3, (a0.extract (x1_3 : Int).toNat (x8_15 : Int).toNat), x106002_21, a0.extract ((ji46) : Int).toNat (t113 : Int).toNat, t113, true)) else (none)) else (none)) else (none)) = some (r1, r2, r3, r4, r5, r6) := by first | (rw [hji46] at H; exact H) | (simp only [hji46] at H ⊢; exact H)
                                (try rw [hji46] at c42b0)
                                (try rw [hji46] at c42b1)
                                (try rw [hji46] at A37)
                                (try rw [hji46] at A39)
                                (try rw [hji46] at A41)
                                have hji46w : (IntKind.i64.wrap (x1_21 + 1)) = ji46 := (i64_w _).trans hji46
                                by_cases c47 : 0 ≤ (ji46)
                                · rw [if_pos c47] at H
                                  have c47b0 := eq_true c47
                                  have c47b1 : decide (0 ≤ (ji46)) = true := decide_eq_true c47
                                  clear c47
                                  by_cases c48 : (ji46) ≤ t113
                                  · rw [if_pos c48] at H
                                    have c48b0 := eq_true c48
                                    have c48b1 : decide ((ji46) ≤ t113) = true := decide_eq_true c48
                                    clear c48
                                    by_cases c49 : t113 ≤ (a0.size : Int)
                                    · rw [if_pos c49] at H
                                      have c49b0 := eq_true c49
                                      have c49b1 : decide (t113 ≤ (a0.size : Int)) = true := decide_eq_true c49
                                      clear c49
                                      simp only [Option.some.injEq, Prod.mk.injEq] at H
                                      obtain ⟨rfl, rfl, rfl, rfl, rfl, rfl⟩ := H
                                      go_wp2_with (first | ((with_reducible refine gate_callee (f := 138) rfl ?_); refine goesL_ (some 60) rfl rfl Tryd.func138 (by kernel_rfl) rfl #[.string a0, .int .i64 x1_21, .int .u8 101, .int .u8 69] rfl (by (try simp only [List.map_toArray, List.map_cons, List.map_nil]); first | done | rfl | (simp only [List.length_drop, List.length_take]; rfl)) ?_; (with_reducible refine (quarryref11_is.calls a0 x1_21 101 69 true _ A37.out).mono ?_); rintro e w' ⟨rfl, ⟨nd, rfl⟩⟩; refine ⟨_, rfl, ?_⟩; (try (rw [drewN_self wc]; generalize hq_ : World.drewN wc _ = wc; have n0_ : Aside0 (wc.heap[gb104]? = some (.cells #[.bool x105000_21, .string x105001_21, .string x105002_21, .string x105003_21] 147 (0, 0))) := ⟨by rw [← hq_]; exact (by (with_reducible repeat (first | refine blk_drewN ?_ _ | refine blk_drew ?_ | refine blk_alloc ?_ _)); exact BK104.out)⟩; have n1_ : Aside0 (wc.heap[gb105]? = some (.cells #[.bool x106000_3, .string (a0.extract (x1_3 : Int).toNat (x8_15 : Int).toNat), .string x106002_21, .string (⟨#[]⟩ : ByteArray)] 147 (0, 0))) := ⟨by rw [← hq_]; exact (by (with_reducible repeat (first | refine blk_drewN ?_ _ | refine blk_drew ?_ | refine blk_alloc ?_ _)); exact BK105.out)⟩; have n2_ : Aside0 (Below w.heap.size w wc) := ⟨by rw [← hq_]; exact (by repeat (first | (with_reducible first | exact HB.out | apply below_alloc | apply pw_below_drewN | apply below_drew1 | refine below_set ?_ GE104.out | refine below_set ?_ GE105.out) | exact HB.out))⟩; clear BK104 BK105 HB hq_; have BK104 := n0_; have BK105 := n1_; have HB := n2_; clear n0_ n1_ n2_))) | ((with_reducible refine gate_callee (f := 138) rfl ?_); refine goesL_ (some 66) rfl rfl Tryd.func138 (by kernel_rfl) rfl #[.string a0, .int .i64 ji46, .int .u8 43, .int .u8 45] rfl (by (try simp only [List.map_toArray, List.map_cons, List.map_nil]); first | done | (simp only [hji46]; rfl) | rfl | (simp only [List.length_drop, List.length_take]; rfl)) ?_; (with_reducible refine (quarryref11_is.calls a0 ji46 43 45 true _ A39.out).mono ?_); rintro e w' ⟨rfl, ⟨nd, rfl⟩⟩; refine ⟨_, rfl, ?_⟩; (try (rw [drewN_self wc]; generalize hq_ : World.drewN wc _ = wc; have n0_ : Aside0 (wc.heap[gb104]? = some (.cells #[.bool x105000_21, .string x105001_21, .string x105002_21, .string x105003_21] 147 (0, 0))) := ⟨by rw [← hq_]; exact (by (with_reducible repeat (first | refine blk_drewN ?_ _ | refine blk_drew ?_ | refine blk_alloc ?_ _)); exact BK104.out)⟩; have n1_ : Aside0 (wc.heap[gb105]? = some (.cells #[.bool x106000_3, .string (a0.extract (x1_3 : Int).toNat (x8_15 : Int).toNat), .string x106002_21, .string (⟨#[]⟩ : ByteArray)] 147 (0, 0))) := ⟨by rw [← hq_]; exact (by (with_reducible repeat (first | refine blk_drewN ?_ _ | refine blk_drew ?_ | refine blk_alloc ?_ _)); exact BK105.out)⟩; have n2_ : Aside0 (Below w.heap.size w wc) := ⟨by rw [← hq_]; exact (by repeat (first | (with_reducible first | exact HB.out | apply below_alloc | apply pw_below_drewN | apply below_drew1 | refine below_set ?_ GE104.out | refine below_set ?_ GE105.out) | exact HB.out))⟩; clear BK104 BK105 HB hq_; have BK104 := n0_; have BK105 := n1_; have HB := n2_; clear n0_ n1_ n2_))) | ((with_reducible refine gate_callee (f := 140) rfl ?_); refine goesL_ (some 71) rfl rfl Tryd.func140 (by kernel_rfl) rfl #[.string a0, .int .i64 (wrap64 ((ji46) + 1))] rfl (by (try simp only [List.map_toArray, List.map_cons, List.map_nil]); first | done | (simp only [hji46]; rfl) | rfl | (simp only [List.length_drop, List.length_take]; rfl)) ?_; (with_reducible refine (quarryref11_digits.calls kj21 a0 (wrap64 ((ji46) + 1)) t113 _ A41.out).mono ?_); rintro e w' ⟨rfl, ⟨nd, rfl⟩⟩; refine ⟨_, rfl, ?_⟩; (try (rw [drewN_self wc]; generalize hq_ : World.drewN wc _ = wc; have n0_ : Aside0 (wc.heap[gb104]? = some (.cells #[.bool x105000_21, .string x105001_21, .string x105002_21, .string x105003_21] 147 (0, 0))) := ⟨by rw [← hq_]; exact (by (with_reducible repeat (first | refine blk_drewN ?_ _ | refine blk_drew ?_ | refine blk_alloc ?_ _)); exact BK104.out)⟩; have n1_ : Aside0 (wc.heap[gb105]? = some (.cells #[.bool x106000_3, .string (a0.extract (x1_3 : Int).toNat (x8_15 : Int).toNat), .string x106002_21, .string (⟨#[]⟩ : ByteArray)] 147 (0, 0))) := ⟨by rw [← hq_]; exact (by (with_reducible repeat (first | refine blk_drewN ?_ _ | refine blk_drew ?_ | refine blk_alloc ?_ _)); exact BK105.out)⟩; have n2_ : Aside0 (Below w.heap.size w wc) := ⟨by rw [← hq_]; exact (by repeat (first | (with_reducible first | exact HB.out | apply below_alloc | apply pw_below_drewN | apply below_drew1 | refine below_set ?_ GE104.out | refine below_set ?_ GE105.out) | exact HB.out))⟩; clear BK104 BK105 HB hq_; have BK104 := n0_; have BK105 := n1_; have HB := n2_; clear n0_ n1_ n2_)); have hnb50 := NB105_104.out; have hnc50 := NB104_105.out; have hcz51_0 : wc.cell? ⟨gb105, 0, none⟩ = some (.bool x106000_3) := (blk_cell BK105.out 0).trans rfl; have hcz51_1 : wc.cell? ⟨gb105, 1, none⟩ = some (.string (a0.extract (x1_3 : Int).toNat (x8_15 : Int).toNat)) := (blk_cell BK105.out 1).trans rfl; have hcz51_2 : wc.cell? ⟨gb105, 2, none⟩ = some (.string x106002_21) := (blk_cell BK105.out 2).trans rfl; have hcz51_3 : wc.cell? ⟨gb105, 3, none⟩ = some (.string (⟨#[]⟩ : ByteArray)) := (blk_cell BK105.out 3).trans rfl; have hfz51_0 := blk_frozen BK105.out 0; have hfz51_1 := blk_frozen BK105.out 1; have hfz51_2 := blk_frozen BK105.out 2; have hfz51_3 := blk_frozen BK105.out 3; have hcz52_0 : wc.cell? ⟨gb104, 0, none⟩ = some (.bool x105000_21) := (blk_cell BK104.out 0).trans rfl; have hcz52_1 : wc.cell? ⟨gb104, 1, none⟩ = some (.string x105001_21) := (blk_cell BK104.out 1).trans rfl; have hcz52_2 : wc.cell? ⟨gb104, 2, none⟩ = some (.string x105002_21) := (blk_cell BK104.out 2).trans rfl; have hcz52_3 : wc.cell? ⟨gb104, 3, none⟩ = some (.string x105003_21) := (blk_cell BK104.out 3).trans rfl; have hfz52_0 := blk_frozen BK104.out 0; have hfz52_1 := blk_frozen BK104.out 1; have hfz52_2 := blk_frozen BK104.out 2; have hfz52_3 := blk_frozen BK104.out 3))
                                      refine bodyPost_ret (results_ctt rfl _ _ gb104 147 #[.bool x106000_3, .string (a0.extract (x1_3 : Int).toNat (x8_15 : Int).toNat), .string x106002_21, .string (a0.extract ((ji46) : Int).toNat (t113 : Int).toNat)] (0, 0) _ rfl (by (with_reducible repeat (first | refine blk_drewN ?_ _ | refine blk_drew ?_ | refine blk_alloc ?_ _)); refine blk_put (cs := #[.bool x106000_3, .string (a0.extract (x1_3 : Int).toNat (x8_15 : Int).toNat), .string x106002_21, .string x105003_21]) ?_ 3 _ rfl; (with_reducible repeat (first | refine blk_drewN ?_ _ | refine blk_drew ?_ | refine blk_alloc ?_ _)); refine blk_put (cs := #[.bool x106000_3, .string (a0.extract (x1_3 : Int).toNat (x8_15 : Int).toNat), .string x105002_21, .string x105003_21]) ?_ 2 _ rfl; (with_reducible repeat (first | refine blk_drewN ?_ _ | refine blk_drew ?_ | refine blk_alloc ?_ _)); refine blk_put (cs := #[.bool x106000_3, .string x105001_21, .string x105002_21, .string x105003_21]) ?_ 1 _ rfl; (with_reducible repeat (first | refine blk_drewN ?_ _ | refine blk_drew ?_ | refine blk_alloc ?_ _)); refine blk_put (cs := #[.bool x105000_21, .string x105001_21, .string x105002_21, .string x105003_21]) ?_ 0 _ rfl; (with_reducible repeat (first | refine blk_drewN ?_ _ | refine blk_drew ?_ | refine blk_alloc ?_ _)); refine blk_far ?_ NB104_105.out _; (with_reducible repeat (first | refine blk_drewN ?_ _ | refine blk_drew ?_ | refine blk_alloc ?_ _)); exact BK104.out) Tryd.underlying147 rfl (by kernel_rfl)) rfl ?_
                                      exact ⟨by first | rfl | (simp [errW_none, errW_some] <;> rfl) | (simp only [← hji46]; first | rfl | (simp [errW_none, errW_some] <;> rfl)) | (simp [*, errW_none, errW_some] <;> rfl), by repeat (first | (with_reducible first | exact HB.out | apply below_alloc | apply pw_below_drewN | apply below_drew1 | refine below_set ?_ GE104.out | refine below_set ?_ GE105.out) | exact HB.out)⟩
                                    · rw [if_neg c49] at H
                                      exact absurd H (by simp)
                                  · rw [if_neg c48] at H
                                    exact absurd H (by simp)
                                · rw [if_neg c47] at H
                                  exact absurd H (by simp)
                            · replace c40 := Bool.eq_false_iff.mpr c40
                              subst c40
                              have H1 : ((quarryref11_digits.f kj21 a0 (wrap64 (x1_21 + 1))).bind fun t114 => (if t114 = (wrap64 (x1_21 + 1)) then (some (x106000_3, (a0.extract (x1_3 : Int).toNat (x8_15 : Int).toNat), x106002_21, (⟨#[]⟩ : ByteArray), t114, false)) else (if 0 ≤ (wrap64 (x1_21 + 1)) then (if (wrap64 (x1_21 + 1)) ≤ t114 then (if t114 ≤ (a0.size : Int) then (some (x106000_3, (a0.extract (x1_3 : Int).toNat (x8_15 : Int).toNat), x106002_21, a0.extract ((wrap64 (x1_21 + 1)) : Int).toNat (t114 : Int).toNat, t114, true)) else (none)) else (none)) else (none)))) = some (r1, r2, r3, r4, r5, r6) := by rw [if_neg (show ¬ (false = true) by decide)] at H; exact H
                              clear H
                              have H := H1
                              clear H1
                              replace H := Option.bind_eq_some_iff.mp H
                              obtain ⟨t114, A530, H⟩ := H
                              replace H : (if t114 = (wrap64 (x1_21 + 1)) then (some (x106000_3, (a0.extract (x1_3 : Int).toNat (x8_15 : Int).toNat), x106002_21, (⟨#[]⟩ : ByteArray), t114, false)) else (if 0 ≤ (wrap64 (x1_21 + 1)) then (if (wrap64 (x1_21 + 1)) ≤ t114 then (if t114 ≤ (a0.size : Int) then (some (x106000_3, (a0.extract (x1_3 : Int).toNat (x8_15 : Int).toNat), x106002_21, a0.extract ((wrap64 (x1_21 + 1)) : Int).toNat (t114 : Int).toNat, t114, true)) else (none)) else (none)) else (none))) = some (r1, r2, r3, r4, r5, r6) := H
                              have A53 := Aside0.mk A530
                              clear A530
                              by_cases c54 : t114 = (wrap64 (x1_21 + 1))
                              · rw [if_pos c54] at H
                                have c54b0 : (t114 == (wrap64 (x1_21 + 1))) = true := beq_iff_eq.mpr c54
                                have c54b1 : (t114 != (wrap64 (x1_21 + 1))) = false := bne_eq_false_iff_eq.mpr c54
                                clear c54
                                simp only [Option.some.injEq, Prod.mk.injEq] at H
                                obtain ⟨rfl, rfl, rfl, rfl, rfl, rfl⟩ := H
                                go_wp2_with (first | ((with_reducible refine gate_callee (f := 138) rfl ?_); refine goesL_ (some 60) rfl rfl Tryd.func138 (by kernel_rfl) rfl #[.string a0, .int .i64 x1_21, .int .u8 101, .int .u8 69] rfl (by (try simp only [List.map_toArray, List.map_cons, List.map_nil]); first | done | rfl | (simp only [List.length_drop, List.length_take]; rfl)) ?_; (with_reducible refine (quarryref11_is.calls a0 x1_21 101 69 true _ A37.out).mono ?_); rintro e w' ⟨rfl, ⟨nd, rfl⟩⟩; refine ⟨_, rfl, ?_⟩; (try (rw [drewN_self wc]; generalize hq_ : World.drewN wc _ = wc; have n0_ : Aside0 (wc.heap[gb104]? = some (.cells #[.bool x105000_21, .string x105001_21, .string x105002_21, .string x105003_21] 147 (0, 0))) := ⟨by rw [← hq_]; exact (by (with_reducible repeat (first | refine blk_drewN ?_ _ | refine blk_drew ?_ | refine blk_alloc ?_ _)); exact BK104.out)⟩; have n1_ : Aside0 (wc.heap[gb105]? = some (.cells #[.bool x106000_3, .string (a0.extract (x1_3 : Int).toNat (x8_15 : Int).toNat), .string x106002_21, .string (⟨#[]⟩ : ByteArray)] 147 (0, 0))) := ⟨by rw [← hq_]; exact (by (with_reducible repeat (first | refine blk_drewN ?_ _ | refine blk_drew ?_ | refine blk_alloc ?_ _)); exact BK105.out)⟩; have n2_ : Aside0 (Below w.heap.size w wc) := ⟨by rw [← hq_]; exact (by repeat (first | (with_reducible first | exact HB.out | apply below_alloc | apply pw_below_drewN | apply below_drew1 | refine below_set ?_ GE104.out | refine below_set ?_ GE105.out) | exact HB.out))⟩; clear BK104 BK105 HB hq_; have BK104 := n0_; have BK105 := n1_; have HB := n2_; clear n0_ n1_ n2_))) | ((with_reducible refine gate_callee (f := 138) rfl ?_); refine goesL_ (some 66) rfl rfl Tryd.func138 (by kernel_rfl) rfl #[.string a0, .int .i64 (wrap64 (x1_21 + 1)), .int .u8 43, .int .u8 45] rfl (by (try simp only [List.map_toArray, List.map_cons, List.map_nil]); first | done | rfl | (simp only [List.length_drop, List.length_take]; rfl)) ?_; (with_reducible refine (quarryref11_is.calls a0 (wrap64 (x1_21 + 1)) 43 45 false _ A39.out).mono ?_); rintro e w' ⟨rfl, ⟨nd, rfl⟩⟩; refine ⟨_, rfl, ?_⟩; (try (rw [drewN_self wc]; generalize hq_ : World.drewN wc _ = wc; have n0_ : Aside0 (wc.heap[gb104]? = some (.cells #[.bool x105000_21, .string x105001_21, .string x105002_21, .string x105003_21] 147 (0, 0))) := ⟨by rw [← hq_]; exact (by (with_reducible repeat (first | refine blk_drewN ?_ _ | refine blk_drew ?_ | refine blk_alloc ?_ _)); exact BK104.out)⟩; have n1_ : Aside0 (wc.heap[gb105]? = some (.cells #[.bool x106000_3, .string (a0.extract (x1_3 : Int).toNat (x8_15 : Int).toNat), .string x106002_21, .string (⟨#[]⟩ : ByteArray)] 147 (0, 0))) := ⟨by rw [← hq_]; exact (by (with_reducible repeat (first | refine blk_drewN ?_ _ | refine blk_drew ?_ | refine blk_alloc ?_ _)); exact BK105.out)⟩; have n2_ : Aside0 (Below w.heap.size w wc) := ⟨by rw [← hq_]; exact (by repeat (first | (with_reducible first | exact HB.out | apply below_alloc | apply pw_below_drewN | apply below_drew1 | refine below_set ?_ GE104.out | refine below_set ?_ GE105.out) | exact HB.out))⟩; clear BK104 BK105 HB hq_; have BK104 := n0_; have BK105 := n1_; have HB := n2_; clear n0_ n1_ n2_))) | ((with_reducible refine gate_callee (f := 140) rfl ?_); refine goesL_ (some 71) rfl rfl Tryd.func140 (by kernel_rfl) rfl #[.string a0, .int .i64 (wrap64 (x1_21 + 1))] rfl (by (try simp only [List.map_toArray, List.map_cons, List.map_nil]); first | done | rfl | (simp only [List.length_drop, List.length_take]; rfl)) ?_; (with_reducible refine (quarryref11_digits.calls kj21 a0 (wrap64 (x1_21 + 1)) t114 _ A53.out).mono ?_); rintro e w' ⟨rfl, ⟨nd, rfl⟩⟩; refine ⟨_, rfl, ?_⟩; (try (rw [drewN_self wc]; generalize hq_ : World.drewN wc _ = wc; have n0_ : Aside0 (wc.heap[gb104]? = some (.cells #[.bool x105000_21, .string x105001_21, .string x105002_21, .string x105003_21] 147 (0, 0))) := ⟨by rw [← hq_]; exact (by (with_reducible repeat (first | refine blk_drewN ?_ _ | refine blk_drew ?_ | refine blk_alloc ?_ _)); exact BK104.out)⟩; have n1_ : Aside0 (wc.heap[gb105]? = some (.cells #[.bool x106000_3, .string (a0.extract (x1_3 : Int).toNat (x8_15 : Int).toNat), .string x106002_21, .string (⟨#[]⟩ : ByteArray)] 147 (0, 0))) := ⟨by rw [← hq_]; exact (by (with_reducible repeat (first | refine blk_drewN ?_ _ | refine blk_drew ?_ | refine blk_alloc ?_ _)); exact BK105.out)⟩; have n2_ : Aside0 (Below w.heap.size w wc) := ⟨by rw [← hq_]; exact (by repeat (first | (with_reducible first | exact HB.out | apply below_alloc | apply pw_below_drewN | apply below_drew1 | refine below_set ?_ GE104.out | refine below_set ?_ GE105.out) | exact HB.out))⟩; clear BK104 BK105 HB hq_; have BK104 := n0_; have BK105 := n1_; have HB := n2_; clear n0_ n1_ n2_)); have hnb55 := NB105_104.out; have hnc55 := NB104_105.out; have hcz56_0 : wc.cell? ⟨gb105, 0, none⟩ = some (.bool x106000_3) := (blk_cell BK105.out 0).trans rfl; have hcz56_1 : wc.cell? ⟨gb105, 1, none⟩ = some (.string (a0.extract (x1_3 : Int).toNat (x8_15 : Int).toNat)) := (blk_cell BK105.out 1).trans rfl; have hcz56_2 : wc.cell? ⟨gb105, 2, none⟩ = some (.string x106002_21) := (blk_cell BK105.out 2).trans rfl; have hcz56_3 : wc.cell? ⟨gb105, 3, none⟩ = some (.string (⟨#[]⟩ : ByteArray)) := (blk_cell BK105.out 3).trans rfl; have hfz56_0 := blk_frozen BK105.out 0; have hfz56_1 := blk_frozen BK105.out 1; have hfz56_2 := blk_frozen BK105.out 2; have hfz56_3 := blk_frozen BK105.out 3; have hcz57_0 : wc.cell? ⟨gb104, 0, none⟩ = some (.bool x105000_21) := (blk_cell BK104.out 0).trans rfl; have hcz57_1 : wc.cell? ⟨gb104, 1, none⟩ = some (.string x105001_21) := (blk_cell BK104.out 1).trans rfl; have hcz57_2 : wc.cell? ⟨gb104, 2, none⟩ = some (.string x105002_21) := (blk_cell BK104.out 2).trans rfl; have hcz57_3 : wc.cell? ⟨gb104, 3, none⟩ = some (.string x105003_21) := (blk_cell BK104.out 3).trans rfl; have hfz57_0 := blk_frozen BK104.out 0; have hfz57_1 := blk_frozen BK104.out 1; have hfz57_2 := blk_frozen BK104.out 2; have hfz57_3 := blk_frozen BK104.out 3))
                                refine bodyPost_ret (results_ctt rfl _ _ gb104 147 #[.bool x106000_3, .string (a0.extract (x1_3 : Int).toNat (x8_15 : Int).toNat), .string x106002_21, .string (⟨#[]⟩ : ByteArray)] (0, 0) _ rfl (by (with_reducible repeat (first | refine blk_drewN ?_ _ | refine blk_drew ?_ | refine blk_alloc ?_ _)); refine blk_put (cs := #[.bool x106000_3, .string (a0.extract (x1_3 : Int).toNat (x8_15 : Int).toNat), .string x106002_21, .string x105003_21]) ?_ 3 _ rfl; (with_reducible repeat (first | refine blk_drewN ?_ _ | refine blk_drew ?_ | refine blk_alloc ?_ _)); refine blk_put (cs := #[.bool x106000_3, .string (a0.extract (x1_3 : Int).toNat (x8_15 : Int).toNat), .string x105002_21, .string x105003_21]) ?_ 2 _ rfl; (with_reducible repeat (first | refine blk_drewN ?_ _ | refine blk_drew ?_ | refine blk_alloc ?_ _)); refine blk_put (cs := #[.bool x106000_3, .string x105001_21, .string x105002_21, .string x105003_21]) ?_ 1 _ rfl; (with_reducible repeat (first | refine blk_drewN ?_ _ | refine blk_drew ?_ | refine blk_alloc ?_ _)); refine blk_put (cs := #[.bool x105000_21, .string x105001_21, .string x105002_21, .string x105003_21]) ?_ 0 _ rfl; (with_reducible repeat (first | refine blk_drewN ?_ _ | refine blk_drew ?_ | refine blk_alloc ?_ _)); exact BK104.out) Tryd.underlying147 rfl (by kernel_rfl)) rfl ?_
                                exact ⟨by first | rfl | (simp [errW_none, errW_some] <;> rfl) | (simp [*, errW_none, errW_some] <;> rfl), by repeat (first | (with_reducible first | exact HB.out | apply below_alloc | apply pw_below_drewN | apply below_drew1 | refine below_set ?_ GE104.out | refine below_set ?_ GE105.out) | exact HB.out)⟩
                              · rw [if_neg c54] at H
                                have c54b0 : (t114 == (wrap64 (x1_21 + 1))) = false := beq_eq_false_iff_ne.mpr c54
                                have c54b1 : (t114 != (wrap64 (x1_21 + 1))) = true := bne_iff_ne.mpr c54
                                obtain ⟨ji58, hji58⟩ : ∃ j_ : Int, (wrap64 (x1_21 + 1)) = j_ := ⟨_, rfl⟩
                                replace H : (if 0 ≤ (ji58) then (if (ji58) ≤ t114 then (if t114 ≤ (a0.size : Int) then (some (x106000_3, (a0.extract (x1_3 : Int).toNat (x8_15 : Int).toNat), x106002_21, a0.extract ((ji58) : Int).toNat (t114 : Int).toNat, t114, true)) else (none)) else (none)) else (none)) = some (r1, r2, r3, r4, r5, r6) := by first | (rw [hji58] at H; exact H) | (simp only [hji58] at H ⊢; exact H)
                                (try rw [hji58] at c54b0)
                                (try rw [hji58] at c54b1)
                                (try rw [hji58] at A37)
                                (try rw [hji58] at A39)
                                (try rw [hji58] at A53)
                                have hji58w : (IntKind.i64.wrap (x1_21 + 1)) = ji58 := (i64_w _).trans hji58
                                by_cases c59 : 0 ≤ (ji58)
                                · rw [if_pos c59] at H
                                  have c59b0 := eq_true c59
                                  have c59b1 : decide (0 ≤ (ji58)) = true := decide_eq_true c59
                                  clear c59
                                  by_cases c60 : (ji58) ≤ t114
                                  · rw [if_pos c60] at H
                                    have c60b0 := eq_true c60
                                    have c60b1 : decide ((ji58) ≤ t114) = true := decide_eq_true c60
                                    clear c60
                                    by_cases c61 : t114 ≤ (a0.size : Int)
                                    · rw [if_pos c61] at H
                                      have c61b0 := eq_true c61
                                      have c61b1 : decide (t114 ≤ (a0.size : Int)) = true := decide_eq_true c61
                                      clear c61
                                      simp only [Option.some.injEq, Prod.mk.injEq] at H
                                      obtain ⟨rfl, rfl, rfl, rfl, rfl, rfl⟩ := H
                                      go_wp2_with (first | ((with_reducible refine gate_callee (f := 138) rfl ?_); refine goesL_ (some 60) rfl rfl Tryd.func138 (by kernel_rfl) rfl #[.string a0, .int .i64 x1_21, .int .u8 101, .int .u8 69] rfl (by (try simp only [List.map_toArray, List.map_cons, List.map_nil]); first | done | rfl | (simp only [List.length_drop, List.length_take]; rfl)) ?_; (with_reducible refine (quarryref11_is.calls a0 x1_21 101 69 true _ A37.out).mono ?_); rintro e w' ⟨rfl, ⟨nd, rfl⟩⟩; refine ⟨_, rfl, ?_⟩; (try (rw [drewN_self wc]; generalize hq_ : World.drewN wc _ = wc; have n0_ : Aside0 (wc.heap[gb104]? = some (.cells #[.bool x105000_21, .string x105001_21, .string x105002_21, .string x105003_21] 147 (0, 0))) := ⟨by rw [← hq_]; exact (by (with_reducible repeat (first | refine blk_drewN ?_ _ | refine blk_drew ?_ | refine blk_alloc ?_ _)); exact BK104.out)⟩; have n1_ : Aside0 (wc.heap[gb105]? = some (.cells #[.bool x106000_3, .string (a0.extract (x1_3 : Int).toNat (x8_15 : Int).toNat), .string x106002_21, .string (⟨#[]⟩ : ByteArray)] 147 (0, 0))) := ⟨by rw [← hq_]; exact (by (with_reducible repeat (first | refine blk_drewN ?_ _ | refine blk_drew ?_ | refine blk_alloc ?_ _)); exact BK105.out)⟩; have n2_ : Aside0 (Below w.heap.size w wc) := ⟨by rw [← hq_]; exact (by repeat (first | (with_reducible first | exact HB.out | apply below_alloc | apply pw_below_drewN | apply below_drew1 | refine below_set ?_ GE104.out | refine below_set ?_ GE105.out) | exact HB.out))⟩; clear BK104 BK105 HB hq_; have BK104 := n0_; have BK105 := n1_; have HB := n2_; clear n0_ n1_ n2_))) | ((with_reducible refine gate_callee (f := 138) rfl ?_); refine goesL_ (some 66) rfl rfl Tryd.func138 (by kernel_rfl) rfl #[.string a0, .int .i64 ji58, .int .u8 43, .int .u8 45] rfl (by (try simp only [List.map_toArray, List.map_cons, List.map_nil]); first | done | (simp only [hji58]; rfl) | rfl | (simp only [List.length_drop, List.length_take]; rfl)) ?_; (with_reducible refine (quarryref11_is.calls a0 ji58 43 45 false _ A39.out).mono ?_); rintro e w' ⟨rfl, ⟨nd, rfl⟩⟩; refine ⟨_, rfl, ?_⟩; (try (rw [drewN_self wc]; generalize hq_ : World.drewN wc _ = wc; have n0_ : Aside0 (wc.heap[gb104]? = some (.cells #[.bool x105000_21, .string x105001_21, .string x105002_21, .string x105003_21] 147 (0, 0))) := ⟨by rw [← hq_]; exact (by (with_reducible repeat (first | refine blk_drewN ?_ _ | refine blk_drew ?_ | refine blk_alloc ?_ _)); exact BK104.out)⟩; have n1_ : Aside0 (wc.heap[gb105]? = some (.cells #[.bool x106000_3, .string (a0.extract (x1_3 : Int).toNat (x8_15 : Int).toNat), .string x106002_21, .string (⟨#[]⟩ : ByteArray)] 147 (0, 0))) := ⟨by rw [← hq_]; exact (by (with_reducible repeat (first | refine blk_drewN ?_ _ | refine blk_drew ?_ | refine blk_alloc ?_ _)); exact BK105.out)⟩; have n2_ : Aside0 (Below w.heap.size w wc) := ⟨by rw [← hq_]; exact (by repeat (first | (with_reducible first | exact HB.out | apply below_alloc | apply pw_below_drewN | apply below_drew1 | refine below_set ?_ GE104.out | refine below_set ?_ GE105.out) | exact HB.out))⟩; clear BK104 BK105 HB hq_; have BK104 := n0_; have BK105 := n1_; have HB := n2_; clear n0_ n1_ n2_))) | ((with_reducible refine gate_callee (f := 140) rfl ?_); refine goesL_ (some 71) rfl rfl Tryd.func140 (by kernel_rfl) rfl #[.string a0, .int .i64 ji58] rfl (by (try simp only [List.map_toArray, List.map_cons, List.map_nil]); first | done | (simp only [hji58]; rfl) | rfl | (simp only [List.length_drop, List.length_take]; rfl)) ?_; (with_reducible refine (quarryref11_digits.calls kj21 a0 ji58 t114 _ A53.out).mono ?_); rintro e w' ⟨rfl, ⟨nd, rfl⟩⟩; refine ⟨_, rfl, ?_⟩; (try (rw [drewN_self wc]; generalize hq_ : World.drewN wc _ = wc; have n0_ : Aside0 (wc.heap[gb104]? = some (.cells #[.bool x105000_21, .string x105001_21, .string x105002_21, .string x105003_21] 147 (0, 0))) := ⟨by rw [← hq_]; exact (by (with_reducible repeat (first | refine blk_drewN ?_ _ | refine blk_drew ?_ | refine blk_alloc ?_ _)); exact BK104.out)⟩; have n1_ : Aside0 (wc.heap[gb105]? = some (.cells #[.bool x106000_3, .string (a0.extract (x1_3 : Int).toNat (x8_15 : Int).toNat), .string x106002_21, .string (⟨#[]⟩ : ByteArray)] 147 (0, 0))) := ⟨by rw [← hq_]; exact (by (with_reducible repeat (first | refine blk_drewN ?_ _ | refine blk_drew ?_ | refine blk_alloc ?_ _)); exact BK105.out)⟩; have n2_ : Aside0 (Below w.heap.size w wc) := ⟨by rw [← hq_]; exact (by repeat (first | (with_reducible first | exact HB.out | apply below_alloc | apply pw_below_drewN | apply below_drew1 | refine below_set ?_ GE104.out | refine below_set ?_ GE105.out) | exact HB.out))⟩; clear BK104 BK105 HB hq_; have BK104 := n0_; have BK105 := n1_; have HB := n2_; clear n0_ n1_ n2_)); have hnb62 := NB105_104.out; have hnc62 := NB104_105.out; have hcz63_0 : wc.cell? ⟨gb105, 0, none⟩ = some (.bool x106000_3) := (blk_cell BK105.out 0).trans rfl; have hcz63_1 : wc.cell? ⟨gb105, 1, none⟩ = some (.string (a0.extract (x1_3 : Int).toNat (x8_15 : Int).toNat)) := (blk_cell BK105.out 1).trans rfl; have hcz63_2 : wc.cell? ⟨gb105, 2, none⟩ = some (.string x106002_21) := (blk_cell BK105.out 2).trans rfl; have hcz63_3 : wc.cell? ⟨gb105, 3, none⟩ = some (.string (⟨#[]⟩ : ByteArray)) := (blk_cell BK105.out 3).trans rfl; have hfz63_0 := blk_frozen BK105.out 0; have hfz63_1 := blk_frozen BK105.out 1; have hfz63_2 := blk_frozen BK105.out 2; have hfz63_3 := blk_frozen BK105.out 3; have hcz64_0 : wc.cell? ⟨gb104, 0, none⟩ = some (.bool x105000_21) := (blk_cell BK104.out 0).trans rfl; have hcz64_1 : wc.cell? ⟨gb104, 1, none⟩ = some (.string x105001_21) := (blk_cell BK104.out 1).trans rfl; have hcz64_2 : wc.cell? ⟨gb104, 2, none⟩ = some (.string x105002_21) := (blk_cell BK104.out 2).trans rfl; have hcz64_3 : wc.cell? ⟨gb104, 3, none⟩ = some (.string x105003_21) := (blk_cell BK104.out 3).trans rfl; have hfz64_0 := blk_frozen BK104.out 0; have hfz64_1 := blk_frozen BK104.out 1; have hfz64_2 := blk_frozen BK104.out 2; have hfz64_3 := blk_frozen BK104.out 3))
                                      refine bodyPost_ret (results_ctt rfl _ _ gb104 147 #[.bool x106000_3, .string (a0.extract (x1_3 : Int).toNat (x8_15 : Int).toNat), .string x106002_21, .string (a0.extract ((ji58) : Int).toNat (t114 : Int).toNat)] (0, 0) _ rfl (by (with_reducible repeat (first | refine blk_drewN ?_ _ | refine blk_drew ?_ | refine blk_alloc ?_ _)); refine blk_put (cs := #[.bool x106000_3, .string (a0.extract (x1_3 : Int).toNat (x8_15 : Int).toNat), .string x106002_21, .string x105003_21]) ?_ 3 _ rfl; (with_reducible repeat (first | refine blk_drewN ?_ _ | refine blk_drew ?_ | refine blk_alloc ?_ _)); refine blk_put (cs := #[.bool x106000_3, .string (a0.extract (x1_3 : Int).toNat (x8_15 : Int).toNat), .string x105002_21, .string x105003_21]) ?_ 2 _ rfl; (with_reducible repeat (first | refine blk_drewN ?_ _ | refine blk_drew ?_ | refine blk_alloc ?_ _)); refine blk_put (cs := #[.bool x106000_3, .string x105001_21, .string x105002_21, .string x105003_21]) ?_ 1 _ rfl; (with_reducible repeat (first | refine blk_drewN ?_ _ | refine blk_drew ?_ | refine blk_alloc ?_ _)); refine blk_put (cs := #[.bool x105000_21, .string x105001_21, .string x105002_21, .string x105003_21]) ?_ 0 _ rfl; (with_reducible repeat (first | refine blk_drewN ?_ _ | refine blk_drew ?_ | refine blk_alloc ?_ _)); refine blk_far ?_ NB104_105.out _; (with_reducible repeat (first | refine blk_drewN ?_ _ | refine blk_drew ?_ | refine blk_alloc ?_ _)); exact BK104.out) Tryd.underlying147 rfl (by kernel_rfl)) rfl ?_
                                      exact ⟨by first | rfl | (simp [errW_none, errW_some] <;> rfl) | (simp only [← hji58]; first | rfl | (simp [errW_none, errW_some] <;> rfl)) | (simp [*, errW_none, errW_some] <;> rfl), by repeat (first | (with_reducible first | exact HB.out | apply below_alloc | apply pw_below_drewN | apply below_drew1 | refine below_set ?_ GE104.out | refine below_set ?_ GE105.out) | exact HB.out)⟩
                                    · rw [if_neg c61] at H
                                      exact absurd H (by simp)
                                  · rw [if_neg c60] at H
                                    exact absurd H (by simp)
                                · rw [if_neg c59] at H
                                  exact absurd H (by simp)
                          · replace c38 := Bool.eq_false_iff.mpr c38
                            subst c38
                            have H1 : (some (x106000_3, (a0.extract (x1_3 : Int).toNat (x8_15 : Int).toNat), x106002_21, (⟨#[]⟩ : ByteArray), x1_21, true)) = some (r1, r2, r3, r4, r5, r6) := by rw [if_neg (show ¬ (false = true) by decide)] at H; exact H
                            clear H
                            have H := H1
                            clear H1
                            simp only [Option.some.injEq, Prod.mk.injEq] at H
                            obtain ⟨rfl, rfl, rfl, rfl, rfl, rfl⟩ := H
                            go_wp2_with (first | ((with_reducible refine gate_callee (f := 138) rfl ?_); refine goesL_ (some 60) rfl rfl Tryd.func138 (by kernel_rfl) rfl #[.string a0, .int .i64 x1_21, .int .u8 101, .int .u8 69] rfl (by (try simp only [List.map_toArray, List.map_cons, List.map_nil]); first | done | rfl | (simp only [List.length_drop, List.length_take]; rfl)) ?_; (with_reducible refine (quarryref11_is.calls a0 x1_21 101 69 false _ A37.out).mono ?_); rintro e w' ⟨rfl, ⟨nd, rfl⟩⟩; refine ⟨_, rfl, ?_⟩; (try (rw [drewN_self wc]; generalize hq_ : World.drewN wc _ = wc; have n0_ : Aside0 (wc.heap[gb104]? = some (.cells #[.bool x105000_21, .string x105001_21, .string x105002_21, .string x105003_21] 147 (0, 0))) := ⟨by rw [← hq_]; exact (by (with_reducible repeat (first | refine blk_drewN ?_ _ | refine blk_drew ?_ | refine blk_alloc ?_ _)); exact BK104.out)⟩; have n1_ : Aside0 (wc.heap[gb105]? = some (.cells #[.bool x106000_3, .string (a0.extract (x1_3 : Int).toNat (x8_15 : Int).toNat), .string x106002_21, .string (⟨#[]⟩ : ByteArray)] 147 (0, 0))) := ⟨by rw [← hq_]; exact (by (with_reducible repeat (first | refine blk_drewN ?_ _ | refine blk_drew ?_ | refine blk_alloc ?_ _)); exact BK105.out)⟩; have n2_ : Aside0 (Below w.heap.size w wc) := ⟨by rw [← hq_]; exact (by repeat (first | (with_reducible first | exact HB.out | apply below_alloc | apply pw_below_drewN | apply below_drew1 | refine below_set ?_ GE104.out | refine below_set ?_ GE105.out) | exact HB.out))⟩; clear BK104 BK105 HB hq_; have BK104 := n0_; have BK105 := n1_; have HB := n2_; clear n0_ n1_ n2_)); have hnb65 := NB105_104.out; have hnc65 := NB104_105.out; have hcz66_0 : wc.cell? ⟨gb105, 0, none⟩ = some (.bool x106000_3) := (blk_cell BK105.out 0).trans rfl; have hcz66_1 : wc.cell? ⟨gb105, 1, none⟩ = some (.string (a0.extract (x1_3 : Int).toNat (x8_15 : Int).toNat)) := (blk_cell BK105.out 1).trans rfl; have hcz66_2 : wc.cell? ⟨gb105, 2, none⟩ = some (.string x106002_21) := (blk_cell BK105.out 2).trans rfl; have hcz66_3 : wc.cell? ⟨gb105, 3, none⟩ = some (.string (⟨#[]⟩ : ByteArray)) := (blk_cell BK105.out 3).trans rfl; have hfz66_0 := blk_frozen BK105.out 0; have hfz66_1 := blk_frozen BK105.out 1; have hfz66_2 := blk_frozen BK105.out 2; have hfz66_3 := blk_frozen BK105.out 3; have hcz67_0 : wc.cell? ⟨gb104, 0, none⟩ = some (.bool x105000_21) := (blk_cell BK104.out 0).trans rfl; have hcz67_1 : wc.cell? ⟨gb104, 1, none⟩ = some (.string x105001_21) := (blk_cell BK104.out 1).trans rfl; have hcz67_2 : wc.cell? ⟨gb104, 2, none⟩ = some (.string x105002_21) := (blk_cell BK104.out 2).trans rfl; have hcz67_3 : wc.cell? ⟨gb104, 3, none⟩ = some (.string x105003_21) := (blk_cell BK104.out 3).trans rfl; have hfz67_0 := blk_frozen BK104.out 0; have hfz67_1 := blk_frozen BK104.out 1; have hfz67_2 := blk_frozen BK104.out 2; have hfz67_3 := blk_frozen BK104.out 3))
                            refine bodyPost_ret (results_ctt rfl _ _ gb104 147 #[.bool x106000_3, .string (a0.extract (x1_3 : Int).toNat (x8_15 : Int).toNat), .string x106002_21, .string (⟨#[]⟩ : ByteArray)] (0, 0) _ rfl (by (with_reducible repeat (first | refine blk_drewN ?_ _ | refine blk_drew ?_ | refine blk_alloc ?_ _)); refine blk_put (cs := #[.bool x106000_3, .string (a0.extract (x1_3 : Int).toNat (x8_15 : Int).toNat), .string x106002_21, .string x105003_21]) ?_ 3 _ rfl; (with_reducible repeat (first | refine blk_drewN ?_ _ | refine blk_drew ?_ | refine blk_alloc ?_ _)); refine blk_put (cs := #[.bool x106000_3, .string (a0.extract (x1_3 : Int).toNat (x8_15 : Int).toNat), .string x105002_21, .string x105003_21]) ?_ 2 _ rfl; (with_reducible repeat (first | refine blk_drewN ?_ _ | refine blk_drew ?_ | refine blk_alloc ?_ _)); refine blk_put (cs := #[.bool x106000_3, .string x105001_21, .string x105002_21, .string x105003_21]) ?_ 1 _ rfl; (with_reducible repeat (first | refine blk_drewN ?_ _ | refine blk_drew ?_ | refine blk_alloc ?_ _)); refine blk_put (cs := #[.bool x105000_21, .string x105001_21, .string x105002_21, .string x105003_21]) ?_ 0 _ rfl; (with_reducible repeat (first | refine blk_drewN ?_ _ | refine blk_drew ?_ | refine blk_alloc ?_ _)); exact BK104.out) Tryd.underlying147 rfl (by kernel_rfl)) rfl ?_
                            exact ⟨by first | rfl | (simp [errW_none, errW_some] <;> rfl) | (simp [*, errW_none, errW_some] <;> rfl), by repeat (first | (with_reducible first | exact HB.out | apply below_alloc | apply pw_below_drewN | apply below_drew1 | refine below_set ?_ GE104.out | refine below_set ?_ GE105.out) | exact HB.out)⟩
                    · rw [if_neg c20] at H
                      exact absurd H (by simp)
                  · rw [if_neg c19] at H
                    exact absurd H (by simp)
                · rw [if_neg c18] at H
                  exact absurd H (by simp)
          · rw [if_neg c14] at H
            exact absurd H (by simp)
        · rw [if_neg c13] at H
          exact absurd H (by simp)
      · replace c11 := Bool.eq_false_iff.mpr c11
        subst c11
        have H1 : (some (x106000_3, (⟨#[]⟩ : ByteArray), (⟨#[]⟩ : ByteArray), (⟨#[]⟩ : ByteArray), x1_3, false)) = some (r1, r2, r3, r4, r5, r6) := by rw [if_neg (show ¬ (false = true) by decide)] at H; exact H
        clear H
        have H := H1
        clear H1
        simp only [Option.some.injEq, Prod.mk.injEq] at H
        obtain ⟨rfl, rfl, rfl, rfl, rfl, rfl⟩ := H
        go_wp2_with (first | ((with_reducible refine gate_callee (f := 139) rfl ?_); refine goesL_ (some 19) rfl rfl Tryd.func139 (by kernel_rfl) rfl #[.string a0, .int .i64 x1_3] rfl (by (try simp only [List.map_toArray, List.map_cons, List.map_nil]); first | done | rfl | (simp only [List.length_drop, List.length_take]; rfl)) ?_; (with_reducible refine (quarryref11_digit.calls a0 x1_3 false _ A10.out).mono ?_); rintro e w' ⟨rfl, ⟨nd, rfl⟩⟩; refine ⟨_, rfl, ?_⟩; (try (rw [drewN_self wc]; generalize hq_ : World.drewN wc _ = wc; have n0_ : Aside0 (wc.heap[gb104]? = some (.cells #[.bool false, .string (⟨#[]⟩ : ByteArray), .string (⟨#[]⟩ : ByteArray), .string (⟨#[]⟩ : ByteArray)] 147 (0, 0))) := ⟨by rw [← hq_]; exact (by (with_reducible repeat (first | refine blk_drewN ?_ _ | refine blk_drew ?_ | refine blk_alloc ?_ _)); exact BK104.out)⟩; have n1_ : Aside0 (wc.heap[gb105]? = some (.cells #[.bool x106000_3, .string (⟨#[]⟩ : ByteArray), .string (⟨#[]⟩ : ByteArray), .string (⟨#[]⟩ : ByteArray)] 147 (0, 0))) := ⟨by rw [← hq_]; exact (by (with_reducible repeat (first | refine blk_drewN ?_ _ | refine blk_drew ?_ | refine blk_alloc ?_ _)); exact BK105.out)⟩; have n2_ : Aside0 (Below w.heap.size w wc) := ⟨by rw [← hq_]; exact (by repeat (first | (with_reducible first | exact HB.out | apply below_alloc | apply pw_below_drewN | apply below_drew1 | refine below_set ?_ GE104.out | refine below_set ?_ GE105.out) | exact HB.out))⟩; clear BK104 BK105 HB hq_; have BK104 := n0_; have BK105 := n1_; have HB := n2_; clear n0_ n1_ n2_)); have hnb68 := NB105_104.out; have hnc68 := NB104_105.out; have hcz69_0 : wc.cell? ⟨gb105, 0, none⟩ = some (.bool x106000_3) := (blk_cell BK105.out 0).trans rfl; have hcz69_1 : wc.cell? ⟨gb105, 1, none⟩ = some (.string (⟨#[]⟩ : ByteArray)) := (blk_cell BK105.out 1).trans rfl; have hcz69_2 : wc.cell? ⟨gb105, 2, none⟩ = some (.string (⟨#[]⟩ : ByteArray)) := (blk_cell BK105.out 2).trans rfl; have hcz69_3 : wc.cell? ⟨gb105, 3, none⟩ = some (.string (⟨#[]⟩ : ByteArray)) := (blk_cell BK105.out 3).trans rfl; have hfz69_0 := blk_frozen BK105.out 0; have hfz69_1 := blk_frozen BK105.out 1; have hfz69_2 := blk_frozen BK105.out 2; have hfz69_3 := blk_frozen BK105.out 3; have hcz70_0 : wc.cell? ⟨gb104, 0, none⟩ = some (.bool false) := (blk_cell BK104.out 0).trans rfl; have hcz70_1 : wc.cell? ⟨gb104, 1, none⟩ = some (.string (⟨#[]⟩ : ByteArray)) := (blk_cell BK104.out 1).trans rfl; have hcz70_2 : wc.cell? ⟨gb104, 2, none⟩ = some (.string (⟨#[]⟩ : ByteArray)) := (blk_cell BK104.out 2).trans rfl; have hcz70_3 : wc.cell? ⟨gb104, 3, none⟩ = some (.string (⟨#[]⟩ : ByteArray)) := (blk_cell BK104.out 3).trans rfl; have hfz70_0 := blk_frozen BK104.out 0; have hfz70_1 := blk_frozen BK104.out 1; have hfz70_2 := blk_frozen BK104.out 2; have hfz70_3 := blk_frozen BK104.out 3))
        refine bodyPost_ret (results_ctt rfl _ _ gb104 147 #[.bool x106000_3, .string (⟨#[]⟩ : ByteArray), .string (⟨#[]⟩ : ByteArray), .string (⟨#[]⟩ : ByteArray)] (0, 0) _ rfl (by (with_reducible repeat (first | refine blk_drewN ?_ _ | refine blk_drew ?_ | refine blk_alloc ?_ _)); refine blk_put (cs := #[.bool x106000_3, .string (⟨#[]⟩ : ByteArray), .string (⟨#[]⟩ : ByteArray), .string (⟨#[]⟩ : ByteArray)]) ?_ 3 _ rfl; (with_reducible repeat (first | refine blk_drewN ?_ _ | refine blk_drew ?_ | refine blk_alloc ?_ _)); refine blk_put (cs := #[.bool x106000_3, .string (⟨#[]⟩ : ByteArray), .string (⟨#[]⟩ : ByteArray), .string (⟨#[]⟩ : ByteArray)]) ?_ 2 _ rfl; (with_reducible repeat (first | refine blk_drewN ?_ _ | refine blk_drew ?_ | refine blk_alloc ?_ _)); refine blk_put (cs := #[.bool x106000_3, .string (⟨#[]⟩ : ByteArray), .string (⟨#[]⟩ : ByteArray), .string (⟨#[]⟩ : ByteArray)]) ?_ 1 _ rfl; (with_reducible repeat (first | refine blk_drewN ?_ _ | refine blk_drew ?_ | refine blk_alloc ?_ _)); refine blk_put (cs := #[.bool false, .string (⟨#[]⟩ : ByteArray), .string (⟨#[]⟩ : ByteArray), .string (⟨#[]⟩ : ByteArray)]) ?_ 0 _ rfl; (with_reducible repeat (first | refine blk_drewN ?_ _ | refine blk_drew ?_ | refine blk_alloc ?_ _)); exact BK104.out) Tryd.underlying147 rfl (by kernel_rfl)) rfl ?_
        exact ⟨by first | rfl | (simp [errW_none, errW_some] <;> rfl) | (simp [*, errW_none, errW_some] <;> rfl), by repeat (first | (with_reducible first | exact HB.out | apply below_alloc | apply pw_below_drewN | apply below_drew1 | refine below_set ?_ GE104.out | refine below_set ?_ GE105.out) | exact HB.out)⟩

end Go.Proofs.YtkjmbibnfohkjaaDoor.PWholeUints
