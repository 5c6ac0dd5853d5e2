/- The machine side of a statement, laid by the kit's print program, run by wip/tools/gprint.py: some functions' contracts are given, proved by hand. -/
import Derived.Test.YtjjnmpidlkjeiaaPWordsTurnsx0
namespace Go.Proofs.Ytjjnmpidlkjeiaa.PWordsTurns
open Go.RowKit Go.Proofs.YtjjnmpidlkjeiaaW.PrintWords Go.Proofs.YtjjnmpidlkjeiaaW.PrintLast Go.Proofs.YtjjnmpidlkjeiaaW.PrintMore
attribute [local go_sem] max2_int min2_int max_two min_two max_three min_three max_four min_four   -- for this text's walks alone
set_option linter.unusedVariables false
set_option linter.unusedSimpArgs false

/-! ### words_Prefix: function 11 -/
def words_Prefix.l0 : Nat → Int → Int → Option (Int)
  | 0, _, _ => none
  | k + 1, x0, x3 => if x3 < 64 then (if 0 ≤ x3 then (words_Prefix.l0 k (Go.bits .xor .u64 x0 (shl .u64 x0 x3)) (wrap64 (x3 * 2))) else (none)) else (some x0)
def words_Prefix.f (k : Nat) (a0 : Int) : Option (Int) := words_Prefix.l0 k a0 1
theorem words_Prefix.mono_l : ∀ k, (∀ y0 y1, LeO (words_Prefix.l0 k y0 y1) (words_Prefix.l0 (k + 1) y0 y1))
  | 0 => fun _ _ r h => by simp [words_Prefix.l0] at h
  | k + 1 => by
    have ih0 := words_Prefix.mono_l k
    · intro y0 y1
      unfold words_Prefix.l0
      repeat' first
      | (with_reducible exact ih0 _ _)
      | (with_reducible exact LeO.refl _)
      | (with_reducible exact LeO.none _)
      | (with_reducible refine LeO.ite ?_ ?_)
      | (with_reducible refine LeO.bind ?_ (fun _ => ?_))
      | exact ih0 _ _
      | exact LeO.none _
      | refine LeO.ite ?_ ?_
      | refine LeO.bind ?_ (fun _ => ?_)
theorem words_Prefix.mono : ∀ a0 k, LeO (words_Prefix.f k a0) (words_Prefix.f (k + 1) a0) := by
  intro a0 k
  have ih0 := words_Prefix.mono_l k
  unfold words_Prefix.f
  repeat' first
      | (with_reducible exact ih0 _ _)
      | (with_reducible exact LeO.refl _)
      | (with_reducible exact LeO.none _)
      | (with_reducible refine LeO.ite ?_ ?_)
      | (with_reducible refine LeO.bind ?_ (fun _ => ?_))
      | exact ih0 _ _
      | exact LeO.none _
      | refine LeO.ite ?_ ?_
      | refine LeO.bind ?_ (fun _ => ?_)
set_option maxHeartbeats 8000000 in
set_option maxRecDepth 100000 in
theorem words_Prefix.calls (k : Nat) (a0 : Int) (r : Int) (w : World) (h : words_Prefix.f k a0 = some r) :
    Calls Try.prog 11 #[.int .u64 a0] w fun e w' => e = .returned (.int .u64 r) ∧ Drawn0 w w' := by
  have H : (words_Prefix.l0 k a0 1) = some r := h
  clear h
  have H' := Aside0.mk H
  clear H
  go_enter Try.func11, Try.ntmps11
  go_wp2
  go_loopg [0, 3] k (fun kq v0 v3 w' => ∃ (x0_1 : Int) (x3_1 : Int), v0 = .int .u64 x0_1 ∧ v3 = .int .i64 x3_1 ∧ Aside0 (words_Prefix.l0 kq x0_1 x3_1 = some r) ∧ Aside0 (kq ≤ k) ∧ Drawn0 w w')
  case atStart => exact ⟨(a0), (1), (by first | rfl | (simp; done) | (simp [*]; done)), (by first | rfl | (simp; done) | (simp [*]; done)), H', ⟨Nat.le_refl _⟩, by repeat (first | exact Drawn0.refl _ | apply Drawn0.step)⟩
  case round =>
    clear H'
    try clear c1
    obtain ⟨x0_1, x3_1, rfl, rfl, HA, HK1, ⟨m1, rfl⟩⟩ := hrel
    cases gk with
    | zero => exact absurd HA.out (by simp [words_Prefix.l0])
    | succ k1 =>
      have H := HA.out
      clear HA
      simp only [words_Prefix.l0] at H
      by_cases c2 : x3_1 < 64
      · rw [if_pos c2] at H
        have c2b0 : decide (x3_1 < 64) = true := decide_eq_true c2
        clear c2
        by_cases c3 : 0 ≤ x3_1
        · rw [if_pos c3] at H
          have c3b0 := eq_true c3
          have c3b1 : decide (0 ≤ x3_1) = true := decide_eq_true c3
          clear c3
          obtain ⟨ji4, hji4⟩ : ∃ j_ : Int, (shl .u64 x0_1 x3_1) = j_ := ⟨_, rfl⟩
          replace H : (words_Prefix.l0 k1 (Go.bits .xor .u64 x0_1 (ji4)) (wrap64 (x3_1 * 2))) = some r := by first | (rw [hji4] at H; exact H) | (simp only [hji4] at H ⊢; exact H)
          have hji4_ : (IntKind.u64.wrap (x0_1 * 2 ^ min x3_1.toNat 64)) = ji4 := hji4
          have hji4z : x3_1 ≤ 64 → (IntKind.u64.wrap (x0_1 * 2 ^ x3_1.toNat)) = ji4 := shl_small hji4
          have H' := Aside0.mk H
          clear H
          go_wp2
          go_roundg k1
          case measure => have := HK1.out; omega
          case rel => exact ⟨(Go.bits .xor .u64 x0_1 (ji4)), (wrap64 (x3_1 * 2)), (by first | rfl | (simp; done) | (simp only [← hji4] <;> (first | rfl | simp)) | (simp [*]; done)), (by first | rfl | (simp; done) | (simp [*]; done)), H', ⟨by have := HK1.out; omega⟩, by repeat (first | exact Drawn0.refl _ | apply Drawn0.step)⟩
        · rw [if_neg c3] at H
          exact absurd H (by simp)
      · rw [if_neg c2] at H
        have c2b0 : decide (x3_1 < 64) = false := decide_eq_false c2
        clear c2
        obtain rfl := Option.some.inj H
        go_wp2
        go_ret
        exact ⟨by first | rfl | (simp; done) | (simp [*]; done), by repeat (first | exact Drawn0.refl _ | apply Drawn0.step)⟩

/-! ### quarrylaw03_WordsTurns: function 6 -/
def quarrylaw03_WordsTurns.f (k : Nat) (a0 : Int) (a1 : Int) (a2 : Bool) : Option (Bool) := (words_Prefix.f k a0).bind fun t101 => ((words_Add.f a0 a1 a2).bind fun bt102 => (if a2 = true then (if bt102.1 < a0 then (if (Go.bits .xor .u64 t101 (IntKind.u64.wrap (t101 * 2))) = a0 then ((words_Prefix.f k (Go.bits .xor .u64 a0 a1)).bind fun t104 => ((words_Prefix.f k a1).bind fun t105 => (if t104 = (Go.bits .xor .u64 t101 t105) then (if (IntKind.u64.wrap ((IntKind.u64.wrap (bt102.1 - a1)) - 1)) = a0 then (some (bt102.2 == true)) else (some false)) else (some false)))) else (some false)) else (if bt102.1 = a0 then (if (Go.bits .xor .u64 t101 (IntKind.u64.wrap (t101 * 2))) = a0 then ((words_Prefix.f k (Go.bits .xor .u64 a0 a1)).bind fun t106 => ((words_Prefix.f k a1).bind fun t107 => (if t106 = (Go.bits .xor .u64 t101 t107) then (if (IntKind.u64.wrap ((IntKind.u64.wrap (bt102.1 - a1)) - 1)) = a0 then (some (bt102.2 == a2)) else (some false)) else (some false)))) else (some false)) else (if (Go.bits .xor .u64 t101 (IntKind.u64.wrap (t101 * 2))) = a0 then ((words_Prefix.f k (Go.bits .xor .u64 a0 a1)).bind fun t108 => ((words_Prefix.f k a1).bind fun t109 => (if t108 = (Go.bits .xor .u64 t101 t109) then (if (IntKind.u64.wrap ((IntKind.u64.wrap (bt102.1 - a1)) - 1)) = a0 then (some (bt102.2 == false)) else (some false)) else (some false)))) else (some false)))) else (if bt102.1 < a0 then (if (Go.bits .xor .u64 t101 (IntKind.u64.wrap (t101 * 2))) = a0 then ((words_Prefix.f k (Go.bits .xor .u64 a0 a1)).bind fun t110 => ((words_Prefix.f k a1).bind fun t111 => (if t110 = (Go.bits .xor .u64 t101 t111) then (if (IntKind.u64.wrap ((IntKind.u64.wrap (bt102.1 - a1)))) = a0 then (some (bt102.2 == true)) else (some false)) else (some false)))) else (some false)) else (if bt102.1 = a0 then (if (Go.bits .xor .u64 t101 (IntKind.u64.wrap (t101 * 2))) = a0 then ((words_Prefix.f k (Go.bits .xor .u64 a0 a1)).bind fun t112 => ((words_Prefix.f k a1).bind fun t113 => (if t112 = (Go.bits .xor .u64 t101 t113) then (if (IntKind.u64.wrap ((IntKind.u64.wrap (bt102.1 - a1)))) = a0 then (some (bt102.2 == a2)) else (some false)) else (some false)))) else (some false)) else (if (Go.bits .xor .u64 t101 (IntKind.u64.wrap (t101 * 2))) = a0 then ((words_Prefix.f k (Go.bits .xor .u64 a0 a1)).bind fun t114 => ((words_Prefix.f k a1).bind fun t115 => (if t114 = (Go.bits .xor .u64 t101 t115) then (if (IntKind.u64.wrap ((IntKind.u64.wrap (bt102.1 - a1)))) = a0 then (some (bt102.2 == false)) else (some false)) else (some false)))) else (some false))))))
theorem quarrylaw03_WordsTurns.mono : ∀ a0 a1 a2 k, LeO (quarrylaw03_WordsTurns.f k a0 a1 a2) (quarrylaw03_WordsTurns.f (k + 1) a0 a1 a2) := by
  intro a0 a1 a2 k
  unfold quarrylaw03_WordsTurns.f
  repeat' first
      | (with_reducible exact words_Prefix.mono _ _)
      | (with_reducible exact LeO.refl _)
      | (with_reducible exact LeO.none _)
      | (with_reducible refine LeO.ite ?_ ?_)
      | (with_reducible refine LeO.bind ?_ (fun _ => ?_))
      | exact words_Prefix.mono _ _
      | exact LeO.none _
      | refine LeO.ite ?_ ?_
      | refine LeO.bind ?_ (fun _ => ?_)
set_option maxHeartbeats 8000000 in
set_option maxRecDepth 100000 in
theorem quarrylaw03_WordsTurns.calls (k : Nat) (a0 : Int) (a1 : Int) (a2 : Bool) (r : Bool) (w : World) (h : quarrylaw03_WordsTurns.f k a0 a1 a2 = some r) :
    Calls Try.prog 6 #[.int .u64 a0, .int .u64 a1, .bool a2] w fun e w' => e = .returned (.bool r) ∧ Drawn0 w w' := by
  have H : ((words_Prefix.f k a0).bind fun t101 => ((words_Add.f a0 a1 a2).bind fun bt102 => (if a2 = true then (if bt102.1 < a0 then (if (Go.bits .xor .u64 t101 (IntKind.u64.wrap (t101 * 2))) = a0 then ((words_Prefix.f k (Go.bits .xor .u64 a0 a1)).bind fun t104 => ((words_Prefix.f k a1).bind fun t105 => (if t104 = (Go.bits .xor .u64 t101 t105) then (if (IntKind.u64.wrap ((IntKind.u64.wrap (bt102.1 - a1)) - 1)) = a0 then (some (bt102.2 == true)) else (some false)) else (some false)))) else (some false)) else (if bt102.1 = a0 then (if (Go.bits .xor .u64 t101 (IntKind.u64.wrap (t101 * 2))) = a0 then ((words_Prefix.f k (Go.bits .xor .u64 a0 a1)).bind fun t106 => ((words_Prefix.f k a1).bind fun t107 => (if t106 = (Go.bits .xor .u64 t101 t107) then (if (IntKind.u64.wrap ((IntKind.u64.wrap (bt102.1 - a1)) - 1)) = a0 then (some (bt102.2 == a2)) else (some false)) else (some false)))) else (some false)) else (if (Go.bits .xor .u64 t101 (IntKind.u64.wrap (t101 * 2))) = a0 then ((words_Prefix.f k (Go.bits .xor .u64 a0 a1)).bind fun t108 => ((words_Prefix.f k a1).bind fun t109 => (if t108 = (Go.bits .xor .u64 t101 t109) then (if (IntKind.u64.wrap ((IntKind.u64.wrap (bt102.1 - a1)) - 1)) = a0 then (some (bt102.2 == false)) else (some false)) else (some false)))) else (some false)))) else (if bt102.1 < a0 then (if (Go.bits .xor .u64 t101 (IntKind.u64.wrap (t101 * 2))) = a0 then ((words_Prefix.f k (Go.bits .xor .u64 a0 a1)).bind fun t110 => ((words_Prefix.f k a1).bind fun t111 => (if t110 = (Go.bits .xor .u64 t101 t111) then (if (IntKind.u64.wrap ((IntKind.u64.wrap (bt102.1 - a1)))) = a0 then (some (bt102.2 == true)) else (some false)) else (some false)))) else (some false)) else (if bt102.1 = a0 then (if (Go.bits .xor .u64 t101 (IntKind.u64.wrap (t101 * 2))) = a0 then ((words_Prefix.f k (Go.bits .xor .u64 a0 a1)).bind fun t112 => ((words_Prefix.f k a1).bind fun t113 => (if t112 = (Go.bits .xor .u64 t101 t113) then (if (IntKind.u64.wrap ((IntKind.u64.wrap (bt102.1 - a1)))) = a0 then (some (bt102.2 == a2)) else (some false)) else (some false)))) else (some false)) else (if (Go.bits .xor .u64 t101 (IntKind.u64.wrap (t101 * 2))) = a0 then ((words_Prefix.f k (Go.bits .xor .u64 a0 a1)).bind fun t114 => ((words_Prefix.f k a1).bind fun t115 => (if t114 = (Go.bits .xor .u64 t101 t115) then (if (IntKind.u64.wrap ((IntKind.u64.wrap (bt102.1 - a1)))) = a0 then (some (bt102.2 == false)) else (some false)) else (some false)))) else (some false))))))) = some r := h
  clear h
  replace H := Option.bind_eq_some_iff.mp H
  obtain ⟨t101, A40, H⟩ := H
  replace H : ((words_Add.f a0 a1 a2).bind fun bt102 => (if a2 = true then (if bt102.1 < a0 then (if (Go.bits .xor .u64 t101 (IntKind.u64.wrap (t101 * 2))) = a0 then ((words_Prefix.f k (Go.bits .xor .u64 a0 a1)).bind fun t104 => ((words_Prefix.f k a1).bind fun t105 => (if t104 = (Go.bits .xor .u64 t101 t105) then (if (IntKind.u64.wrap ((IntKind.u64.wrap (bt102.1 - a1)) - 1)) = a0 then (some (bt102.2 == true)) else (some false)) else (some false)))) else (some false)) else (if bt102.1 = a0 then (if (Go.bits .xor .u64 t101 (IntKind.u64.wrap (t101 * 2))) = a0 then ((words_Prefix.f k (Go.bits .xor .u64 a0 a1)).bind fun t106 => ((words_Prefix.f k a1).bind fun t107 => (if t106 = (Go.bits .xor .u64 t101 t107) then (if (IntKind.u64.wrap ((IntKind.u64.wrap (bt102.1 - a1)) - 1)) = a0 then (some (bt102.2 == a2)) else (some false)) else (some false)))) else (some false)) else (if (Go.bits .xor .u64 t101 (IntKind.u64.wrap (t101 * 2))) = a0 then ((words_Prefix.f k (Go.bits .xor .u64 a0 a1)).bind fun t108 => ((words_Prefix.f k a1).bind fun t109 => (if t108 = (Go.bits .xor .u64 t101 t109) then (if (IntKind.u64.wrap ((IntKind.u64.wrap (bt102.1 - a1)) - 1)) = a0 then (some (bt102.2 == false)) else (some false)) else (some false)))) else (some false)))) else (if bt102.1 < a0 then (if (Go.bits .xor .u64 t101 (IntKind.u64.wrap (t101 * 2))) = a0 then ((words_Prefix.f k (Go.bits .xor .u64 a0 a1)).bind fun t110 => ((words_Prefix.f k a1).bind fun t111 => (if t110 = (Go.bits .xor .u64 t101 t111) then (if (IntKind.u64.wrap ((IntKind.u64.wrap (bt102.1 - a1)))) = a0 then (some (bt102.2 == true)) else (some false)) else (some false)))) else (some false)) else (if bt102.1 = a0 then (if (Go.bits .xor .u64 t101 (IntKind.u64.wrap (t101 * 2))) = a0 then ((words_Prefix.f k (Go.bits .xor .u64 a0 a1)).bind fun t112 => ((words_Prefix.f k a1).bind fun t113 => (if t112 = (Go.bits .xor .u64 t101 t113) then (if (IntKind.u64.wrap ((IntKind.u64.wrap (bt102.1 - a1)))) = a0 then (some (bt102.2 == a2)) else (some false)) else (some false)))) else (some false)) else (if (Go.bits .xor .u64 t101 (IntKind.u64.wrap (t101 * 2))) = a0 then ((words_Prefix.f k (Go.bits .xor .u64 a0 a1)).bind fun t114 => ((words_Prefix.f k a1).bind fun t115 => (if t114 = (Go.bits .xor .u64 t101 t115) then (if (IntKind.u64.wrap ((IntKind.u64.wrap (bt102.1 - a1)))) = a0 then (some (bt102.2 == false)) else (some false)) else (some false)))) else (some false)))))) = some r := H
  have A4 := Aside0.mk A40
  clear A40
  replace H := Option.bind_eq_some_iff.mp H
  obtain ⟨⟨t102, t103⟩, A50, H⟩ := H
  replace H : (if a2 = true then (if t102 < a0 then (if (Go.bits .xor .u64 t101 (IntKind.u64.wrap (t101 * 2))) = a0 then ((words_Prefix.f k (Go.bits .xor .u64 a0 a1)).bind fun t104 => ((words_Prefix.f k a1).bind fun t105 => (if t104 = (Go.bits .xor .u64 t101 t105) then (if (IntKind.u64.wrap ((IntKind.u64.wrap (t102 - a1)) - 1)) = a0 then (some (t103 == true)) else (some false)) else (some false)))) else (some false)) else (if t102 = a0 then (if (Go.bits .xor .u64 t101 (IntKind.u64.wrap (t101 * 2))) = a0 then ((words_Prefix.f k (Go.bits .xor .u64 a0 a1)).bind fun t106 => ((words_Prefix.f k a1).bind fun t107 => (if t106 = (Go.bits .xor .u64 t101 t107) then (if (IntKind.u64.wrap ((IntKind.u64.wrap (t102 - a1)) - 1)) = a0 then (some (t103 == a2)) else (some false)) else (some false)))) else (some false)) else (if (Go.bits .xor .u64 t101 (IntKind.u64.wrap (t101 * 2))) = a0 then ((words_Prefix.f k (Go.bits .xor .u64 a0 a1)).bind fun t108 => ((words_Prefix.f k a1).bind fun t109 => (if t108 = (Go.bits .xor .u64 t101 t109) then (if (IntKind.u64.wrap ((IntKind.u64.wrap (t102 - a1)) - 1)) = a0 then (some (t103 == false)) else (some false)) else (some false)))) else (some false)))) else (if t102 < a0 then (if (Go.bits .xor .u64 t101 (IntKind.u64.wrap (t101 * 2))) = a0 then ((words_Prefix.f k (Go.bits .xor .u64 a0 a1)).bind fun t110 => ((words_Prefix.f k a1).bind fun t111 => (if t110 = (Go.bits .xor .u64 t101 t111) then (if (IntKind.u64.wrap ((IntKind.u64.wrap (t102 - a1)))) = a0 then (some (t103 == true)) else (some false)) else (some false)))) else (some false)) else (if t102 = a0 then (if (Go.bits .xor .u64 t101 (IntKind.u64.wrap (t101 * 2))) = a0 then ((words_Prefix.f k (Go.bits .xor .u64 a0 a1)).bind fun t112 => ((words_Prefix.f k a1).bind fun t113 => (if t112 = (Go.bits .xor .u64 t101 t113) then (if (IntKind.u64.wrap ((IntKind.u64.wrap (t102 - a1)))) = a0 then (some (t103 == a2)) else (some false)) else (some false)))) else (some false)) else (if (Go.bits .xor .u64 t101 (IntKind.u64.wrap (t101 * 2))) = a0 then ((words_Prefix.f k (Go.bits .xor .u64 a0 a1)).bind fun t114 => ((words_Prefix.f k a1).bind fun t115 => (if t114 = (Go.bits .xor .u64 t101 t115) then (if (IntKind.u64.wrap ((IntKind.u64.wrap (t102 - a1)))) = a0 then (some (t103 == false)) else (some false)) else (some false)))) else (some false))))) = some r := H
  have A5 := Aside0.mk A50
  clear A50
  by_cases c6 : a2 = true
  · subst c6
    have H1 : (if t102 < a0 then (if (Go.bits .xor .u64 t101 (IntKind.u64.wrap (t101 * 2))) = a0 then ((words_Prefix.f k (Go.bits .xor .u64 a0 a1)).bind fun t104 => ((words_Prefix.f k a1).bind fun t105 => (if t104 = (Go.bits .xor .u64 t101 t105) then (if (IntKind.u64.wrap ((IntKind.u64.wrap (t102 - a1)) - 1)) = a0 then (some (t103 == true)) else (some false)) else (some false)))) else (some false)) else (if t102 = a0 then (if (Go.bits .xor .u64 t101 (IntKind.u64.wrap (t101 * 2))) = a0 then ((words_Prefix.f k (Go.bits .xor .u64 a0 a1)).bind fun t106 => ((words_Prefix.f k a1).bind fun t107 => (if t106 = (Go.bits .xor .u64 t101 t107) then (if (IntKind.u64.wrap ((IntKind.u64.wrap (t102 - a1)) - 1)) = a0 then (some (t103 == true)) else (some false)) else (some false)))) else (some false)) else (if (Go.bits .xor .u64 t101 (IntKind.u64.wrap (t101 * 2))) = a0 then ((words_Prefix.f k (Go.bits .xor .u64 a0 a1)).bind fun t108 => ((words_Prefix.f k a1).bind fun t109 => (if t108 = (Go.bits .xor .u64 t101 t109) then (if (IntKind.u64.wrap ((IntKind.u64.wrap (t102 - a1)) - 1)) = a0 then (some (t103 == false)) else (some false)) else (some false)))) else (some false)))) = some r := by rw [if_pos rfl] at H; exact H
    clear H
    have H := H1
    clear H1
    by_cases c7 : t102 < a0
    · rw [if_pos c7] at H
      have c7b0 : decide (t102 < a0) = true := decide_eq_true c7
      clear c7
      by_cases c8 : (Go.bits .xor .u64 t101 (IntKind.u64.wrap (t101 * 2))) = a0
      · rw [if_pos c8] at H
        have c8b0 : ((Go.bits .xor .u64 t101 (IntKind.u64.wrap (t101 * 2))) == a0) = true := beq_iff_eq.mpr c8
        have c8b1 : ((Go.bits .xor .u64 t101 (IntKind.u64.wrap (t101 * 2))) != a0) = false := bne_eq_false_iff_eq.mpr c8
        clear c8
        replace H := Option.bind_eq_some_iff.mp H
        obtain ⟨t104, A90, H⟩ := H
        replace H : ((words_Prefix.f k a1).bind fun t105 => (if t104 = (Go.bits .xor .u64 t101 t105) then (if (IntKind.u64.wrap ((IntKind.u64.wrap (t102 - a1)) - 1)) = a0 then (some (t103 == true)) else (some false)) else (some false))) = some r := H
        have A9 := Aside0.mk A90
        clear A90
        replace H := Option.bind_eq_some_iff.mp H
        obtain ⟨t105, A100, H⟩ := H
        replace H : (if t104 = (Go.bits .xor .u64 t101 t105) then (if (IntKind.u64.wrap ((IntKind.u64.wrap (t102 - a1)) - 1)) = a0 then (some (t103 == true)) else (some false)) else (some false)) = some r := H
        have A10 := Aside0.mk A100
        clear A100
        by_cases c11 : t104 = (Go.bits .xor .u64 t101 t105)
        · rw [if_pos c11] at H
          have c11b0 : (t104 == (Go.bits .xor .u64 t101 t105)) = true := beq_iff_eq.mpr c11
          have c11b1 : (t104 != (Go.bits .xor .u64 t101 t105)) = false := bne_eq_false_iff_eq.mpr c11
          clear c11
          by_cases c12 : (IntKind.u64.wrap ((IntKind.u64.wrap (t102 - a1)) - 1)) = a0
          · rw [if_pos c12] at H
            have c12b0 : ((IntKind.u64.wrap ((IntKind.u64.wrap (t102 - a1)) - 1)) == a0) = true := beq_iff_eq.mpr c12
            have c12b1 : ((IntKind.u64.wrap ((IntKind.u64.wrap (t102 - a1)) - 1)) != a0) = false := bne_eq_false_iff_eq.mpr c12
            clear c12
            obtain rfl := Option.some.inj H
            go_enter Try.func6, Try.ntmps6
            go_wp2_with (first | ((with_reducible refine gate_callee (f := 11) rfl ?_); refine goesL_ (some 13) rfl rfl Try.func11 (by kernel_rfl) rfl #[.int .u64 a0] rfl (by (try simp only [List.map_toArray, List.map_cons, List.map_nil]); first | done | rfl | (simp only [List.length_drop, List.length_take]; rfl)) ?_; (with_reducible refine (words_Prefix.calls k a0 t101 _ A4.out).mono ?_); rintro e w' ⟨rfl, ⟨nd, rfl⟩⟩; refine ⟨_, rfl, ?_⟩) | ((with_reducible refine gate_callee (f := 9) rfl ?_); refine goesL_ (some 18) rfl rfl Try.func9 (by kernel_rfl) rfl #[.int .u64 a0, .int .u64 a1, .bool true] rfl (by (try simp only [List.map_toArray, List.map_cons, List.map_nil]); first | done | rfl | (simp only [List.length_drop, List.length_take]; rfl)) ?_; (with_reducible refine (words_Add.calls a0 a1 true t102 t103 _ A5.out).mono ?_); rintro e w' ⟨rfl, ⟨nd, rfl⟩⟩; refine ⟨_, rfl, ?_⟩) | (go_at_call 11; (with_reducible refine (words_Prefix.calls k (Go.bits .xor .u64 a0 a1) t104 _ A9.out).mono ?_); rintro e w' ⟨rfl, ⟨nd, rfl⟩⟩) | (go_at_call 11; (with_reducible refine (words_Prefix.calls k a1 t105 _ A10.out).mono ?_); rintro e w' ⟨rfl, ⟨nd, rfl⟩⟩))
            go_ret
            exact ⟨by first | rfl | (simp; done) | (simp [*]; done), by repeat (first | exact Drawn0.refl _ | apply Drawn0.step)⟩
          · rw [if_neg c12] at H
            have c12b0 : ((IntKind.u64.wrap ((IntKind.u64.wrap (t102 - a1)) - 1)) == a0) = false := beq_eq_false_iff_ne.mpr c12
            have c12b1 : ((IntKind.u64.wrap ((IntKind.u64.wrap (t102 - a1)) - 1)) != a0) = true := bne_iff_ne.mpr c12
            obtain rfl := Option.some.inj H
            go_enter Try.func6, Try.ntmps6
            go_wp2_with (first | ((with_reducible refine gate_callee (f := 11) rfl ?_); refine goesL_ (some 13) rfl rfl Try.func11 (by kernel_rfl) rfl #[.int .u64 a0] rfl (by (try simp only [List.map_toArray, List.map_cons, List.map_nil]); first | done | rfl | (simp only [List.length_drop, List.length_take]; rfl)) ?_; (with_reducible refine (words_Prefix.calls k a0 t101 _ A4.out).mono ?_); rintro e w' ⟨rfl, ⟨nd, rfl⟩⟩; refine ⟨_, rfl, ?_⟩) | ((with_reducible refine gate_callee (f := 9) rfl ?_); refine goesL_ (some 18) rfl rfl Try.func9 (by kernel_rfl) rfl #[.int .u64 a0, .int .u64 a1, .bool true] rfl (by (try simp only [List.map_toArray, List.map_cons, List.map_nil]); first | done | rfl | (simp only [List.length_drop, List.length_take]; rfl)) ?_; (with_reducible refine (words_Add.calls a0 a1 true t102 t103 _ A5.out).mono ?_); rintro e w' ⟨rfl, ⟨nd, rfl⟩⟩; refine ⟨_, rfl, ?_⟩) | (go_at_call 11; (with_reducible refine (words_Prefix.calls k (Go.bits .xor .u64 a0 a1) t104 _ A9.out).mono ?_); rintro e w' ⟨rfl, ⟨nd, rfl⟩⟩) | (go_at_call 11; (with_reducible refine (words_Prefix.calls k a1 t105 _ A10.out).mono ?_); rintro e w' ⟨rfl, ⟨nd, rfl⟩⟩))
            go_ret
            exact ⟨by first | rfl | (simp; done) | (simp [*]; done), by repeat (first | exact Drawn0.refl _ | apply Drawn0.step)⟩
        · rw [if_neg c11] at H
          have c11b0 : (t104 == (Go.bits .xor .u64 t101 t105)) = false := beq_eq_false_iff_ne.mpr c11
          have c11b1 : (t104 != (Go.bits .xor .u64 t101 t105)) = true := bne_iff_ne.mpr c11
          obtain rfl := Option.some.inj H
          go_enter Try.func6, Try.ntmps6
          go_wp2_with (first | ((with_reducible refine gate_callee (f := 11) rfl ?_); refine goesL_ (some 13) rfl rfl Try.func11 (by kernel_rfl) rfl #[.int .u64 a0] rfl (by (try simp only [List.map_toArray, List.map_cons, List.map_nil]); first | done | rfl | (simp only [List.length_drop, List.length_take]; rfl)) ?_; (with_reducible refine (words_Prefix.calls k a0 t101 _ A4.out).mono ?_); rintro e w' ⟨rfl, ⟨nd, rfl⟩⟩; refine ⟨_, rfl, ?_⟩) | ((with_reducible refine gate_callee (f := 9) rfl ?_); refine goesL_ (some 18) rfl rfl Try.func9 (by kernel_rfl) rfl #[.int .u64 a0, .int .u64 a1, .bool true] rfl (by (try simp only [List.map_toArray, List.map_cons, List.map_nil]); first | done | rfl | (simp only [List.length_drop, List.length_take]; rfl)) ?_; (with_reducible refine (words_Add.calls a0 a1 true t102 t103 _ A5.out).mono ?_); rintro e w' ⟨rfl, ⟨nd, rfl⟩⟩; refine ⟨_, rfl, ?_⟩) | (go_at_call 11; (with_reducible refine (words_Prefix.calls k (Go.bits .xor .u64 a0 a1) t104 _ A9.out).mono ?_); rintro e w' ⟨rfl, ⟨nd, rfl⟩⟩) | (go_at_call 11; (with_reducible refine (words_Prefix.calls k a1 t105 _ A10.out).mono ?_); rintro e w' ⟨rfl, ⟨nd, rfl⟩⟩))
          go_ret
          exact ⟨by first | rfl | (simp; done) | (simp [*]; done), by repeat (first | exact Drawn0.refl _ | apply Drawn0.step)⟩
      · rw [if_neg c8] at H
        have c8b0 : ((Go.bits .xor .u64 t101 (IntKind.u64.wrap (t101 * 2))) == a0) = false := beq_eq_false_iff_ne.mpr c8
        have c8b1 : ((Go.bits .xor .u64 t101 (IntKind.u64.wrap (t101 * 2))) != a0) = true := bne_iff_ne.mpr c8
        obtain rfl := Option.some.inj H
        go_enter Try.func6, Try.ntmps6
        go_wp2_with (first | ((with_reducible refine gate_callee (f := 11) rfl ?_); refine goesL_ (some 13) rfl rfl Try.func11 (by kernel_rfl) rfl #[.int .u64 a0] rfl (by (try simp only [List.map_toArray, List.map_cons, List.map_nil]); first | done | rfl | (simp only [List.length_drop, List.length_take]; rfl)) ?_; (with_reducible refine (words_Prefix.calls k a0 t101 _ A4.out).mono ?_); rintro e w' ⟨rfl, ⟨nd, rfl⟩⟩; refine ⟨_, rfl, ?_⟩) | ((with_reducible refine gate_callee (f := 9) rfl ?_); refine goesL_ (some 18) rfl rfl Try.func9 (by kernel_rfl) rfl #[.int .u64 a0, .int .u64 a1, .bool true] rfl (by (try simp only [List.map_toArray, List.map_cons, List.map_nil]); first | done | rfl | (simp only [List.length_drop, List.length_take]; rfl)) ?_; (with_reducible refine (words_Add.calls a0 a1 true t102 t103 _ A5.out).mono ?_); rintro e w' ⟨rfl, ⟨nd, rfl⟩⟩; refine ⟨_, rfl, ?_⟩))
        go_ret
        exact ⟨by first | rfl | (simp; done) | (simp [*]; done), by repeat (first | exact Drawn0.refl _ | apply Drawn0.step)⟩
    · rw [if_neg c7] at H
      have c7b0 : decide (t102 < a0) = false := decide_eq_false c7
      clear c7
      by_cases c13 : t102 = a0
      · rw [if_pos c13] at H
        have c13b0 : (t102 == a0) = true := beq_iff_eq.mpr c13
        have c13b1 : (t102 != a0) = false := bne_eq_false_iff_eq.mpr c13
        clear c13
        by_cases c14 : (Go.bits .xor .u64 t101 (IntKind.u64.wrap (t101 * 2))) = a0
        · rw [if_pos c14] at H
          have c14b0 : ((Go.bits .xor .u64 t101 (IntKind.u64.wrap (t101 * 2))) == a0) = true := beq_iff_eq.mpr c14
          have c14b1 : ((Go.bits .xor .u64 t101 (IntKind.u64.wrap (t101 * 2))) != a0) = false := bne_eq_false_iff_eq.mpr c14
          clear c14
          replace H := Option.bind_eq_some_iff.mp H
          obtain ⟨t106, A150, H⟩ := H
          replace H : ((words_Prefix.f k a1).bind fun t107 => (if t106 = (Go.bits .xor .u64 t101 t107) then (if (IntKind.u64.wrap ((IntKind.u64.wrap (t102 - a1)) - 1)) = a0 then (some (t103 == true)) else (some false)) else (some false))) = some r := H
          have A15 := Aside0.mk A150
          clear A150
          replace H := Option.bind_eq_some_iff.mp H
          obtain ⟨t107, A160, H⟩ := H
          replace H : (if t106 = (Go.bits .xor .u64 t101 t107) then (if (IntKind.u64.wrap ((IntKind.u64.wrap (t102 - a1)) - 1)) = a0 then (some (t103 == true)) else (some false)) else (some false)) = some r := H
          have A16 := Aside0.mk A160
          clear A160
          by_cases c17 : t106 = (Go.bits .xor .u64 t101 t107)
          · rw [if_pos c17] at H
            have c17b0 : (t106 == (Go.bits .xor .u64 t101 t107)) = true := beq_iff_eq.mpr c17
            have c17b1 : (t106 != (Go.bits .xor .u64 t101 t107)) = false := bne_eq_false_iff_eq.mpr c17
            clear c17
            by_cases c18 : (IntKind.u64.wrap ((IntKind.u64.wrap (t102 - a1)) - 1)) = a0
            · rw [if_pos c18] at H
              have c18b0 : ((IntKind.u64.wrap ((IntKind.u64.wrap (t102 - a1)) - 1)) == a0) = true := beq_iff_eq.mpr c18
              have c18b1 : ((IntKind.u64.wrap ((IntKind.u64.wrap (t102 - a1)) - 1)) != a0) = false := bne_eq_false_iff_eq.mpr c18
              clear c18
              obtain rfl := Option.some.inj H
              go_enter Try.func6, Try.ntmps6
              go_wp2_with (first | ((with_reducible refine gate_callee (f := 11) rfl ?_); refine goesL_ (some 13) rfl rfl Try.func11 (by kernel_rfl) rfl #[.int .u64 a0] rfl (by (try simp only [List.map_toArray, List.map_cons, List.map_nil]); first | done | rfl | (simp only [List.length_drop, List.length_take]; rfl)) ?_; (with_reducible refine (words_Prefix.calls k a0 t101 _ A4.out).mono ?_); rintro e w' ⟨rfl, ⟨nd, rfl⟩⟩; refine ⟨_, rfl, ?_⟩) | ((with_reducible refine gate_callee (f := 9) rfl ?_); refine goesL_ (some 18) rfl rfl Try.func9 (by kernel_rfl) rfl #[.int .u64 a0, .int .u64 a1, .bool true] rfl (by (try simp only [List.map_toArray, List.map_cons, List.map_nil]); first | done | rfl | (simp only [List.length_drop, List.length_take]; rfl)) ?_; (with_reducible refine (words_Add.calls a0 a1 true t102 t103 _ A5.out).mono ?_); rintro e w' ⟨rfl, ⟨nd, rfl⟩⟩; refine ⟨_, rfl, ?_⟩) | (go_at_call 11; (with_reducible refine (words_Prefix.calls k (Go.bits .xor .u64 a0 a1) t106 _ A15.out).mono ?_); rintro e w' ⟨rfl, ⟨nd, rfl⟩⟩) | (go_at_call 11; (with_reducible refine (words_Prefix.calls k a1 t107 _ A16.out).mono ?_); rintro e w' ⟨rfl, ⟨nd, rfl⟩⟩))
              go_ret
              exact ⟨by first | rfl | (simp; done) | (simp [*]; done), by repeat (first | exact Drawn0.refl _ | apply Drawn0.step)⟩
            · rw [if_neg c18] at H
              have c18b0 : ((IntKind.u64.wrap ((IntKind.u64.wrap (t102 - a1)) - 1)) == a0) = false := beq_eq_false_iff_ne.mpr c18
              have c18b1 : ((IntKind.u64.wrap ((IntKind.u64.wrap (t102 - a1)) - 1)) != a0) = true := bne_iff_ne.mpr c18
              obtain rfl := Option.some.inj H
              go_enter Try.func6, Try.ntmps6
              go_wp2_with (first | ((with_reducible refine gate_callee (f := 11) rfl ?_); refine goesL_ (some 13) rfl rfl Try.func11 (by kernel_rfl) rfl #[.int .u64 a0] rfl (by (try simp only [List.map_toArray, List.map_cons, List.map_nil]); first | done | rfl | (simp only [List.length_drop, List.length_take]; rfl)) ?_; (with_reducible refine (words_Prefix.calls k a0 t101 _ A4.out).mono ?_); rintro e w' ⟨rfl, ⟨nd, rfl⟩⟩; refine ⟨_, rfl, ?_⟩) | ((with_reducible refine gate_callee (f := 9) rfl ?_); refine goesL_ (some 18) rfl rfl Try.func9 (by kernel_rfl) rfl #[.int .u64 a0, .int .u64 a1, .bool true] rfl (by (try simp only [List.map_toArray, List.map_cons, List.map_nil]); first | done | rfl | (simp only [List.length_drop, List.length_take]; rfl)) ?_; (with_reducible refine (words_Add.calls a0 a1 true t102 t103 _ A5.out).mono ?_); rintro e w' ⟨rfl, ⟨nd, rfl⟩⟩; refine ⟨_, rfl, ?_⟩) | (go_at_call 11; (with_reducible refine (words_Prefix.calls k (Go.bits .xor .u64 a0 a1) t106 _ A15.out).mono ?_); rintro e w' ⟨rfl, ⟨nd, rfl⟩⟩) | (go_at_call 11; (with_reducible refine (words_Prefix.calls k a1 t107 _ A16.out).mono ?_); rintro e w' ⟨rfl, ⟨nd, rfl⟩⟩))
              go_ret
              exact ⟨by first | rfl | (simp; done) | (simp [*]; done), by repeat (first | exact Drawn0.refl _ | apply Drawn0.step)⟩
          · rw [if_neg c17] at H
            have c17b0 : (t106 == (Go.bits .xor .u64 t101 t107)) = false := beq_eq_false_iff_ne.mpr c17
            have c17b1 : (t106 != (Go.bits .xor .u64 t101 t107)) = true := bne_iff_ne.mpr c17
            obtain rfl := Option.some.inj H
            go_enter Try.func6, Try.ntmps6
            go_wp2_with (first | ((with_reducible refine gate_callee (f := 11) rfl ?_); refine goesL_ (some 13) rfl rfl Try.func11 (by kernel_rfl) rfl #[.int .u64 a0] rfl (by (try simp only [List.map_toArray, List.map_cons, List.map_nil]); first | done | rfl | (simp only [List.length_drop, List.length_take]; rfl)) ?_; (with_reducible refine (words_Prefix.calls k a0 t101 _ A4.out).mono ?_); rintro e w' ⟨rfl, ⟨nd, rfl⟩⟩; refine ⟨_, rfl, ?_⟩) | ((with_reducible refine gate_callee (f := 9) rfl ?_); refine goesL_ (some 18) rfl rfl Try.func9 (by kernel_rfl) rfl #[.int .u64 a0, .int .u64 a1, .bool true] rfl (by (try simp only [List.map_toArray, List.map_cons, List.map_nil]); first | done | rfl | (simp only [List.length_drop, List.length_take]; rfl)) ?_; (with_reducible refine (words_Add.calls a0 a1 true t102 t103 _ A5.out).mono ?_); rintro e w' ⟨rfl, ⟨nd, rfl⟩⟩; refine ⟨_, rfl, ?_⟩) | (go_at_call 11; (with_reducible refine (words_Prefix.calls k (Go.bits .xor .u64 a0 a1) t106 _ A15.out).mono ?_); rintro e w' ⟨rfl, ⟨nd, rfl⟩⟩) | (go_at_call 11; (with_reducible refine (words_Prefix.calls k a1 t107 _ A16.out).mono ?_); rintro e w' ⟨rfl, ⟨nd, rfl⟩⟩))
            go_ret
            exact ⟨by first | rfl | (simp; done) | (simp [*]; done), by repeat (first | exact Drawn0.refl _ | apply Drawn0.step)⟩
        · rw [if_neg c14] at H
          have c14b0 : ((Go.bits .xor .u64 t101 (IntKind.u64.wrap (t101 * 2))) == a0) = false := beq_eq_false_iff_ne.mpr c14
          have c14b1 : ((Go.bits .xor .u64 t101 (IntKind.u64.wrap (t101 * 2))) != a0) = true := bne_iff_ne.mpr c14
          obtain rfl := Option.some.inj H
          go_enter Try.func6, Try.ntmps6
          go_wp2_with (first | ((with_reducible refine gate_callee (f := 11) rfl ?_); refine goesL_ (some 13) rfl rfl Try.func11 (by kernel_rfl) rfl #[.int .u64 a0] rfl (by (try simp only [List.map_toArray, List.map_cons, List.map_nil]); first | done | rfl | (simp only [List.length_drop, List.length_take]; rfl)) ?_; (with_reducible refine (words_Prefix.calls k a0 t101 _ A4.out).mono ?_); rintro e w' ⟨rfl, ⟨nd, rfl⟩⟩; refine ⟨_, rfl, ?_⟩) | ((with_reducible refine gate_callee (f := 9) rfl ?_); refine goesL_ (some 18) rfl rfl Try.func9 (by kernel_rfl) rfl #[.int .u64 a0, .int .u64 a1, .bool true] rfl (by (try simp only [List.map_toArray, List.map_cons, List.map_nil]); first | done | rfl | (simp only [List.length_drop, List.length_take]; rfl)) ?_; (with_reducible refine (words_Add.calls a0 a1 true t102 t103 _ A5.out).mono ?_); rintro e w' ⟨rfl, ⟨nd, rfl⟩⟩; refine ⟨_, rfl, ?_⟩))
          go_ret
          exact ⟨by first | rfl | (simp; done) | (simp [*]; done), by repeat (first | exact Drawn0.refl _ | apply Drawn0.step)⟩
      · rw [if_neg c13] at H
        have c13b0 : (t102 == a0) = false := beq_eq_false_iff_ne.mpr c13
        have c13b1 : (t102 != a0) = true := bne_iff_ne.mpr c13
        by_cases c19 : (Go.bits .xor .u64 t101 (IntKind.u64.wrap (t101 * 2))) = a0
        · rw [if_pos c19] at H
          have c19b0 : ((Go.bits .xor .u64 t101 (IntKind.u64.wrap (t101 * 2))) == a0) = true := beq_iff_eq.mpr c19
          have c19b1 : ((Go.bits .xor .u64 t101 (IntKind.u64.wrap (t101 * 2))) != a0) = false := bne_eq_false_iff_eq.mpr c19
          clear c19
          replace H := Option.bind_eq_some_iff.mp H
          obtain ⟨t108, A200, H⟩ := H
          replace H : ((words_Prefix.f k a1).bind fun t109 => (if t108 = (Go.bits .xor .u64 t101 t109) then (if (IntKind.u64.wrap ((IntKind.u64.wrap (t102 - a1)) - 1)) = a0 then (some (t103 == false)) else (some false)) else (some false))) = some r := H
          have A20 := Aside0.mk A200
          clear A200
          replace H := Option.bind_eq_some_iff.mp H
          obtain ⟨t109, A210, H⟩ := H
          replace H : (if t108 = (Go.bits .xor .u64 t101 t109) then (if (IntKind.u64.wrap ((IntKind.u64.wrap (t102 - a1)) - 1)) = a0 then (some (t103 == false)) else (some false)) else (some false)) = some r := H
          have A21 := Aside0.mk A210
          clear A210
          by_cases c22 : t108 = (Go.bits .xor .u64 t101 t109)
          · rw [if_pos c22] at H
            have c22b0 : (t108 == (Go.bits .xor .u64 t101 t109)) = true := beq_iff_eq.mpr c22
            have c22b1 : (t108 != (Go.bits .xor .u64 t101 t109)) = false := bne_eq_false_iff_eq.mpr c22
            clear c22
            by_cases c23 : (IntKind.u64.wrap ((IntKind.u64.wrap (t102 - a1)) - 1)) = a0
            · rw [if_pos c23] at H
              have c23b0 : ((IntKind.u64.wrap ((IntKind.u64.wrap (t102 - a1)) - 1)) == a0) = true := beq_iff_eq.mpr c23
              have c23b1 : ((IntKind.u64.wrap ((IntKind.u64.wrap (t102 - a1)) - 1)) != a0) = false := bne_eq_false_iff_eq.mpr c23
              clear c23
              obtain rfl := Option.some.inj H
              go_enter Try.func6, Try.ntmps6
              go_wp2_with (first | ((with_reducible refine gate_callee (f := 11) rfl ?_); refine goesL_ (some 13) rfl rfl Try.func11 (by kernel_rfl) rfl #[.int .u64 a0] rfl (by (try simp only [List.map_toArray, List.map_cons, List.map_nil]); first | done | rfl | (simp only [List.length_drop, List.length_take]; rfl)) ?_; (with_reducible refine (words_Prefix.calls k a0 t101 _ A4.out).mono ?_); rintro e w' ⟨rfl, ⟨nd, rfl⟩⟩; refine ⟨_, rfl, ?_⟩) | ((with_reducible refine gate_callee (f := 9) rfl ?_); refine goesL_ (some 18) rfl rfl Try.func9 (by kernel_rfl) rfl #[.int .u64 a0, .int .u64 a1, .bool true] rfl (by (try simp only [List.map_toArray, List.map_cons, List.map_nil]); first | done | rfl | (simp only [List.length_drop, List.length_take]; rfl)) ?_; (with_reducible refine (words_Add.calls a0 a1 true t102 t103 _ A5.out).mono ?_); rintro e w' ⟨rfl, ⟨nd, rfl⟩⟩; refine ⟨_, rfl, ?_⟩) | (go_at_call 11; (with_reducible refine (words_Prefix.calls k (Go.bits .xor .u64 a0 a1) t108 _ A20.out).mono ?_); rintro e w' ⟨rfl, ⟨nd, rfl⟩⟩) | (go_at_call 11; (with_reducible refine (words_Prefix.calls k a1 t109 _ A21.out).mono ?_); rintro e w' ⟨rfl, ⟨nd, rfl⟩⟩))
              go_ret
              exact ⟨by first | rfl | (simp; done) | (simp [*]; done), by repeat (first | exact Drawn0.refl _ | apply Drawn0.step)⟩
            · rw [if_neg c23] at H
              have c23b0 : ((IntKind.u64.wrap ((IntKind.u64.wrap (t102 - a1)) - 1)) == a0) = false := beq_eq_false_iff_ne.mpr c23
              have c23b1 : ((IntKind.u64.wrap ((IntKind.u64.wrap (t102 - a1)) - 1)) != a0) = true := bne_iff_ne.mpr c23
              obtain rfl := Option.some.inj H
              go_enter Try.func6, Try.ntmps6
              go_wp2_with (first | ((with_reducible refine gate_callee (f := 11) rfl ?_); refine goesL_ (some 13) rfl rfl Try.func11 (by kernel_rfl) rfl #[.int .u64 a0] rfl (by (try simp only [List.map_toArray, List.map_cons, List.map_nil]); first | done | rfl | (simp only [List.length_drop, List.length_take]; rfl)) ?_; (with_reducible refine (words_Prefix.calls k a0 t101 _ A4.out).mono ?_); rintro e w' ⟨rfl, ⟨nd, rfl⟩⟩; refine ⟨_, rfl, ?_⟩) | ((with_reducible refine gate_callee (f := 9) rfl ?_); refine goesL_ (some 18) rfl rfl Try.func9 (by kernel_rfl) rfl #[.int .u64 a0, .int .u64 a1, .bool true] rfl (by (try simp only [List.map_toArray, List.map_cons, List.map_nil]); first | done | rfl | (simp only [List.length_drop, List.length_take]; rfl)) ?_; (with_reducible refine (words_Add.calls a0 a1 true t102 t103 _ A5.out).mono ?_); rintro e w' ⟨rfl, ⟨nd, rfl⟩⟩; refine ⟨_, rfl, ?_⟩) | (go_at_call 11; (with_reducible refine (words_Prefix.calls k (Go.bits .xor .u64 a0 a1) t108 _ A20.out).mono ?_); rintro e w' ⟨rfl, ⟨nd, rfl⟩⟩) | (go_at_call 11; (with_reducible refine (words_Prefix.calls k a1 t109 _ A21.out).mono ?_); rintro e w' ⟨rfl, ⟨nd, rfl⟩⟩))
              go_ret
              exact ⟨by first | rfl | (simp; done) | (simp [*]; done), by repeat (first | exact Drawn0.refl _ | apply Drawn0.step)⟩
          · rw [if_neg c22] at H
            have c22b0 : (t108 == (Go.bits .xor .u64 t101 t109)) = false := beq_eq_false_iff_ne.mpr c22
            have c22b1 : (t108 != (Go.bits .xor .u64 t101 t109)) = true := bne_iff_ne.mpr c22
            obtain rfl := Option.some.inj H
            go_enter Try.func6, Try.ntmps6
            go_wp2_with (first | ((with_reducible refine gate_callee (f := 11) rfl ?_); refine goesL_ (some 13) rfl rfl Try.func11 (by kernel_rfl) rfl #[.int .u64 a0] rfl (by (try simp only [List.map_toArray, List.map_cons, List.map_nil]); first | done | rfl | (simp only [List.length_drop, List.length_take]; rfl)) ?_; (with_reducible refine (words_Prefix.calls k a0 t101 _ A4.out).mono ?_); rintro e w' ⟨rfl, ⟨nd, rfl⟩⟩; refine ⟨_, rfl, ?_⟩) | ((with_reducible refine gate_callee (f := 9) rfl ?_); refine goesL_ (some 18) rfl rfl Try.func9 (by kernel_rfl) rfl #[.int .u64 a0, .int .u64 a1, .bool true] rfl (by (try simp only [List.map_toArray, List.map_cons, List.map_nil]); first | done | rfl | (simp only [List.length_drop, List.length_take]; rfl)) ?_; (with_reducible refine (words_Add.calls a0 a1 true t102 t103 _ A5.out).mono ?_); rintro e w' ⟨rfl, ⟨nd, rfl⟩⟩; refine ⟨_, rfl, ?_⟩) | (go_at_call 11; (with_reducible refine (words_Prefix.calls k (Go.bits .xor .u64 a0 a1) t108 _ A20.out).mono ?_); rintro e w' ⟨rfl, ⟨nd, rfl⟩⟩) | (go_at_call 11; (with_reducible refine (words_Prefix.calls k a1 t109 _ A21.out).mono ?_); rintro e w' ⟨rfl, ⟨nd, rfl⟩⟩))
            go_ret
            exact ⟨by first | rfl | (simp; done) | (simp [*]; done), by repeat (first | exact Drawn0.refl _ | apply Drawn0.step)⟩
        · rw [if_neg c19] at H
          have c19b0 : ((Go.bits .xor .u64 t101 (IntKind.u64.wrap (t101 * 2))) == a0) = false := beq_eq_false_iff_ne.mpr c19
          have c19b1 : ((Go.bits .xor .u64 t101 (IntKind.u64.wrap (t101 * 2))) != a0) = true := bne_iff_ne.mpr c19
          obtain rfl := Option.some.inj H
          go_enter Try.func6, Try.ntmps6
          go_wp2_with (first | ((with_reducible refine gate_callee (f := 11) rfl ?_); refine goesL_ (some 13) rfl rfl Try.func11 (by kernel_rfl) rfl #[.int .u64 a0] rfl (by (try simp only [List.map_toArray, List.map_cons, List.map_nil]); first | done | rfl | (simp only [List.length_drop, List.length_take]; rfl)) ?_; (with_reducible refine (words_Prefix.calls k a0 t101 _ A4.out).mono ?_); rintro e w' ⟨rfl, ⟨nd, rfl⟩⟩; refine ⟨_, rfl, ?_⟩) | ((with_reducible refine gate_callee (f := 9) rfl ?_); refine goesL_ (some 18) rfl rfl Try.func9 (by kernel_rfl) rfl #[.int .u64 a0, .int .u64 a1, .bool true] rfl (by (try simp only [List.map_toArray, List.map_cons, List.map_nil]); first | done | rfl | (simp only [List.length_drop, List.length_take]; rfl)) ?_; (with_reducible refine (words_Add.calls a0 a1 true t102 t103 _ A5.out).mono ?_); rintro e w' ⟨rfl, ⟨nd, rfl⟩⟩; refine ⟨_, rfl, ?_⟩))
          go_ret
          exact ⟨by first | rfl | (simp; done) | (simp [*]; done), by repeat (first | exact Drawn0.refl _ | apply Drawn0.step)⟩
  · replace c6 := Bool.eq_false_iff.mpr c6
    subst c6
    have H1 : (if t102 < a0 then (if (Go.bits .xor .u64 t101 (IntKind.u64.wrap (t101 * 2))) = a0 then ((words_Prefix.f k (Go.bits .xor .u64 a0 a1)).bind fun t110 => ((words_Prefix.f k a1).bind fun t111 => (if t110 = (Go.bits .xor .u64 t101 t111) then (if (IntKind.u64.wrap ((IntKind.u64.wrap (t102 - a1)))) = a0 then (some (t103 == true)) else (some false)) else (some false)))) else (some false)) else (if t102 = a0 then (if (Go.bits .xor .u64 t101 (IntKind.u64.wrap (t101 * 2))) = a0 then ((words_Prefix.f k (Go.bits .xor .u64 a0 a1)).bind fun t112 => ((words_Prefix.f k a1).bind fun t113 => (if t112 = (Go.bits .xor .u64 t101 t113) then (if (IntKind.u64.wrap ((IntKind.u64.wrap (t102 - a1)))) = a0 then (some (t103 == false)) else (some false)) else (some false)))) else (some false)) else (if (Go.bits .xor .u64 t101 (IntKind.u64.wrap (t101 * 2))) = a0 then ((words_Prefix.f k (Go.bits .xor .u64 a0 a1)).bind fun t114 => ((words_Prefix.f k a1).bind fun t115 => (if t114 = (Go.bits .xor .u64 t101 t115) then (if (IntKind.u64.wrap ((IntKind.u64.wrap (t102 - a1)))) = a0 then (some (t103 == false)) else (some false)) else (some false)))) else (some false)))) = some r := by rw [if_neg (show ¬ (false = true) by decide)] at H; exact H
    clear H
    have H := H1
    clear H1
    by_cases c24 : t102 < a0
    · rw [if_pos c24] at H
      have c24b0 : decide (t102 < a0) = true := decide_eq_true c24
      clear c24
      by_cases c25 : (Go.bits .xor .u64 t101 (IntKind.u64.wrap (t101 * 2))) = a0
      · rw [if_pos c25] at H
        have c25b0 : ((Go.bits .xor .u64 t101 (IntKind.u64.wrap (t101 * 2))) == a0) = true := beq_iff_eq.mpr c25
        have c25b1 : ((Go.bits .xor .u64 t101 (IntKind.u64.wrap (t101 * 2))) != a0) = false := bne_eq_false_iff_eq.mpr c25
        clear c25
        replace H := Option.bind_eq_some_iff.mp H
        obtain ⟨t110, A260, H⟩ := H
        replace H : ((words_Prefix.f k a1).bind fun t111 => (if t110 = (Go.bits .xor .u64 t101 t111) then (if (IntKind.u64.wrap ((IntKind.u64.wrap (t102 - a1)))) = a0 then (some (t103 == true)) else (some false)) else (some false))) = some r := H
        have A26 := Aside0.mk A260
        clear A260
        replace H := Option.bind_eq_some_iff.mp H
        obtain ⟨t111, A270, H⟩ := H
        replace H : (if t110 = (Go.bits .xor .u64 t101 t111) then (if (IntKind.u64.wrap ((IntKind.u64.wrap (t102 - a1)))) = a0 then (some (t103 == true)) else (some false)) else (some false)) = some r := H
        have A27 := Aside0.mk A270
        clear A270
        by_cases c28 : t110 = (Go.bits .xor .u64 t101 t111)
        · rw [if_pos c28] at H
          have c28b0 : (t110 == (Go.bits .xor .u64 t101 t111)) = true := beq_iff_eq.mpr c28
          have c28b1 : (t110 != (Go.bits .xor .u64 t101 t111)) = false := bne_eq_false_iff_eq.mpr c28
          clear c28
          by_cases c29 : (IntKind.u64.wrap ((IntKind.u64.wrap (t102 - a1)))) = a0
          · rw [if_pos c29] at H
            have c29b0 : ((IntKind.u64.wrap ((IntKind.u64.wrap (t102 - a1)))) == a0) = true := beq_iff_eq.mpr c29
            have c29b1 : ((IntKind.u64.wrap ((IntKind.u64.wrap (t102 - a1)))) != a0) = false := bne_eq_false_iff_eq.mpr c29
            clear c29
            obtain rfl := Option.some.inj H
            go_enter Try.func6, Try.ntmps6
            go_wp2_with (first | ((with_reducible refine gate_callee (f := 11) rfl ?_); refine goesL_ (some 13) rfl rfl Try.func11 (by kernel_rfl) rfl #[.int .u64 a0] rfl (by (try simp only [List.map_toArray, List.map_cons, List.map_nil]); first | done | rfl | (simp only [List.length_drop, List.length_take]; rfl)) ?_; (with_reducible refine (words_Prefix.calls k a0 t101 _ A4.out).mono ?_); rintro e w' ⟨rfl, ⟨nd, rfl⟩⟩; refine ⟨_, rfl, ?_⟩) | ((with_reducible refine gate_callee (f := 9) rfl ?_); refine goesL_ (some 18) rfl rfl Try.func9 (by kernel_rfl) rfl #[.int .u64 a0, .int .u64 a1, .bool false] rfl (by (try simp only [List.map_toArray, List.map_cons, List.map_nil]); first | done | rfl | (simp only [List.length_drop, List.length_take]; rfl)) ?_; (with_reducible refine (words_Add.calls a0 a1 false t102 t103 _ A5.out).mono ?_); rintro e w' ⟨rfl, ⟨nd, rfl⟩⟩; refine ⟨_, rfl, ?_⟩) | (go_at_call 11; (with_reducible refine (words_Prefix.calls k (Go.bits .xor .u64 a0 a1) t110 _ A26.out).mono ?_); rintro e w' ⟨rfl, ⟨nd, rfl⟩⟩) | (go_at_call 11; (with_reducible refine (words_Prefix.calls k a1 t111 _ A27.out).mono ?_); rintro e w' ⟨rfl, ⟨nd, rfl⟩⟩))
            go_ret
            exact ⟨by first | rfl | (simp; done) | (simp [*]; done), by repeat (first | exact Drawn0.refl _ | apply Drawn0.step)⟩
          · rw [if_neg c29] at H
            have c29b0 : ((IntKind.u64.wrap ((IntKind.u64.wrap (t102 - a1)))) == a0) = false := beq_eq_false_iff_ne.mpr c29
            have c29b1 : ((IntKind.u64.wrap ((IntKind.u64.wrap (t102 - a1)))) != a0) = true := bne_iff_ne.mpr c29
            obtain rfl := Option.some.inj H
            go_enter Try.func6, Try.ntmps6
            go_wp2_with (first | ((with_reducible refine gate_callee (f := 11) rfl ?_); refine goesL_ (some 13) rfl rfl Try.func11 (by kernel_rfl) rfl #[.int .u64 a0] rfl (by (try simp only [List.map_toArray, List.map_cons, List.map_nil]); first | done | rfl | (simp only [List.length_drop, List.length_take]; rfl)) ?_; (with_reducible refine (words_Prefix.calls k a0 t101 _ A4.out).mono ?_); rintro e w' ⟨rfl, ⟨nd, rfl⟩⟩; refine ⟨_, rfl, ?_⟩) | ((with_reducible refine gate_callee (f := 9) rfl ?_); refine goesL_ (some 18) rfl rfl Try.func9 (by kernel_rfl) rfl #[.int .u64 a0, .int .u64 a1, .bool false] rfl (by (try simp only [List.map_toArray, List.map_cons, List.map_nil]); first | done | rfl | (simp only [List.length_drop, List.length_take]; rfl)) ?_; (with_reducible refine (words_Add.calls a0 a1 false t102 t103 _ A5.out).mono ?_); rintro e w' ⟨rfl, ⟨nd, rfl⟩⟩; refine ⟨_, rfl, ?_⟩) | (go_at_call 11; (with_reducible refine (words_Prefix.calls k (Go.bits .xor .u64 a0 a1) t110 _ A26.out).mono ?_); rintro e w' ⟨rfl, ⟨nd, rfl⟩⟩) | (go_at_call 11; (with_reducible refine (words_Prefix.calls k a1 t111 _ A27.out).mono ?_); rintro e w' ⟨rfl, ⟨nd, rfl⟩⟩))
            go_ret
            exact ⟨by first | rfl | (simp; done) | (simp [*]; done), by repeat (first | exact Drawn0.refl _ | apply Drawn0.step)⟩
        · rw [if_neg c28] at H
          have c28b0 : (t110 == (Go.bits .xor .u64 t101 t111)) = false := beq_eq_false_iff_ne.mpr c28
          have c28b1 : (t110 != (Go.bits .xor .u64 t101 t111)) = true := bne_iff_ne.mpr c28
          obtain rfl := Option.some.inj H
          go_enter Try.func6, Try.ntmps6
          go_wp2_with (first | ((with_reducible refine gate_callee (f := 11) rfl ?_); refine goesL_ (some 13) rfl rfl Try.func11 (by kernel_rfl) rfl #[.int .u64 a0] rfl (by (try simp only [List.map_toArray, List.map_cons, List.map_nil]); first | done | rfl | (simp only [List.length_drop, List.length_take]; rfl)) ?_; (with_reducible refine (words_Prefix.calls k a0 t101 _ A4.out).mono ?_); rintro e w' ⟨rfl, ⟨nd, rfl⟩⟩; refine ⟨_, rfl, ?_⟩) | ((with_reducible refine gate_callee (f := 9) rfl ?_); refine goesL_ (some 18) rfl rfl Try.func9 (by kernel_rfl) rfl #[.int .u64 a0, .int .u64 a1, .bool false] rfl (by (try simp only [List.map_toArray, List.map_cons, List.map_nil]); first | done | rfl | (simp only [List.length_drop, List.length_take]; rfl)) ?_; (with_reducible refine (words_Add.calls a0 a1 false t102 t103 _ A5.out).mono ?_); rintro e w' ⟨rfl, ⟨nd, rfl⟩⟩; refine ⟨_, rfl, ?_⟩) | (go_at_call 11; (with_reducible refine (words_Prefix.calls k (Go.bits .xor .u64 a0 a1) t110 _ A26.out).mono ?_); rintro e w' ⟨rfl, ⟨nd, rfl⟩⟩) | (go_at_call 11; (with_reducible refine (words_Prefix.calls k a1 t111 _ A27.out).mono ?_); rintro e w' ⟨rfl, ⟨nd, rfl⟩⟩))
          go_ret
          exact ⟨by first | rfl | (simp; done) | (simp [*]; done), by repeat (first | exact Drawn0.refl _ | apply Drawn0.step)⟩
      · rw [if_neg c25] at H
        have c25b0 : ((Go.bits .xor .u64 t101 (IntKind.u64.wrap (t101 * 2))) == a0) = false := beq_eq_false_iff_ne.mpr c25
        have c25b1 : ((Go.bits .xor .u64 t101 (IntKind.u64.wrap (t101 * 2))) != a0) = true := bne_iff_ne.mpr c25
        obtain rfl := Option.some.inj H
        go_enter Try.func6, Try.ntmps6
        go_wp2_with (first | ((with_reducible refine gate_callee (f := 11) rfl ?_); refine goesL_ (some 13) rfl rfl Try.func11 (by kernel_rfl) rfl #[.int .u64 a0] rfl (by (try simp only [List.map_toArray, List.map_cons, List.map_nil]); first | done | rfl | (simp only [List.length_drop, List.length_take]; rfl)) ?_; (with_reducible refine (words_Prefix.calls k a0 t101 _ A4.out).mono ?_); rintro e w' ⟨rfl, ⟨nd, rfl⟩⟩; refine ⟨_, rfl, ?_⟩) | ((with_reducible refine gate_callee (f := 9) rfl ?_); refine goesL_ (some 18) rfl rfl Try.func9 (by kernel_rfl) rfl #[.int .u64 a0, .int .u64 a1, .bool false] rfl (by (try simp only [List.map_toArray, List.map_cons, List.map_nil]); first | done | rfl | (simp only [List.length_drop, List.length_take]; rfl)) ?_; (with_reducible refine (words_Add.calls a0 a1 false t102 t103 _ A5.out).mono ?_); rintro e w' ⟨rfl, ⟨nd, rfl⟩⟩; refine ⟨_, rfl, ?_⟩))
        go_ret
        exact ⟨by first | rfl | (simp; done) | (simp [*]; done), by repeat (first | exact Drawn0.refl _ | apply Drawn0.step)⟩
    · rw [if_neg c24] at H
      have c24b0 : decide (t102 < a0) = false := decide_eq_false c24
      clear c24
      by_cases c30 : t102 = a0
      · rw [if_pos c30] at H
        have c30b0 : (t102 == a0) = true := beq_iff_eq.mpr c30
        have c30b1 : (t102 != a0) = false := bne_eq_false_iff_eq.mpr c30
        clear c30
        by_cases c31 : (Go.bits .xor .u64 t101 (IntKind.u64.wrap (t101 * 2))) = a0
        · rw [if_pos c31] at H
          have c31b0 : ((Go.bits .xor .u64 t101 (IntKind.u64.wrap (t101 * 2))) == a0) = true := beq_iff_eq.mpr c31
          have c31b1 : ((Go.bits .xor .u64 t101 (IntKind.u64.wrap (t101 * 2))) != a0) = false := bne_eq_false_iff_eq.mpr c31
          clear c31
          replace H := Option.bind_eq_some_iff.mp H
          obtain ⟨t112, A320, H⟩ := H
          replace H : ((words_Prefix.f k a1).bind fun t113 => (if t112 = (Go.bits .xor .u64 t101 t113) then (if (IntKind.u64.wrap ((IntKind.u64.wrap (t102 - a1)))) = a0 then (some (t103 == false)) else (some false)) else (some false))) = some r := H
          have A32 := Aside0.mk A320
          clear A320
          replace H := Option.bind_eq_some_iff.mp H
          obtain ⟨t113, A330, H⟩ := H
          replace H : (if t112 = (Go.bits .xor .u64 t101 t113) then (if (IntKind.u64.wrap ((IntKind.u64.wrap (t102 - a1)))) = a0 then (some (t103 == false)) else (some false)) else (some false)) = some r := H
          have A33 := Aside0.mk A330
          clear A330
          by_cases c34 : t112 = (Go.bits .xor .u64 t101 t113)
          · rw [if_pos c34] at H
            have c34b0 : (t112 == (Go.bits .xor .u64 t101 t113)) = true := beq_iff_eq.mpr c34
            have c34b1 : (t112 != (Go.bits .xor .u64 t101 t113)) = false := bne_eq_false_iff_eq.mpr c34
            clear c34
            by_cases c35 : (IntKind.u64.wrap ((IntKind.u64.wrap (t102 - a1)))) = a0
            · rw [if_pos c35] at H
              have c35b0 : ((IntKind.u64.wrap ((IntKind.u64.wrap (t102 - a1)))) == a0) = true := beq_iff_eq.mpr c35
              have c35b1 : ((IntKind.u64.wrap ((IntKind.u64.wrap (t102 - a1)))) != a0) = false := bne_eq_false_iff_eq.mpr c35
              clear c35
              obtain rfl := Option.some.inj H
              go_enter Try.func6, Try.ntmps6
              go_wp2_with (first | ((with_reducible refine gate_callee (f := 11) rfl ?_); refine goesL_ (some 13) rfl rfl Try.func11 (by kernel_rfl) rfl #[.int .u64 a0] rfl (by (try simp only [List.map_toArray, List.map_cons, List.map_nil]); first | done | rfl | (simp only [List.length_drop, List.length_take]; rfl)) ?_; (with_reducible refine (words_Prefix.calls k a0 t101 _ A4.out).mono ?_); rintro e w' ⟨rfl, ⟨nd, rfl⟩⟩; refine ⟨_, rfl, ?_⟩) | ((with_reducible refine gate_callee (f := 9) rfl ?_); refine goesL_ (some 18) rfl rfl Try.func9 (by kernel_rfl) rfl #[.int .u64 a0, .int .u64 a1, .bool false] rfl (by (try simp only [List.map_toArray, List.map_cons, List.map_nil]); first | done | rfl | (simp only [List.length_drop, List.length_take]; rfl)) ?_; (with_reducible refine (words_Add.calls a0 a1 false t102 t103 _ A5.out).mono ?_); rintro e w' ⟨rfl, ⟨nd, rfl⟩⟩; refine ⟨_, rfl, ?_⟩) | (go_at_call 11; (with_reducible refine (words_Prefix.calls k (Go.bits .xor .u64 a0 a1) t112 _ A32.out).mono ?_); rintro e w' ⟨rfl, ⟨nd, rfl⟩⟩) | (go_at_call 11; (with_reducible refine (words_Prefix.calls k a1 t113 _ A33.out).mono ?_); rintro e w' ⟨rfl, ⟨nd, rfl⟩⟩))
              go_ret
              exact ⟨by first | rfl | (simp; done) | (simp [*]; done), by repeat (first | exact Drawn0.refl _ | apply Drawn0.step)⟩
            · rw [if_neg c35] at H
              have c35b0 : ((IntKind.u64.wrap ((IntKind.u64.wrap (t102 - a1)))) == a0) = false := beq_eq_false_iff_ne.mpr c35
              have c35b1 : ((IntKind.u64.wrap ((IntKind.u64.wrap (t102 - a1)))) != a0) = true := bne_iff_ne.mpr c35
              obtain rfl := Option.some.inj H
              go_enter Try.func6, Try.ntmps6
              go_wp2_with (first | ((with_reducible refine gate_callee (f := 11) rfl ?_); refine goesL_ (some 13) rfl rfl Try.func11 (by kernel_rfl) rfl #[.int .u64 a0] rfl (by (try simp only [List.map_toArray, List.map_cons, List.map_nil]); first | done | rfl | (simp only [List.length_drop, List.length_take]; rfl)) ?_; (with_reducible refine (words_Prefix.calls k a0 t101 _ A4.out).mono ?_); rintro e w' ⟨rfl, ⟨nd, rfl⟩⟩; refine ⟨_, rfl, ?_⟩) | ((with_reducible refine gate_callee (f := 9) rfl ?_); refine goesL_ (some 18) rfl rfl Try.func9 (by kernel_rfl) rfl #[.int .u64 a0, .int .u64 a1, .bool false] rfl (by (try simp only [List.map_toArray, List.map_cons, List.map_nil]); first | done | rfl | (simp only [List.length_drop, List.length_take]; rfl)) ?_; (with_reducible refine (words_Add.calls a0 a1 false t102 t103 _ A5.out).mono ?_); rintro e w' ⟨rfl, ⟨nd, rfl⟩⟩; refine ⟨_, rfl, ?_⟩) | (go_at_call 11; (with_reducible refine (words_Prefix.calls k (Go.bits .xor .u64 a0 a1) t112 _ A32.out).mono ?_); rintro e w' ⟨rfl, ⟨nd, rfl⟩⟩) | (go_at_call 11; (with_reducible refine (words_Prefix.calls k a1 t113 _ A33.out).mono ?_); rintro e w' ⟨rfl, ⟨nd, rfl⟩⟩))
              go_ret
              exact ⟨by first | rfl | (simp; done) | (simp [*]; done), by repeat (first | exact Drawn0.refl _ | apply Drawn0.step)⟩
          · rw [if_neg c34] at H
            have c34b0 : (t112 == (Go.bits .xor .u64 t101 t113)) = false := beq_eq_false_iff_ne.mpr c34
            have c34b1 : (t112 != (Go.bits .xor .u64 t101 t113)) = true := bne_iff_ne.mpr c34
            obtain rfl := Option.some.inj H
            go_enter Try.func6, Try.ntmps6
            go_wp2_with (first | ((with_reducible refine gate_callee (f := 11) rfl ?_); refine goesL_ (some 13) rfl rfl Try.func11 (by kernel_rfl) rfl #[.int .u64 a0] rfl (by (try simp only [List.map_toArray, List.map_cons, List.map_nil]); first | done | rfl | (simp only [List.length_drop, List.length_take]; rfl)) ?_; (with_reducible refine (words_Prefix.calls k a0 t101 _ A4.out).mono ?_); rintro e w' ⟨rfl, ⟨nd, rfl⟩⟩; refine ⟨_, rfl, ?_⟩) | ((with_reducible refine gate_callee (f := 9) rfl ?_); refine goesL_ (some 18) rfl rfl Try.func9 (by kernel_rfl) rfl #[.int .u64 a0, .int .u64 a1, .bool false] rfl (by (try simp only [List.map_toArray, List.map_cons, List.map_nil]); first | done | rfl | (simp only [List.length_drop, List.length_take]; rfl)) ?_; (with_reducible refine (words_Add.calls a0 a1 false t102 t103 _ A5.out).mono ?_); rintro e w' ⟨rfl, ⟨nd, rfl⟩⟩; refine ⟨_, rfl, ?_⟩) | (go_at_call 11; (with_reducible refine (words_Prefix.calls k (Go.bits .xor .u64 a0 a1) t112 _ A32.out).mono ?_); rintro e w' ⟨rfl, ⟨nd, rfl⟩⟩) | (go_at_call 11; (with_reducible refine (words_Prefix.calls k a1 t113 _ A33.out).mono ?_); rintro e w' ⟨rfl, ⟨nd, rfl⟩⟩))
            go_ret
            exact ⟨by first | rfl | (simp; done) | (simp [*]; done), by repeat (first | exact Drawn0.refl _ | apply Drawn0.step)⟩
        · rw [if_neg c31] at H
          have c31b0 : ((Go.bits .xor .u64 t101 (IntKind.u64.wrap (t101 * 2))) == a0) = false := beq_eq_false_iff_ne.mpr c31
          have c31b1 : ((Go.bits .xor .u64 t101 (IntKind.u64.wrap (t101 * 2))) != a0) = true := bne_iff_ne.mpr c31
          obtain rfl := Option.some.inj H
          go_enter Try.func6, Try.ntmps6
          go_wp2_with (first | ((with_reducible refine gate_callee (f := 11) rfl ?_); refine goesL_ (some 13) rfl rfl Try.func11 (by kernel_rfl) rfl #[.int .u64 a0] rfl (by (try simp only [List.map_toArray, List.map_cons, List.map_nil]); first | done | rfl | (simp only [List.length_drop, List.length_take]; rfl)) ?_; (with_reducible refine (words_Prefix.calls k a0 t101 _ A4.out).mono ?_); rintro e w' ⟨rfl, ⟨nd, rfl⟩⟩; refine ⟨_, rfl, ?_⟩) | ((with_reducible refine gate_callee (f := 9) rfl ?_); refine goesL_ (some 18) rfl rfl Try.func9 (by kernel_rfl) rfl #[.int .u64 a0, .int .u64 a1, .bool false] rfl (by (try simp only [List.map_toArray, List.map_cons, List.map_nil]); first | done | rfl | (simp only [List.length_drop, List.length_take]; rfl)) ?_; (with_reducible refine (words_Add.calls a0 a1 false t102 t103 _ A5.out).mono ?_); rintro e w' ⟨rfl, ⟨nd, rfl⟩⟩; refine ⟨_, rfl, ?_⟩))
          go_ret
          exact ⟨by first | rfl | (simp; done) | (simp [*]; done), by repeat (first | exact Drawn0.refl _ | apply Drawn0.step)⟩
      · rw [if_neg c30] at H
        have c30b0 : (t102 == a0) = false := beq_eq_false_iff_ne.mpr c30
        have c30b1 : (t102 != a0) = true := bne_iff_ne.mpr c30
        by_cases c36 : (Go.bits .xor .u64 t101 (IntKind.u64.wrap (t101 * 2))) = a0
        · rw [if_pos c36] at H
          have c36b0 : ((Go.bits .xor .u64 t101 (IntKind.u64.wrap (t101 * 2))) == a0) = true := beq_iff_eq.mpr c36
          have c36b1 : ((Go.bits .xor .u64 t101 (IntKind.u64.wrap (t101 * 2))) != a0) = false := bne_eq_false_iff_eq.mpr c36
          clear c36
          replace H := Option.bind_eq_some_iff.mp H
          obtain ⟨t114, A370, H⟩ := H
          replace H : ((words_Prefix.f k a1).bind fun t115 => (if t114 = (Go.bits .xor .u64 t101 t115) then (if (IntKind.u64.wrap ((IntKind.u64.wrap (t102 - a1)))) = a0 then (some (t103 == false)) else (some false)) else (some false))) = some r := H
          have A37 := Aside0.mk A370
          clear A370
          replace H := Option.bind_eq_some_iff.mp H
          obtain ⟨t115, A380, H⟩ := H
          replace H : (if t114 = (Go.bits .xor .u64 t101 t115) then (if (IntKind.u64.wrap ((IntKind.u64.wrap (t102 - a1)))) = a0 then (some (t103 == false)) else (some false)) else (some false)) = some r := H
          have A38 := Aside0.mk A380
          clear A380
          by_cases c39 : t114 = (Go.bits .xor .u64 t101 t115)
          · rw [if_pos c39] at H
            have c39b0 : (t114 == (Go.bits .xor .u64 t101 t115)) = true := beq_iff_eq.mpr c39
            have c39b1 : (t114 != (Go.bits .xor .u64 t101 t115)) = false := bne_eq_false_iff_eq.mpr c39
            clear c39
            by_cases c40 : (IntKind.u64.wrap ((IntKind.u64.wrap (t102 - a1)))) = a0
            · rw [if_pos c40] at H
              have c40b0 : ((IntKind.u64.wrap ((IntKind.u64.wrap (t102 - a1)))) == a0) = true := beq_iff_eq.mpr c40
              have c40b1 : ((IntKind.u64.wrap ((IntKind.u64.wrap (t102 - a1)))) != a0) = false := bne_eq_false_iff_eq.mpr c40
              clear c40
              obtain rfl := Option.some.inj H
              go_enter Try.func6, Try.ntmps6
              go_wp2_with (first | ((with_reducible refine gate_callee (f := 11) rfl ?_); refine goesL_ (some 13) rfl rfl Try.func11 (by kernel_rfl) rfl #[.int .u64 a0] rfl (by (try simp only [List.map_toArray, List.map_cons, List.map_nil]); first | done | rfl | (simp only [List.length_drop, List.length_take]; rfl)) ?_; (with_reducible refine (words_Prefix.calls k a0 t101 _ A4.out).mono ?_); rintro e w' ⟨rfl, ⟨nd, rfl⟩⟩; refine ⟨_, rfl, ?_⟩) | ((with_reducible refine gate_callee (f := 9) rfl ?_); refine goesL_ (some 18) rfl rfl Try.func9 (by kernel_rfl) rfl #[.int .u64 a0, .int .u64 a1, .bool false] rfl (by (try simp only [List.map_toArray, List.map_cons, List.map_nil]); first | done | rfl | (simp only [List.length_drop, List.length_take]; rfl)) ?_; (with_reducible refine (words_Add.calls a0 a1 false t102 t103 _ A5.out).mono ?_); rintro e w' ⟨rfl, ⟨nd, rfl⟩⟩; refine ⟨_, rfl, ?_⟩) | (go_at_call 11; (with_reducible refine (words_Prefix.calls k (Go.bits .xor .u64 a0 a1) t114 _ A37.out).mono ?_); rintro e w' ⟨rfl, ⟨nd, rfl⟩⟩) | (go_at_call 11; (with_reducible refine (words_Prefix.calls k a1 t115 _ A38.out).mono ?_); rintro e w' ⟨rfl, ⟨nd, rfl⟩⟩))
              go_ret
              exact ⟨by first | rfl | (simp; done) | (simp [*]; done), by repeat (first | exact Drawn0.refl _ | apply Drawn0.step)⟩
            · rw [if_neg c40] at H
              have c40b0 : ((IntKind.u64.wrap ((IntKind.u64.wrap (t102 - a1)))) == a0) = false := beq_eq_false_iff_ne.mpr c40
              have c40b1 : ((IntKind.u64.wrap ((IntKind.u64.wrap (t102 - a1)))) != a0) = true := bne_iff_ne.mpr c40
              obtain rfl := Option.some.inj H
              go_enter Try.func6, Try.ntmps6
              go_wp2_with (first | ((with_reducible refine gate_callee (f := 11) rfl ?_); refine goesL_ (some 13) rfl rfl Try.func11 (by kernel_rfl) rfl #[.int .u64 a0] rfl (by (try simp only [List.map_toArray, List.map_cons, List.map_nil]); first | done | rfl | (simp only [List.length_drop, List.length_take]; rfl)) ?_; (with_reducible refine (words_Prefix.calls k a0 t101 _ A4.out).mono ?_); rintro e w' ⟨rfl, ⟨nd, rfl⟩⟩; refine ⟨_, rfl, ?_⟩) | ((with_reducible refine gate_callee (f := 9) rfl ?_); refine goesL_ (some 18) rfl rfl Try.func9 (by kernel_rfl) rfl #[.int .u64 a0, .int .u64 a1, .bool false] rfl (by (try simp only [List.map_toArray, List.map_cons, List.map_nil]); first | done | rfl | (simp only [List.length_drop, List.length_take]; rfl)) ?_; (with_reducible refine (words_Add.calls a0 a1 false t102 t103 _ A5.out).mono ?_); rintro e w' ⟨rfl, ⟨nd, rfl⟩⟩; refine ⟨_, rfl, ?_⟩) | (go_at_call 11; (with_reducible refine (words_Prefix.calls k (Go.bits .xor .u64 a0 a1) t114 _ A37.out).mono ?_); rintro e w' ⟨rfl, ⟨nd, rfl⟩⟩) | (go_at_call 11; (with_reducible refine (words_Prefix.calls k a1 t115 _ A38.out).mono ?_); rintro e w' ⟨rfl, ⟨nd, rfl⟩⟩))
              go_ret
              exact ⟨by first | rfl | (simp; done) | (simp [*]; done), by repeat (first | exact Drawn0.refl _ | apply Drawn0.step)⟩
          · rw [if_neg c39] at H
            have c39b0 : (t114 == (Go.bits .xor .u64 t101 t115)) = false := beq_eq_false_iff_ne.mpr c39
            have c39b1 : (t114 != (Go.bits .xor .u64 t101 t115)) = true := bne_iff_ne.mpr c39
            obtain rfl := Option.some.inj H
            go_enter Try.func6, Try.ntmps6
            go_wp2_with (first | ((with_reducible refine gate_callee (f := 11) rfl ?_); refine goesL_ (some 13) rfl rfl Try.func11 (by kernel_rfl) rfl #[.int .u64 a0] rfl (by (try simp only [List.map_toArray, List.map_cons, List.map_nil]); first | done | rfl | (simp only [List.length_drop, List.length_take]; rfl)) ?_; (with_reducible refine (words_Prefix.calls k a0 t101 _ A4.out).mono ?_); rintro e w' ⟨rfl, ⟨nd, rfl⟩⟩; refine ⟨_, rfl, ?_⟩) | ((with_reducible refine gate_callee (f := 9) rfl ?_); refine goesL_ (some 18) rfl rfl Try.func9 (by kernel_rfl) rfl #[.int .u64 a0, .int .u64 a1, .bool false] rfl (by (try simp only [List.map_toArray, List.map_cons, List.map_nil]); first | done | rfl | (simp only [List.length_drop, List.length_take]; rfl)) ?_; (with_reducible refine (words_Add.calls a0 a1 false t102 t103 _ A5.out).mono ?_); rintro e w' ⟨rfl, ⟨nd, rfl⟩⟩; refine ⟨_, rfl, ?_⟩) | (go_at_call 11; (with_reducible refine (words_Prefix.calls k (Go.bits .xor .u64 a0 a1) t114 _ A37.out).mono ?_); rintro e w' ⟨rfl, ⟨nd, rfl⟩⟩) | (go_at_call 11; (with_reducible refine (words_Prefix.calls k a1 t115 _ A38.out).mono ?_); rintro e w' ⟨rfl, ⟨nd, rfl⟩⟩))
            go_ret
            exact ⟨by first | rfl | (simp; done) | (simp [*]; done), by repeat (first | exact Drawn0.refl _ | apply Drawn0.step)⟩
        · rw [if_neg c36] at H
          have c36b0 : ((Go.bits .xor .u64 t101 (IntKind.u64.wrap (t101 * 2))) == a0) = false := beq_eq_false_iff_ne.mpr c36
          have c36b1 : ((Go.bits .xor .u64 t101 (IntKind.u64.wrap (t101 * 2))) != a0) = true := bne_iff_ne.mpr c36
          obtain rfl := Option.some.inj H
          go_enter Try.func6, Try.ntmps6
          go_wp2_with (first | ((with_reducible refine gate_callee (f := 11) rfl ?_); refine goesL_ (some 13) rfl rfl Try.func11 (by kernel_rfl) rfl #[.int .u64 a0] rfl (by (try simp only [List.map_toArray, List.map_cons, List.map_nil]); first | done | rfl | (simp only [List.length_drop, List.length_take]; rfl)) ?_; (with_reducible refine (words_Prefix.calls k a0 t101 _ A4.out).mono ?_); rintro e w' ⟨rfl, ⟨nd, rfl⟩⟩; refine ⟨_, rfl, ?_⟩) | ((with_reducible refine gate_callee (f := 9) rfl ?_); refine goesL_ (some 18) rfl rfl Try.func9 (by kernel_rfl) rfl #[.int .u64 a0, .int .u64 a1, .bool false] rfl (by (try simp only [List.map_toArray, List.map_cons, List.map_nil]); first | done | rfl | (simp only [List.length_drop, List.length_take]; rfl)) ?_; (with_reducible refine (words_Add.calls a0 a1 false t102 t103 _ A5.out).mono ?_); rintro e w' ⟨rfl, ⟨nd, rfl⟩⟩; refine ⟨_, rfl, ?_⟩))
          go_ret
          exact ⟨by first | rfl | (simp; done) | (simp [*]; done), by repeat (first | exact Drawn0.refl _ | apply Drawn0.step)⟩

/-- THE ONE PURE STATEMENT of quarrylaw03_WordsTurns: yours. -/
def quarrylaw03_WordsTurns.Pure : Prop := ∀ (a0 : Int) (a1 : Int) (a2 : Bool), (Lit.int .u64 a0).wf = true → (Lit.int .u64 a1).wf = true → ∃ k, quarrylaw03_WordsTurns.f k a0 a1 a2 = some true
theorem quarrylaw03_WordsTurns.walk (P : quarrylaw03_WordsTurns.Pure) (a0 : Int) (a1 : Int) (a2 : Bool) (w : World) (w0 : (Lit.int .u64 a0).wf = true) (w1 : (Lit.int .u64 a1).wf = true) :
    Calls Try.prog 6 #[.int .u64 a0, .int .u64 a1, .bool a2] w fun e w' => e = .returned (.bool true) ∧ Below w.heap.size w w' := by
  obtain ⟨k, h⟩ := P a0 a1 a2 w0 w1
  refine (quarrylaw03_WordsTurns.calls k a0 a1 a2 true w h).mono ?_
  rintro e w' ⟨rfl, hd⟩
  exact ⟨rfl, hd.below⟩

end Go.Proofs.Ytjjnmpidlkjeiaa.PWordsTurns
