-- PRINTED BY print.sh 35421559b90ae4d0a3588c463048766b98c2df88dd9212a6774a882060cdf62d: not written by this session
import Derived.Test.YtjjnmpidlkjeiaaPWordsEscapesx0
namespace Go.Proofs.Ytjjnmpidlkjeiaa.PWordsEscapes
open Go.RowKit Go.Proofs.YtjjnmpidlkjeiaaW.PrintWords Go.Proofs.YtjjnmpidlkjeiaaW.PrintLast Go.Proofs.YtjjnmpidlkjeiaaW.PrintMore
attribute [local go_sem] max2_int min2_int max_two min_two max_three min_three max_four min_four   -- for this text's walks alone
set_option linter.unusedVariables false
set_option linter.unusedSimpArgs false

/-! ### words_Escaped: function 7 -/
def words_Escaped.f (a0 : Int) (a1 : Bool) : Option (Int × Bool) := if a1 = true then (some (Go.bits .xor .u64 (Go.bits .xor .u64 (IntKind.u64.wrap ((Go.bits .or .u64 (IntKind.u64.wrap ((Go.bits .andNot .u64 a0 1) * 2)) 12297829382473034410) - (Go.bits .andNot .u64 a0 1))) 12297829382473034410) (Go.bits .or .u64 a0 1), (((Go.bits .and .u64 (Go.bits .xor .u64 (IntKind.u64.wrap ((Go.bits .or .u64 (IntKind.u64.wrap ((Go.bits .andNot .u64 a0 1) * 2)) 12297829382473034410) - (Go.bits .andNot .u64 a0 1))) 12297829382473034410) a0) / 9223372036854775808) != 0))) else (some (Go.bits .xor .u64 (Go.bits .xor .u64 (IntKind.u64.wrap ((Go.bits .or .u64 (IntKind.u64.wrap ((Go.bits .andNot .u64 a0 0) * 2)) 12297829382473034410) - (Go.bits .andNot .u64 a0 0))) 12297829382473034410) (Go.bits .or .u64 a0 0), (((Go.bits .and .u64 (Go.bits .xor .u64 (IntKind.u64.wrap ((Go.bits .or .u64 (IntKind.u64.wrap ((Go.bits .andNot .u64 a0 0) * 2)) 12297829382473034410) - (Go.bits .andNot .u64 a0 0))) 12297829382473034410) a0) / 9223372036854775808) != 0)))
set_option maxHeartbeats 8000000 in
set_option maxRecDepth 100000 in
theorem words_Escaped.calls (a0 : Int) (a1 : Bool) (r1 : Int) (r2 : Bool) (w : World) (h : words_Escaped.f a0 a1 = some (r1, r2)) :
    Calls Try.prog 7 #[.int .u64 a0, .bool a1] w fun e w' => e = .returned (.tuple #[.int .u64 r1, .bool r2]) ∧ Drawn0 w w' := by
  have H : (if a1 = true then (some (Go.bits .xor .u64 (Go.bits .xor .u64 (IntKind.u64.wrap ((Go.bits .or .u64 (IntKind.u64.wrap ((Go.bits .andNot .u64 a0 1) * 2)) 12297829382473034410) - (Go.bits .andNot .u64 a0 1))) 12297829382473034410) (Go.bits .or .u64 a0 1), (((Go.bits .and .u64 (Go.bits .xor .u64 (IntKind.u64.wrap ((Go.bits .or .u64 (IntKind.u64.wrap ((Go.bits .andNot .u64 a0 1) * 2)) 12297829382473034410) - (Go.bits .andNot .u64 a0 1))) 12297829382473034410) a0) / 9223372036854775808) != 0))) else (some (Go.bits .xor .u64 (Go.bits .xor .u64 (IntKind.u64.wrap ((Go.bits .or .u64 (IntKind.u64.wrap ((Go.bits .andNot .u64 a0 0) * 2)) 12297829382473034410) - (Go.bits .andNot .u64 a0 0))) 12297829382473034410) (Go.bits .or .u64 a0 0), (((Go.bits .and .u64 (Go.bits .xor .u64 (IntKind.u64.wrap ((Go.bits .or .u64 (IntKind.u64.wrap ((Go.bits .andNot .u64 a0 0) * 2)) 12297829382473034410) - (Go.bits .andNot .u64 a0 0))) 12297829382473034410) a0) / 9223372036854775808) != 0)))) = some (r1, r2) := h
  clear h
  by_cases c3 : a1 = true
  · subst c3
    have H1 : (some (Go.bits .xor .u64 (Go.bits .xor .u64 (IntKind.u64.wrap ((Go.bits .or .u64 (IntKind.u64.wrap ((Go.bits .andNot .u64 a0 1) * 2)) 12297829382473034410) - (Go.bits .andNot .u64 a0 1))) 12297829382473034410) (Go.bits .or .u64 a0 1), (((Go.bits .and .u64 (Go.bits .xor .u64 (IntKind.u64.wrap ((Go.bits .or .u64 (IntKind.u64.wrap ((Go.bits .andNot .u64 a0 1) * 2)) 12297829382473034410) - (Go.bits .andNot .u64 a0 1))) 12297829382473034410) a0) / 9223372036854775808) != 0))) = some (r1, r2) := by rw [if_pos rfl] at H; exact H
    clear H
    have H := H1
    clear H1
    simp only [Option.some.injEq, Prod.mk.injEq] at H
    obtain ⟨rfl, rfl⟩ := H
    go_enter Try.func7, Try.ntmps7
    go_wp2
    go_ret2
    exact ⟨by first | rfl | (simp; done) | (simp [*]; done), by repeat (first | exact Drawn0.refl _ | apply Drawn0.step)⟩
  · replace c3 := Bool.eq_false_iff.mpr c3
    subst c3
    have H1 : (some (Go.bits .xor .u64 (Go.bits .xor .u64 (IntKind.u64.wrap ((Go.bits .or .u64 (IntKind.u64.wrap ((Go.bits .andNot .u64 a0 0) * 2)) 12297829382473034410) - (Go.bits .andNot .u64 a0 0))) 12297829382473034410) (Go.bits .or .u64 a0 0), (((Go.bits .and .u64 (Go.bits .xor .u64 (IntKind.u64.wrap ((Go.bits .or .u64 (IntKind.u64.wrap ((Go.bits .andNot .u64 a0 0) * 2)) 12297829382473034410) - (Go.bits .andNot .u64 a0 0))) 12297829382473034410) a0) / 9223372036854775808) != 0))) = some (r1, r2) := by rw [if_neg (show ¬ (false = true) by decide)] at H; exact H
    clear H
    have H := H1
    clear H1
    simp only [Option.some.injEq, Prod.mk.injEq] at H
    obtain ⟨rfl, rfl⟩ := H
    go_enter Try.func7, Try.ntmps7
    go_wp2
    go_ret2
    exact ⟨by first | rfl | (simp; done) | (simp [*]; done), by repeat (first | exact Drawn0.refl _ | apply Drawn0.step)⟩

/-! ### quarryref03_Has: function 13 -/
def quarryref03_Has.f (a0 : Int) (a1 : Int) : Option (Bool) := if 0 ≤ (IntKind.u64.wrap (a1)) then (some ((Go.bits .and .u64 (shr .u64 a0 (IntKind.u64.wrap (a1))) 1) == 1)) else (none)
set_option maxHeartbeats 8000000 in
set_option maxRecDepth 100000 in
theorem quarryref03_Has.calls (a0 : Int) (a1 : Int) (r : Bool) (w : World) (h : quarryref03_Has.f a0 a1 = some r) :
    Calls Try.prog 13 #[.int .u64 a0, .int .i64 a1] w fun e w' => e = .returned (.bool r) ∧ Drawn0 w w' := by
  have H : (if 0 ≤ (IntKind.u64.wrap (a1)) then (some ((Go.bits .and .u64 (shr .u64 a0 (IntKind.u64.wrap (a1))) 1) == 1)) else (none)) = some r := h
  clear h
  obtain ⟨ji3, hji3⟩ : ∃ j_ : Int, (IntKind.u64.wrap (a1)) = j_ := ⟨_, rfl⟩
  replace H : (if 0 ≤ (ji3) then (some ((Go.bits .and .u64 (shr .u64 a0 (ji3)) 1) == 1)) else (none)) = some r := by first | (rw [hji3] at H; exact H) | (simp only [hji3] at H ⊢; exact H)
  by_cases c4 : 0 ≤ (ji3)
  · rw [if_pos c4] at H
    have c4b0 := eq_true c4
    have c4b1 : decide (0 ≤ (ji3)) = true := decide_eq_true c4
    clear c4
    obtain ⟨ji5, hji5⟩ : ∃ j_ : Int, (shr .u64 a0 (ji3)) = j_ := ⟨_, rfl⟩
    replace H : (some ((Go.bits .and .u64 (ji5) 1) == 1)) = some r := by first | (rw [hji5] at H; exact H) | (simp only [hji5] at H ⊢; exact H)
    have hji5_ : (a0 / 2 ^ min (ji3).toNat 64) = ji5 := hji5
    have hji5z : (ji3) ≤ 64 → (a0 / 2 ^ (ji3).toNat) = ji5 := shr_small hji5
    obtain rfl := Option.some.inj H
    go_enter Try.func13, Try.ntmps13
    go_wp2
    go_ret
    exact ⟨by first | rfl | (simp; done) | (simp only [← hji3, ← hji5] <;> (first | rfl | simp)) | (simp [*]; done), by repeat (first | exact Drawn0.refl _ | apply Drawn0.step)⟩
  · rw [if_neg c4] at H
    exact absurd H (by simp)

/-! ### quarryref03_Escaped: function 8 -/
def quarryref03_Escaped.l0 : Nat → Int → Bool → Int → Int → Option (Int × Bool)
  | 0, _, _, _, _ => none
  | k + 1, x0, x1, x6, x7 => if x7 < 64 then (if x1 = true then (if 0 ≤ (IntKind.u64.wrap (x7)) then ((quarryref03_Has.f x0 x7).bind fun t101 => (if t101 = true then (quarryref03_Escaped.l0 k x0 (!x1) (IntKind.u64.wrap (x6 + (shl .u64 1 (IntKind.u64.wrap (x7))))) (wrap64 (x7 + 1))) else (quarryref03_Escaped.l0 k x0 false (IntKind.u64.wrap (x6 + (shl .u64 1 (IntKind.u64.wrap (x7))))) (wrap64 (x7 + 1))))) else (none)) else ((quarryref03_Has.f x0 x7).bind fun t102 => (if t102 = true then (quarryref03_Escaped.l0 k x0 (!x1) x6 (wrap64 (x7 + 1))) else (quarryref03_Escaped.l0 k x0 false x6 (wrap64 (x7 + 1)))))) else (some (x6, x1))
def quarryref03_Escaped.f (k : Nat) (a0 : Int) (a1 : Bool) : Option (Int × Bool) := quarryref03_Escaped.l0 k a0 a1 0 0
theorem quarryref03_Escaped.mono_l : ∀ k, (∀ y0 y1 y2 y3, LeO (quarryref03_Escaped.l0 k y0 y1 y2 y3) (quarryref03_Escaped.l0 (k + 1) y0 y1 y2 y3))
  | 0 => fun _ _ _ _ r h => by simp [quarryref03_Escaped.l0] at h
  | k + 1 => by
    have ih0 := quarryref03_Escaped.mono_l k
    · intro y0 y1 y2 y3
      unfold quarryref03_Escaped.l0
      repeat' first
      | (with_reducible exact ih0 _ _ _ _)
      | (with_reducible exact LeO.refl _)
      | (with_reducible exact LeO.none _)
      | (with_reducible refine LeO.ite ?_ ?_)
      | (with_reducible refine LeO.bind ?_ (fun _ => ?_))
      | exact ih0 _ _ _ _
      | exact LeO.none _
      | refine LeO.ite ?_ ?_
      | refine LeO.bind ?_ (fun _ => ?_)
theorem quarryref03_Escaped.mono : ∀ a0 a1 k, LeO (quarryref03_Escaped.f k a0 a1) (quarryref03_Escaped.f (k + 1) a0 a1) := by
  intro a0 a1 k
  have ih0 := quarryref03_Escaped.mono_l k
  unfold quarryref03_Escaped.f
  repeat' first
      | (with_reducible exact ih0 _ _ _ _)
      | (with_reducible exact LeO.refl _)
      | (with_reducible exact LeO.none _)
      | (with_reducible refine LeO.ite ?_ ?_)
      | (with_reducible refine LeO.bind ?_ (fun _ => ?_))
      | exact ih0 _ _ _ _
      | exact LeO.none _
      | refine LeO.ite ?_ ?_
      | refine LeO.bind ?_ (fun _ => ?_)
set_option maxHeartbeats 8000000 in
set_option maxRecDepth 100000 in
theorem quarryref03_Escaped.calls (k : Nat) (a0 : Int) (a1 : Bool) (r1 : Int) (r2 : Bool) (w : World) (h : quarryref03_Escaped.f k a0 a1 = some (r1, r2)) :
    Calls Try.prog 8 #[.int .u64 a0, .bool a1] w fun e w' => e = .returned (.tuple #[.int .u64 r1, .bool r2]) ∧ Drawn0 w w' := by
  have H : (quarryref03_Escaped.l0 k a0 a1 0 0) = some (r1, r2) := h
  clear h
  have H' := Aside0.mk H
  clear H
  go_enter Try.func8, Try.ntmps8
  go_wp2
  go_loopg [1, 6, 7] k (fun kq v1 v6 v7 w' => ∃ (x1_1 : Bool) (x6_1 : Int) (x7_1 : Int), v1 = .bool x1_1 ∧ v6 = .int .u64 x6_1 ∧ v7 = .int .i64 x7_1 ∧ Aside0 (quarryref03_Escaped.l0 kq a0 x1_1 x6_1 x7_1 = some (r1, r2)) ∧ Aside0 (kq ≤ k) ∧ Drawn0 w w')
  case atStart => exact ⟨(a1), (0), (0), (by first | rfl | (simp; done) | (simp [*]; done)), (by first | rfl | (simp; done) | (simp [*]; done)), (by first | rfl | (simp; done) | (simp [*]; done)), H', ⟨Nat.le_refl _⟩, by repeat (first | exact Drawn0.refl _ | apply Drawn0.step)⟩
  case round =>
    clear H'
    try clear p2
    obtain ⟨x1_1, x6_1, x7_1, rfl, rfl, rfl, HA, HK1, ⟨m1, rfl⟩⟩ := hrel
    cases gk with
    | zero => exact absurd HA.out (by simp [quarryref03_Escaped.l0])
    | succ k1 =>
      have H := HA.out
      clear HA
      simp only [quarryref03_Escaped.l0] at H
      by_cases c3 : x7_1 < 64
      · rw [if_pos c3] at H
        have c3b0 : decide (x7_1 < 64) = true := decide_eq_true c3
        clear c3
        by_cases c4 : x1_1 = true
        · subst c4
          have H1 : (if 0 ≤ (IntKind.u64.wrap (x7_1)) then ((quarryref03_Has.f a0 x7_1).bind fun t101 => (if t101 = true then (quarryref03_Escaped.l0 k1 a0 (!true) (IntKind.u64.wrap (x6_1 + (shl .u64 1 (IntKind.u64.wrap (x7_1))))) (wrap64 (x7_1 + 1))) else (quarryref03_Escaped.l0 k1 a0 false (IntKind.u64.wrap (x6_1 + (shl .u64 1 (IntKind.u64.wrap (x7_1))))) (wrap64 (x7_1 + 1))))) else (none)) = some (r1, r2) := by rw [if_pos rfl] at H; exact H
          clear H
          have H := H1
          clear H1
          obtain ⟨ji5, hji5⟩ : ∃ j_ : Int, (IntKind.u64.wrap (x7_1)) = j_ := ⟨_, rfl⟩
          replace H : (if 0 ≤ (ji5) then ((quarryref03_Has.f a0 x7_1).bind fun t101 => (if t101 = true then (quarryref03_Escaped.l0 k1 a0 (!true) (IntKind.u64.wrap (x6_1 + (shl .u64 1 (ji5)))) (wrap64 (x7_1 + 1))) else (quarryref03_Escaped.l0 k1 a0 false (IntKind.u64.wrap (x6_1 + (shl .u64 1 (ji5)))) (wrap64 (x7_1 + 1))))) else (none)) = some (r1, r2) := by first | (rw [hji5] at H; exact H) | (simp only [hji5] at H ⊢; exact H)
          by_cases c6 : 0 ≤ (ji5)
          · rw [if_pos c6] at H
            have c6b0 := eq_true c6
            have c6b1 : decide (0 ≤ (ji5)) = true := decide_eq_true c6
            clear c6
            obtain ⟨ji7, hji7⟩ : ∃ j_ : Int, (shl .u64 1 (ji5)) = j_ := ⟨_, rfl⟩
            replace H : ((quarryref03_Has.f a0 x7_1).bind fun t101 => (if t101 = true then (quarryref03_Escaped.l0 k1 a0 (!true) (IntKind.u64.wrap (x6_1 + (ji7))) (wrap64 (x7_1 + 1))) else (quarryref03_Escaped.l0 k1 a0 false (IntKind.u64.wrap (x6_1 + (ji7))) (wrap64 (x7_1 + 1))))) = some (r1, r2) := by first | (rw [hji7] at H; exact H) | (simp only [hji7] at H ⊢; exact H)
            have hji7_ : (IntKind.u64.wrap (1 * 2 ^ min (ji5).toNat 64)) = ji7 := hji7
            have hji7z : (ji5) ≤ 64 → (IntKind.u64.wrap (1 * 2 ^ (ji5).toNat)) = ji7 := shl_small hji7
            have hji7u : (IntKind.u64.wrap (2 ^ min (ji5).toNat 64)) = ji7 := by have h_ := hji7_; rw [Int.one_mul] at h_; exact h_
            have hji7v : (ji5) ≤ 64 → (IntKind.u64.wrap (2 ^ (ji5).toNat)) = ji7 := fun hle_ => by have h_ := hji7z hle_; rw [Int.one_mul] at h_; exact h_
            replace H := Option.bind_eq_some_iff.mp H
            obtain ⟨t101, A80, H⟩ := H
            replace H : (if t101 = true then (quarryref03_Escaped.l0 k1 a0 (!true) (IntKind.u64.wrap (x6_1 + (ji7))) (wrap64 (x7_1 + 1))) else (quarryref03_Escaped.l0 k1 a0 false (IntKind.u64.wrap (x6_1 + (ji7))) (wrap64 (x7_1 + 1)))) = some (r1, r2) := H
            have A8 := Aside0.mk A80
            clear A80
            by_cases c9 : t101 = true
            · subst c9
              have H1 : (quarryref03_Escaped.l0 k1 a0 (!true) (IntKind.u64.wrap (x6_1 + (ji7))) (wrap64 (x7_1 + 1))) = some (r1, r2) := by rw [if_pos rfl] at H; exact H
              clear H
              have H := H1
              clear H1
              have H' := Aside0.mk H
              clear H
              go_wp2_with (first | ((with_reducible refine gate_callee (f := 13) rfl ?_); refine goesL_ (some 20) rfl rfl Try.func13 (by kernel_rfl) rfl #[.int .u64 a0, .int .i64 x7_1] rfl (by (try simp only [List.map_toArray, List.map_cons, List.map_nil]); first | done | rfl | (simp only [List.length_drop, List.length_take]; rfl)) ?_; (with_reducible refine (quarryref03_Has.calls a0 x7_1 true _ A8.out).mono ?_); rintro e w' ⟨rfl, ⟨nd, rfl⟩⟩; refine ⟨_, rfl, ?_⟩))
              go_roundg k1
              case measure => have := HK1.out; omega
              case rel => exact ⟨(!true), (IntKind.u64.wrap (x6_1 + (ji7))), (wrap64 (x7_1 + 1)), (by first | rfl | (simp; done) | (simp [*]; done)), (by first | rfl | (simp; done) | (simp only [← hji7] <;> (first | rfl | simp)) | (simp [*]; done)), (by first | rfl | (simp; done) | (simp [*]; done)), H', ⟨by have := HK1.out; omega⟩, by repeat (first | exact Drawn0.refl _ | apply Drawn0.step)⟩
            · replace c9 := Bool.eq_false_iff.mpr c9
              subst c9
              have H1 : (quarryref03_Escaped.l0 k1 a0 false (IntKind.u64.wrap (x6_1 + (ji7))) (wrap64 (x7_1 + 1))) = some (r1, r2) := by rw [if_neg (show ¬ (false = true) by decide)] at H; exact H
              clear H
              have H := H1
              clear H1
              have H' := Aside0.mk H
              clear H
              go_wp2_with (first | ((with_reducible refine gate_callee (f := 13) rfl ?_); refine goesL_ (some 20) rfl rfl Try.func13 (by kernel_rfl) rfl #[.int .u64 a0, .int .i64 x7_1] rfl (by (try simp only [List.map_toArray, List.map_cons, List.map_nil]); first | done | rfl | (simp only [List.length_drop, List.length_take]; rfl)) ?_; (with_reducible refine (quarryref03_Has.calls a0 x7_1 false _ A8.out).mono ?_); rintro e w' ⟨rfl, ⟨nd, rfl⟩⟩; refine ⟨_, rfl, ?_⟩))
              go_roundg k1
              case measure => have := HK1.out; omega
              case rel => exact ⟨(false), (IntKind.u64.wrap (x6_1 + (ji7))), (wrap64 (x7_1 + 1)), (by first | rfl | (simp; done) | (simp [*]; done)), (by first | rfl | (simp; done) | (simp only [← hji7] <;> (first | rfl | simp)) | (simp [*]; done)), (by first | rfl | (simp; done) | (simp [*]; done)), H', ⟨by have := HK1.out; omega⟩, by repeat (first | exact Drawn0.refl _ | apply Drawn0.step)⟩
          · rw [if_neg c6] at H
            exact absurd H (by simp)
        · replace c4 := Bool.eq_false_iff.mpr c4
          subst c4
          have H1 : ((quarryref03_Has.f a0 x7_1).bind fun t102 => (if t102 = true then (quarryref03_Escaped.l0 k1 a0 (!false) x6_1 (wrap64 (x7_1 + 1))) else (quarryref03_Escaped.l0 k1 a0 false x6_1 (wrap64 (x7_1 + 1))))) = some (r1, r2) := by rw [if_neg (show ¬ (false = true) by decide)] at H; exact H
          clear H
          have H := H1
          clear H1
          replace H := Option.bind_eq_some_iff.mp H
          obtain ⟨t102, A100, H⟩ := H
          replace H : (if t102 = true then (quarryref03_Escaped.l0 k1 a0 (!false) x6_1 (wrap64 (x7_1 + 1))) else (quarryref03_Escaped.l0 k1 a0 false x6_1 (wrap64 (x7_1 + 1)))) = some (r1, r2) := H
          have A10 := Aside0.mk A100
          clear A100
          by_cases c11 : t102 = true
          · subst c11
            have H1 : (quarryref03_Escaped.l0 k1 a0 (!false) x6_1 (wrap64 (x7_1 + 1))) = some (r1, r2) := by rw [if_pos rfl] at H; exact H
            clear H
            have H := H1
            clear H1
            have H' := Aside0.mk H
            clear H
            go_wp2_with (first | ((with_reducible refine gate_callee (f := 13) rfl ?_); refine goesL_ (some 20) rfl rfl Try.func13 (by kernel_rfl) rfl #[.int .u64 a0, .int .i64 x7_1] rfl (by (try simp only [List.map_toArray, List.map_cons, List.map_nil]); first | done | rfl | (simp only [List.length_drop, List.length_take]; rfl)) ?_; (with_reducible refine (quarryref03_Has.calls a0 x7_1 true _ A10.out).mono ?_); rintro e w' ⟨rfl, ⟨nd, rfl⟩⟩; refine ⟨_, rfl, ?_⟩))
            go_roundg k1
            case measure => have := HK1.out; omega
            case rel => exact ⟨(!false), (x6_1), (wrap64 (x7_1 + 1)), (by first | rfl | (simp; done) | (simp [*]; done)), (by first | rfl | (simp; done) | (simp [*]; done)), (by first | rfl | (simp; done) | (simp [*]; done)), H', ⟨by have := HK1.out; omega⟩, by repeat (first | exact Drawn0.refl _ | apply Drawn0.step)⟩
          · replace c11 := Bool.eq_false_iff.mpr c11
            subst c11
            have H1 : (quarryref03_Escaped.l0 k1 a0 false x6_1 (wrap64 (x7_1 + 1))) = some (r1, r2) := by rw [if_neg (show ¬ (false = true) by decide)] at H; exact H
            clear H
            have H := H1
            clear H1
            have H' := Aside0.mk H
            clear H
            go_wp2_with (first | ((with_reducible refine gate_callee (f := 13) rfl ?_); refine goesL_ (some 20) rfl rfl Try.func13 (by kernel_rfl) rfl #[.int .u64 a0, .int .i64 x7_1] rfl (by (try simp only [List.map_toArray, List.map_cons, List.map_nil]); first | done | rfl | (simp only [List.length_drop, List.length_take]; rfl)) ?_; (with_reducible refine (quarryref03_Has.calls a0 x7_1 false _ A10.out).mono ?_); rintro e w' ⟨rfl, ⟨nd, rfl⟩⟩; refine ⟨_, rfl, ?_⟩))
            go_roundg k1
            case measure => have := HK1.out; omega
            case rel => exact ⟨(false), (x6_1), (wrap64 (x7_1 + 1)), (by first | rfl | (simp; done) | (simp [*]; done)), (by first | rfl | (simp; done) | (simp [*]; done)), (by first | rfl | (simp; done) | (simp [*]; done)), H', ⟨by have := HK1.out; omega⟩, by repeat (first | exact Drawn0.refl _ | apply Drawn0.step)⟩
      · rw [if_neg c3] at H
        have c3b0 : decide (x7_1 < 64) = false := decide_eq_false c3
        clear c3
        simp only [Option.some.injEq, Prod.mk.injEq] at H
        obtain ⟨rfl, rfl⟩ := H
        go_wp2
        go_ret2
        exact ⟨by first | rfl | (simp; done) | (simp [*]; done), by repeat (first | exact Drawn0.refl _ | apply Drawn0.step)⟩

/-! ### quarrylaw03_WordsEscapes: function 3 -/
def quarrylaw03_WordsEscapes.f (k : Nat) (a0 : Int) (a1 : Bool) : Option (Bool) := (words_Escaped.f a0 a1).bind fun bt103 => ((quarryref03_Escaped.f k a0 a1).bind fun bt105 => ((words_Escaped.f 1 false).bind fun bt107 => (if bt103.1 = bt105.1 then (if (bt103.2 == bt105.2) = true then (some (bt107.1 == 2)) else (some false)) else (some false))))
theorem quarrylaw03_WordsEscapes.mono : ∀ a0 a1 k, LeO (quarrylaw03_WordsEscapes.f k a0 a1) (quarrylaw03_WordsEscapes.f (k + 1) a0 a1) := by
  intro a0 a1 k
  unfold quarrylaw03_WordsEscapes.f
  repeat' first
      | (with_reducible exact quarryref03_Escaped.mono _ _ _)
      | (with_reducible exact LeO.refl _)
      | (with_reducible exact LeO.none _)
      | (with_reducible refine LeO.ite ?_ ?_)
      | (with_reducible refine LeO.bind ?_ (fun _ => ?_))
      | exact quarryref03_Escaped.mono _ _ _
      | exact LeO.none _
      | refine LeO.ite ?_ ?_
      | refine LeO.bind ?_ (fun _ => ?_)
set_option maxHeartbeats 8000000 in
set_option maxRecDepth 100000 in
theorem quarrylaw03_WordsEscapes.calls (k : Nat) (a0 : Int) (a1 : Bool) (r : Bool) (w : World) (h : quarrylaw03_WordsEscapes.f k a0 a1 = some r) :
    Calls Try.prog 3 #[.int .u64 a0, .bool a1] w fun e w' => e = .returned (.bool r) ∧ Drawn0 w w' := by
  have H : ((words_Escaped.f a0 a1).bind fun bt103 => ((quarryref03_Escaped.f k a0 a1).bind fun bt105 => ((words_Escaped.f 1 false).bind fun bt107 => (if bt103.1 = bt105.1 then (if (bt103.2 == bt105.2) = true then (some (bt107.1 == 2)) else (some false)) else (some false))))) = some r := h
  clear h
  replace H := Option.bind_eq_some_iff.mp H
  obtain ⟨⟨t103, t104⟩, A30, H⟩ := H
  replace H : ((quarryref03_Escaped.f k a0 a1).bind fun bt105 => ((words_Escaped.f 1 false).bind fun bt107 => (if t103 = bt105.1 then (if (t104 == bt105.2) = true then (some (bt107.1 == 2)) else (some false)) else (some false)))) = some r := H
  have A3 := Aside0.mk A30
  clear A30
  replace H := Option.bind_eq_some_iff.mp H
  obtain ⟨⟨t105, t106⟩, A40, H⟩ := H
  replace H : ((words_Escaped.f 1 false).bind fun bt107 => (if t103 = t105 then (if (t104 == t106) = true then (some (bt107.1 == 2)) else (some false)) else (some false))) = some r := H
  have A4 := Aside0.mk A40
  clear A40
  replace H := Option.bind_eq_some_iff.mp H
  obtain ⟨⟨t107, t108⟩, A50, H⟩ := H
  replace H : (if t103 = t105 then (if (t104 == t106) = true then (some (t107 == 2)) else (some false)) else (some false)) = some r := H
  have A5 := Aside0.mk A50
  clear A50
  by_cases c6 : t103 = t105
  · rw [if_pos c6] at H
    have c6b0 : (t103 == t105) = true := beq_iff_eq.mpr c6
    have c6b1 : (t103 != t105) = false := bne_eq_false_iff_eq.mpr c6
    clear c6
    by_cases c7 : (t104 == t106) = true
    · rw [if_pos c7] at H
      have c7b0 : (t104 == t106) = true := c7
      (try (have c7b1 : decide (t104 = t106) = true := by simpa using c7))
      (try (have c7b2 : (t104 == t106) = true := by simpa using c7))
      clear c7
      obtain rfl := Option.some.inj H
      go_enter Try.func3, Try.ntmps3
      go_wp2_with (first | ((with_reducible refine gate_callee (f := 7) rfl ?_); refine goesL_ (some 14) rfl rfl Try.func7 (by kernel_rfl) rfl #[.int .u64 a0, .bool a1] rfl (by (try simp only [List.map_toArray, List.map_cons, List.map_nil]); first | done | rfl | (simp only [List.length_drop, List.length_take]; rfl)) ?_; (with_reducible refine (words_Escaped.calls a0 a1 t103 t104 _ A3.out).mono ?_); rintro e w' ⟨rfl, ⟨nd, rfl⟩⟩; refine ⟨_, rfl, ?_⟩) | ((with_reducible refine gate_callee (f := 8) rfl ?_); refine goesL_ (some 20) rfl rfl Try.func8 (by kernel_rfl) rfl #[.int .u64 a0, .bool a1] rfl (by (try simp only [List.map_toArray, List.map_cons, List.map_nil]); first | done | rfl | (simp only [List.length_drop, List.length_take]; rfl)) ?_; (with_reducible refine (quarryref03_Escaped.calls k a0 a1 t105 t106 _ A4.out).mono ?_); rintro e w' ⟨rfl, ⟨nd, rfl⟩⟩; refine ⟨_, rfl, ?_⟩) | ((with_reducible refine gate_callee (f := 7) rfl ?_); refine goesL_ (some 24) rfl rfl Try.func7 (by kernel_rfl) rfl #[.int .u64 1, .bool false] rfl (by (try simp only [List.map_toArray, List.map_cons, List.map_nil]); first | done | rfl | (simp only [List.length_drop, List.length_take]; rfl)) ?_; (with_reducible refine (words_Escaped.calls 1 false t107 t108 _ A5.out).mono ?_); rintro e w' ⟨rfl, ⟨nd, rfl⟩⟩; refine ⟨_, rfl, ?_⟩))
      go_ret
      exact ⟨by first | rfl | (simp; done) | (simp [*]; done), by repeat (first | exact Drawn0.refl _ | apply Drawn0.step)⟩
    · rw [if_neg c7] at H
      have c7b0 : (t104 == t106) = false := by simpa using c7
      (try (have c7b1 : decide (t104 = t106) = false := by simpa using c7))
      (try (have c7b2 : (t104 == t106) = false := by simpa using c7))
      (try (have c7b3 : ¬ (t104 = t106) := by simpa using c7))
      clear c7
      obtain rfl := Option.some.inj H
      go_enter Try.func3, Try.ntmps3
      go_wp2_with (first | ((with_reducible refine gate_callee (f := 7) rfl ?_); refine goesL_ (some 14) rfl rfl Try.func7 (by kernel_rfl) rfl #[.int .u64 a0, .bool a1] rfl (by (try simp only [List.map_toArray, List.map_cons, List.map_nil]); first | done | rfl | (simp only [List.length_drop, List.length_take]; rfl)) ?_; (with_reducible refine (words_Escaped.calls a0 a1 t103 t104 _ A3.out).mono ?_); rintro e w' ⟨rfl, ⟨nd, rfl⟩⟩; refine ⟨_, rfl, ?_⟩) | ((with_reducible refine gate_callee (f := 8) rfl ?_); refine goesL_ (some 20) rfl rfl Try.func8 (by kernel_rfl) rfl #[.int .u64 a0, .bool a1] rfl (by (try simp only [List.map_toArray, List.map_cons, List.map_nil]); first | done | rfl | (simp only [List.length_drop, List.length_take]; rfl)) ?_; (with_reducible refine (quarryref03_Escaped.calls k a0 a1 t105 t106 _ A4.out).mono ?_); rintro e w' ⟨rfl, ⟨nd, rfl⟩⟩; refine ⟨_, rfl, ?_⟩) | ((with_reducible refine gate_callee (f := 7) rfl ?_); refine goesL_ (some 24) rfl rfl Try.func7 (by kernel_rfl) rfl #[.int .u64 1, .bool false] rfl (by (try simp only [List.map_toArray, List.map_cons, List.map_nil]); first | done | rfl | (simp only [List.length_drop, List.length_take]; rfl)) ?_; (with_reducible refine (words_Escaped.calls 1 false t107 t108 _ A5.out).mono ?_); rintro e w' ⟨rfl, ⟨nd, rfl⟩⟩; refine ⟨_, rfl, ?_⟩))
      go_ret
      exact ⟨by first | rfl | (simp; done) | (simp [*]; done), by repeat (first | exact Drawn0.refl _ | apply Drawn0.step)⟩
  · rw [if_neg c6] at H
    have c6b0 : (t103 == t105) = false := beq_eq_false_iff_ne.mpr c6
    have c6b1 : (t103 != t105) = true := bne_iff_ne.mpr c6
    obtain rfl := Option.some.inj H
    go_enter Try.func3, Try.ntmps3
    go_wp2_with (first | ((with_reducible refine gate_callee (f := 7) rfl ?_); refine goesL_ (some 14) rfl rfl Try.func7 (by kernel_rfl) rfl #[.int .u64 a0, .bool a1] rfl (by (try simp only [List.map_toArray, List.map_cons, List.map_nil]); first | done | rfl | (simp only [List.length_drop, List.length_take]; rfl)) ?_; (with_reducible refine (words_Escaped.calls a0 a1 t103 t104 _ A3.out).mono ?_); rintro e w' ⟨rfl, ⟨nd, rfl⟩⟩; refine ⟨_, rfl, ?_⟩) | ((with_reducible refine gate_callee (f := 8) rfl ?_); refine goesL_ (some 20) rfl rfl Try.func8 (by kernel_rfl) rfl #[.int .u64 a0, .bool a1] rfl (by (try simp only [List.map_toArray, List.map_cons, List.map_nil]); first | done | rfl | (simp only [List.length_drop, List.length_take]; rfl)) ?_; (with_reducible refine (quarryref03_Escaped.calls k a0 a1 t105 t106 _ A4.out).mono ?_); rintro e w' ⟨rfl, ⟨nd, rfl⟩⟩; refine ⟨_, rfl, ?_⟩) | ((with_reducible refine gate_callee (f := 7) rfl ?_); refine goesL_ (some 24) rfl rfl Try.func7 (by kernel_rfl) rfl #[.int .u64 1, .bool false] rfl (by (try simp only [List.map_toArray, List.map_cons, List.map_nil]); first | done | rfl | (simp only [List.length_drop, List.length_take]; rfl)) ?_; (with_reducible refine (words_Escaped.calls 1 false t107 t108 _ A5.out).mono ?_); rintro e w' ⟨rfl, ⟨nd, rfl⟩⟩; refine ⟨_, rfl, ?_⟩))
    go_ret
    exact ⟨by first | rfl | (simp; done) | (simp [*]; done), by repeat (first | exact Drawn0.refl _ | apply Drawn0.step)⟩

/-- THE ONE PURE STATEMENT of quarrylaw03_WordsEscapes: yours. -/
def quarrylaw03_WordsEscapes.Pure : Prop := ∀ (a0 : Int) (a1 : Bool), (Lit.int .u64 a0).wf = true → ∃ k, quarrylaw03_WordsEscapes.f k a0 a1 = some true
theorem quarrylaw03_WordsEscapes.walk (P : quarrylaw03_WordsEscapes.Pure) (a0 : Int) (a1 : Bool) (w : World) (w0 : (Lit.int .u64 a0).wf = true) :
    Calls Try.prog 3 #[.int .u64 a0, .bool a1] w fun e w' => e = .returned (.bool true) ∧ Below w.heap.size w w' := by
  obtain ⟨k, h⟩ := P a0 a1 w0
  refine (quarrylaw03_WordsEscapes.calls k a0 a1 true w h).mono ?_
  rintro e w' ⟨rfl, hd⟩
  exact ⟨rfl, hd.below⟩

end Go.Proofs.Ytjjnmpidlkjeiaa.PWordsEscapes
