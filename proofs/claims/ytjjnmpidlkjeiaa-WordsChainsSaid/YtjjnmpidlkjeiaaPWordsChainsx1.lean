-- PRINTED BY print.sh 35421559b90ae4d0a3588c463048766b98c2df88dd9212a6774a882060cdf62d: not written by this session
import Derived.Test.YtjjnmpidlkjeiaaPWordsChainsx0
namespace Go.Proofs.Ytjjnmpidlkjeiaa.PWordsChains
open Go.RowKit Go.Proofs.YtjjnmpidlkjeiaaW.PrintWords Go.Proofs.YtjjnmpidlkjeiaaW.PrintLast Go.Proofs.YtjjnmpidlkjeiaaW.PrintMore
attribute [local go_sem] max2_int min2_int max_two min_two max_three min_three max_four min_four   -- for this text's walks alone
set_option linter.unusedVariables false
set_option linter.unusedSimpArgs false

/-! ### words_Escaped: function 7 -/
def words_Escaped.f (a0 : Int) (a1 : Bool) : Option (Int × Bool) := if a1 = true then (some (Go.bits .xor .u64 (Go.bits .xor .u64 (IntKind.u64.wrap ((Go.bits .or .u64 (IntKind.u64.wrap ((Go.bits .andNot .u64 a0 1) * 2)) 12297829382473034410) - (Go.bits .andNot .u64 a0 1))) 12297829382473034410) (Go.bits .or .u64 a0 1), (((Go.bits .and .u64 (Go.bits .xor .u64 (IntKind.u64.wrap ((Go.bits .or .u64 (IntKind.u64.wrap ((Go.bits .andNot .u64 a0 1) * 2)) 12297829382473034410) - (Go.bits .andNot .u64 a0 1))) 12297829382473034410) a0) / 9223372036854775808) != 0))) else (some (Go.bits .xor .u64 (Go.bits .xor .u64 (IntKind.u64.wrap ((Go.bits .or .u64 (IntKind.u64.wrap ((Go.bits .andNot .u64 a0 0) * 2)) 12297829382473034410) - (Go.bits .andNot .u64 a0 0))) 12297829382473034410) (Go.bits .or .u64 a0 0), (((Go.bits .and .u64 (Go.bits .xor .u64 (IntKind.u64.wrap ((Go.bits .or .u64 (IntKind.u64.wrap ((Go.bits .andNot .u64 a0 0) * 2)) 12297829382473034410) - (Go.bits .andNot .u64 a0 0))) 12297829382473034410) a0) / 9223372036854775808) != 0)))
set_option maxHeartbeats 8000000 in
set_option maxRecDepth 100000 in
theorem words_Escaped.calls (a0 : Int) (a1 : Bool) (r1 : Int) (r2 : Bool) (w : World) (h : words_Escaped.f a0 a1 = some (r1, r2)) :
    Calls Try.prog 7 #[.int .u64 a0, .bool a1] w fun e w' => e = .returned (.tuple #[.int .u64 r1, .bool r2]) ∧ Drawn0 w w' := by
  have H : (if a1 = true then (some (Go.bits .xor .u64 (Go.bits .xor .u64 (IntKind.u64.wrap ((Go.bits .or .u64 (IntKind.u64.wrap ((Go.bits .andNot .u64 a0 1) * 2)) 12297829382473034410) - (Go.bits .andNot .u64 a0 1))) 12297829382473034410) (Go.bits .or .u64 a0 1), (((Go.bits .and .u64 (Go.bits .xor .u64 (IntKind.u64.wrap ((Go.bits .or .u64 (IntKind.u64.wrap ((Go.bits .andNot .u64 a0 1) * 2)) 12297829382473034410) - (Go.bits .andNot .u64 a0 1))) 12297829382473034410) a0) / 9223372036854775808) != 0))) else (some (Go.bits .xor .u64 (Go.bits .xor .u64 (IntKind.u64.wrap ((Go.bits .or .u64 (IntKind.u64.wrap ((Go.bits .andNot .u64 a0 0) * 2)) 12297829382473034410) - (Go.bits .andNot .u64 a0 0))) 12297829382473034410) (Go.bits .or .u64 a0 0), (((Go.bits .and .u64 (Go.bits .xor .u64 (IntKind.u64.wrap ((Go.bits .or .u64 (IntKind.u64.wrap ((Go.bits .andNot .u64 a0 0) * 2)) 12297829382473034410) - (Go.bits .andNot .u64 a0 0))) 12297829382473034410) a0) / 9223372036854775808) != 0)))) = some (r1, r2) := h
  clear h
  by_cases c3 : a1 = true
  · subst c3
    have H1 : (some (Go.bits .xor .u64 (Go.bits .xor .u64 (IntKind.u64.wrap ((Go.bits .or .u64 (IntKind.u64.wrap ((Go.bits .andNot .u64 a0 1) * 2)) 12297829382473034410) - (Go.bits .andNot .u64 a0 1))) 12297829382473034410) (Go.bits .or .u64 a0 1), (((Go.bits .and .u64 (Go.bits .xor .u64 (IntKind.u64.wrap ((Go.bits .or .u64 (IntKind.u64.wrap ((Go.bits .andNot .u64 a0 1) * 2)) 12297829382473034410) - (Go.bits .andNot .u64 a0 1))) 12297829382473034410) a0) / 9223372036854775808) != 0))) = some (r1, r2) := by rw [if_pos rfl] at H; exact H
    clear H
    have H := H1
    clear H1
    simp only [Option.some.injEq, Prod.mk.injEq] at H
    obtain ⟨rfl, rfl⟩ := H
    go_enter Try.func7, Try.ntmps7
    go_wp2
    go_ret2
    exact ⟨by first | rfl | (simp; done) | (simp [*]; done), by repeat (first | exact Drawn0.refl _ | apply Drawn0.step)⟩
  · replace c3 := Bool.eq_false_iff.mpr c3
    subst c3
    have H1 : (some (Go.bits .xor .u64 (Go.bits .xor .u64 (IntKind.u64.wrap ((Go.bits .or .u64 (IntKind.u64.wrap ((Go.bits .andNot .u64 a0 0) * 2)) 12297829382473034410) - (Go.bits .andNot .u64 a0 0))) 12297829382473034410) (Go.bits .or .u64 a0 0), (((Go.bits .and .u64 (Go.bits .xor .u64 (IntKind.u64.wrap ((Go.bits .or .u64 (IntKind.u64.wrap ((Go.bits .andNot .u64 a0 0) * 2)) 12297829382473034410) - (Go.bits .andNot .u64 a0 0))) 12297829382473034410) a0) / 9223372036854775808) != 0))) = some (r1, r2) := by rw [if_neg (show ¬ (false = true) by decide)] at H; exact H
    clear H
    have H := H1
    clear H1
    simp only [Option.some.injEq, Prod.mk.injEq] at H
    obtain ⟨rfl, rfl⟩ := H
    go_enter Try.func7, Try.ntmps7
    go_wp2
    go_ret2
    exact ⟨by first | rfl | (simp; done) | (simp [*]; done), by repeat (first | exact Drawn0.refl _ | apply Drawn0.step)⟩

/-! ### quarrylaw03_WordsChains: function 4 -/
mutual
def quarrylaw03_WordsChains.l0 : Nat → List Int → Bool → Bool → Int → Option (Bool)
  | 0, _, _, _, _ => none
  | k + 1, x0, x1, x5, x6 => if x6 < (x0.length : Int) then (if 0 ≤ x6 then ((words_Escaped.f (rd x0 x6) x1).bind fun bt104 => (quarrylaw03_WordsChains.l1 k x0 bt104.2 x5 x6 bt104.1 bt104.2 0)) else (none)) else ((words_Escaped.f 7 false).bind fun bt101 => (some (bt101.1 == 10)))
def quarrylaw03_WordsChains.l1 : Nat → List Int → Bool → Bool → Int → Int → Bool → Int → Option (Bool)
  | 0, _, _, _, _, _, _, _ => none
  | k + 1, x0, x1, x5, x6, x7, x8, x9 => if x9 < 64 then (if 0 ≤ (IntKind.u64.wrap (x9)) then (if (((Go.bits .and .u64 (shr .u64 x7 (IntKind.u64.wrap (x9))) 1) == 1) != x5) = true then (some false) else (if 0 ≤ x6 then (if x6 < (x0.length : Int) then (if (Go.bits .and .u64 (shr .u64 (rd x0 x6) (IntKind.u64.wrap (x9))) 1) = 1 then (quarrylaw03_WordsChains.l1 k x0 x1 (!x5) x6 x7 x8 (wrap64 (x9 + 1))) else (quarrylaw03_WordsChains.l1 k x0 x1 false x6 x7 x8 (wrap64 (x9 + 1)))) else (none)) else (none))) else (none)) else (if (x8 != x5) = true then (some false) else (quarrylaw03_WordsChains.l0 k x0 x1 x5 (wrap64 (x6 + 1))))
end
def quarrylaw03_WordsChains.f (k : Nat) (l0 : List Int) (a1 : Bool) : Option (Bool) := quarrylaw03_WordsChains.l0 k l0 a1 a1 0
theorem quarrylaw03_WordsChains.mono_l : ∀ k, (∀ y0 y1 y2 y3, LeO (quarrylaw03_WordsChains.l0 k y0 y1 y2 y3) (quarrylaw03_WordsChains.l0 (k + 1) y0 y1 y2 y3)) ∧ (∀ y0 y1 y2 y3 y4 y5 y6, LeO (quarrylaw03_WordsChains.l1 k y0 y1 y2 y3 y4 y5 y6) (quarrylaw03_WordsChains.l1 (k + 1) y0 y1 y2 y3 y4 y5 y6))
  | 0 => ⟨fun _ _ _ _ r h => by simp [quarrylaw03_WordsChains.l0] at h, fun _ _ _ _ _ _ _ r h => by simp [quarrylaw03_WordsChains.l1] at h⟩
  | k + 1 => by
    obtain ⟨ih0, ih1⟩ := quarrylaw03_WordsChains.mono_l k
    refine ⟨?_, ?_⟩
    · intro y0 y1 y2 y3
      unfold quarrylaw03_WordsChains.l0
      repeat' first
      | (with_reducible exact ih0 _ _ _ _)
      | (with_reducible exact ih1 _ _ _ _ _ _ _)
      | (with_reducible exact LeO.refl _)
      | (with_reducible exact LeO.none _)
      | (with_reducible refine LeO.ite ?_ ?_)
      | (with_reducible refine LeO.bind ?_ (fun _ => ?_))
      | exact ih0 _ _ _ _
      | exact ih1 _ _ _ _ _ _ _
      | exact LeO.none _
      | refine LeO.ite ?_ ?_
      | refine LeO.bind ?_ (fun _ => ?_)
    · intro y0 y1 y2 y3 y4 y5 y6
      unfold quarrylaw03_WordsChains.l1
      repeat' first
      | (with_reducible exact ih0 _ _ _ _)
      | (with_reducible exact ih1 _ _ _ _ _ _ _)
      | (with_reducible exact LeO.refl _)
      | (with_reducible exact LeO.none _)
      | (with_reducible refine LeO.ite ?_ ?_)
      | (with_reducible refine LeO.bind ?_ (fun _ => ?_))
      | exact ih0 _ _ _ _
      | exact ih1 _ _ _ _ _ _ _
      | exact LeO.none _
      | refine LeO.ite ?_ ?_
      | refine LeO.bind ?_ (fun _ => ?_)
theorem quarrylaw03_WordsChains.mono : ∀ a0 a1 k, LeO (quarrylaw03_WordsChains.f k a0 a1) (quarrylaw03_WordsChains.f (k + 1) a0 a1) := by
  intro a0 a1 k
  obtain ⟨ih0, ih1⟩ := quarrylaw03_WordsChains.mono_l k
  unfold quarrylaw03_WordsChains.f
  repeat' first
      | (with_reducible exact ih0 _ _ _ _)
      | (with_reducible exact ih1 _ _ _ _ _ _ _)
      | (with_reducible exact LeO.refl _)
      | (with_reducible exact LeO.none _)
      | (with_reducible refine LeO.ite ?_ ?_)
      | (with_reducible refine LeO.bind ?_ (fun _ => ?_))
      | exact ih0 _ _ _ _
      | exact ih1 _ _ _ _ _ _ _
      | exact LeO.none _
      | refine LeO.ite ?_ ?_
      | refine LeO.bind ?_ (fun _ => ?_)
set_option maxHeartbeats 8000000 in
set_option maxRecDepth 100000 in
theorem quarrylaw03_WordsChains.calls (k : Nat) (A0 : Option Addr) (c0 : Nat) (l0 : List Int) (a1 : Bool) (r : Bool) (w : World) (hr0 : Kd.C (Kd.int .u64) w A0 l0.length l0) (hc0 : l0.length ≤ c0) (h : quarrylaw03_WordsChains.f k l0 a1 = some r) :
    Calls Try.prog 4 #[.slice A0 l0.length c0, .bool a1] w fun e w' => e = .returned (.bool r) ∧ Drawn0 w w' := by
  have HR0 := Aside0.mk hr0
  have HC0 := Aside0.mk hc0
  clear hr0 hc0
  have H : (quarrylaw03_WordsChains.l0 k l0 a1 a1 0) = some r := h
  clear h
  have H' := Aside0.mk H
  clear H
  go_enter Try.func4, Try.ntmps4
  go_wp2
  go_loopg [1, 5, 6] k (fun kq v1 v5 v6 w' => ∃ (x1_1 : Bool) (x5_1 : Bool) (x6_1 : Int), v1 = .bool x1_1 ∧ v5 = .bool x5_1 ∧ v6 = .int .i64 x6_1 ∧ Aside0 (quarrylaw03_WordsChains.l0 kq l0 x1_1 x5_1 x6_1 = some r) ∧ Aside0 (kq ≤ k) ∧ Drawn0 w w')
  case atStart => exact ⟨(a1), (a1), (0), (by first | rfl | (simp; done) | (simp [*]; done)), (by first | rfl | (simp; done) | (simp [*]; done)), (by first | rfl | (simp; done) | (simp [*]; done)), H', ⟨Nat.le_refl _⟩, by repeat (first | exact Drawn0.refl _ | apply Drawn0.step)⟩
  case round =>
    clear H'
    try clear p2
    obtain ⟨x1_1, x5_1, x6_1, rfl, rfl, rfl, HA, HK1, ⟨m1, rfl⟩⟩ := hrel
    cases gk with
    | zero => exact absurd HA.out (by simp [quarrylaw03_WordsChains.l0])
    | succ k1 =>
      have H := HA.out
      clear HA
      simp only [quarrylaw03_WordsChains.l0] at H
      by_cases c3 : x6_1 < (l0.length : Int)
      · rw [if_pos c3] at H
        have c3b0 : decide (x6_1 < (l0.length : Int)) = true := decide_eq_true c3
        clear c3
        by_cases c4 : 0 ≤ x6_1
        · rw [if_pos c4] at H
          have c4b0 : decide (0 ≤ x6_1) = true := decide_eq_true c4
          clear c4
          replace H := Option.bind_eq_some_iff.mp H
          obtain ⟨⟨t104, t105⟩, A50, H⟩ := H
          replace H : (quarrylaw03_WordsChains.l1 k1 l0 t105 x5_1 x6_1 t104 t105 0) = some r := H
          have A5 := Aside0.mk A50
          clear A50
          have H' := Aside0.mk H
          clear H
          have p103 : 0 ≤ (x6_1 : Int) := of_decide_eq_true (by first | (with_reducible assumption) | assumption)
          have q103 : x6_1 < (l0.length : Int) := of_decide_eq_true (by first | (with_reducible assumption) | assumption)
          obtain ⟨ad103, e103, hx103_0⟩ := Kd.at_int HR0.out x6_1 p103 q103
          cases e103
          replace p103 := eq_true p103
          replace q103 := eq_true q103
          go_wp2_with (first | ((with_reducible refine gate_callee (f := 7) rfl ?_); refine goesL_ (some 25) rfl rfl Try.func7 (by kernel_rfl) rfl #[.int .u64 (rd l0 x6_1), .bool x1_1] rfl (by (try simp only [List.map_toArray, List.map_cons, List.map_nil]); first | done | rfl | (simp only [List.length_drop, List.length_take]; rfl)) ?_; (with_reducible refine (words_Escaped.calls (rd l0 x6_1) x1_1 t104 t105 _ A5.out).mono ?_); rintro e w' ⟨rfl, ⟨nd, rfl⟩⟩; refine ⟨_, rfl, ?_⟩))
          go_loopg [5, 9] k1 (fun kq v5 v9 w' => ∃ (x5_2 : Bool) (x9_2 : Int), v5 = .bool x5_2 ∧ v9 = .int .i64 x9_2 ∧ Aside0 (quarrylaw03_WordsChains.l1 kq l0 t105 x5_2 x6_1 t104 t105 x9_2 = some r) ∧ Aside0 (kq ≤ k1) ∧ Drawn0 w w')
          case atStart => exact ⟨(x5_1), (0), (by first | rfl | (simp; done) | (simp [*]; done)), (by first | rfl | (simp; done) | (simp [*]; done)), H', ⟨Nat.le_refl _⟩, by repeat (first | exact Drawn0.refl _ | apply Drawn0.step)⟩
          case round =>
            clear H'
            try clear p1
            try clear q1
            try clear hx1
            try clear p2
            try clear c3
            try clear c3b0
            try clear c4
            try clear c4b0
            try clear hx103_0
            try clear p103
            try clear p2
            try clear q103
            obtain ⟨x5_2, x9_2, rfl, rfl, HA, HK2, ⟨m2, rfl⟩⟩ := hrel
            cases gk with
            | zero => exact absurd HA.out (by simp [quarrylaw03_WordsChains.l1])
            | succ k2 =>
              have H := HA.out
              clear HA
              simp only [quarrylaw03_WordsChains.l1] at H
              by_cases c6 : x9_2 < 64
              · rw [if_pos c6] at H
                have c6b0 : decide (x9_2 < 64) = true := decide_eq_true c6
                clear c6
                obtain ⟨ji7, hji7⟩ : ∃ j_ : Int, (IntKind.u64.wrap (x9_2)) = j_ := ⟨_, rfl⟩
                replace H : (if 0 ≤ (ji7) then (if (((Go.bits .and .u64 (shr .u64 t104 (ji7)) 1) == 1) != x5_2) = true then (some false) else (if 0 ≤ x6_1 then (if x6_1 < (l0.length : Int) then (if (Go.bits .and .u64 (shr .u64 (rd l0 x6_1) (ji7)) 1) = 1 then (quarrylaw03_WordsChains.l1 k2 l0 t105 (!x5_2) x6_1 t104 t105 (wrap64 (x9_2 + 1))) else (quarrylaw03_WordsChains.l1 k2 l0 t105 false x6_1 t104 t105 (wrap64 (x9_2 + 1)))) else (none)) else (none))) else (none)) = some r := by first | (rw [hji7] at H; exact H) | (simp only [hji7] at H ⊢; exact H)
                by_cases c8 : 0 ≤ (ji7)
                · rw [if_pos c8] at H
                  have c8b0 := eq_true c8
                  have c8b1 : decide (0 ≤ (ji7)) = true := decide_eq_true c8
                  clear c8
                  obtain ⟨ji9, hji9⟩ : ∃ j_ : Int, (shr .u64 t104 (ji7)) = j_ := ⟨_, rfl⟩
                  replace H : (if (((Go.bits .and .u64 (ji9) 1) == 1) != x5_2) = true then (some false) else (if 0 ≤ x6_1 then (if x6_1 < (l0.length : Int) then (if (Go.bits .and .u64 (shr .u64 (rd l0 x6_1) (ji7)) 1) = 1 then (quarrylaw03_WordsChains.l1 k2 l0 t105 (!x5_2) x6_1 t104 t105 (wrap64 (x9_2 + 1))) else (quarrylaw03_WordsChains.l1 k2 l0 t105 false x6_1 t104 t105 (wrap64 (x9_2 + 1)))) else (none)) else (none))) = some r := by first | (rw [hji9] at H; exact H) | (simp only [hji9] at H ⊢; exact H)
                  have hji9_ : (t104 / 2 ^ min (ji7).toNat 64) = ji9 := hji9
                  have hji9z : (ji7) ≤ 64 → (t104 / 2 ^ (ji7).toNat) = ji9 := shr_small hji9
                  by_cases c10 : (((Go.bits .and .u64 (ji9) 1) == 1) != x5_2) = true
                  · rw [if_pos c10] at H
                    have c10b0 : (((Go.bits .and .u64 (ji9) 1) == 1) != x5_2) = true := c10
                    (try (have c10b1 : decide (((Go.bits .and .u64 (ji9) 1) == 1) = x5_2) = false := by simpa using c10))
                    (try (have c10b2 : (((Go.bits .and .u64 (ji9) 1) == 1) == x5_2) = false := by simpa using c10))
                    (try (have c10b3 : ¬ (((Go.bits .and .u64 (ji9) 1) == 1) = x5_2) := by simpa using c10))
                    clear c10
                    obtain rfl := Option.some.inj H
                    go_wp2
                    go_ret
                    exact ⟨by first | rfl | (simp; done) | (simp only [← hji7, ← hji9] <;> (first | rfl | simp)) | (simp [*]; done), by repeat (first | exact Drawn0.refl _ | apply Drawn0.step)⟩
                  · rw [if_neg c10] at H
                    have c10b0 : (((Go.bits .and .u64 (ji9) 1) == 1) != x5_2) = false := by simpa using c10
                    (try (have c10b1 : decide (((Go.bits .and .u64 (ji9) 1) == 1) = x5_2) = true := by simpa using c10))
                    (try (have c10b2 : (((Go.bits .and .u64 (ji9) 1) == 1) == x5_2) = true := by simpa using c10))
                    clear c10
                    by_cases c11 : 0 ≤ x6_1
                    · rw [if_pos c11] at H
                      have c11b0 : decide (0 ≤ x6_1) = true := decide_eq_true c11
                      clear c11
                      by_cases c12 : x6_1 < (l0.length : Int)
                      · rw [if_pos c12] at H
                        have c12b0 : decide (x6_1 < (l0.length : Int)) = true := decide_eq_true c12
                        clear c12
                        have c13b0 := eq_true (of_decide_eq_true (by first | (with_reducible assumption) | assumption) : 0 ≤ (ji7))
                        obtain ⟨ji14, hji14⟩ : ∃ j_ : Int, (shr .u64 (rd l0 x6_1) (ji7)) = j_ := ⟨_, rfl⟩
                        replace H : (if (Go.bits .and .u64 (ji14) 1) = 1 then (quarrylaw03_WordsChains.l1 k2 l0 t105 (!x5_2) x6_1 t104 t105 (wrap64 (x9_2 + 1))) else (quarrylaw03_WordsChains.l1 k2 l0 t105 false x6_1 t104 t105 (wrap64 (x9_2 + 1)))) = some r := by first | (rw [hji14] at H; exact H) | (simp only [hji14] at H ⊢; exact H)
                        have hji14_ : ((rd l0 x6_1) / 2 ^ min (ji7).toNat 64) = ji14 := hji14
                        have hji14z : (ji7) ≤ 64 → ((rd l0 x6_1) / 2 ^ (ji7).toNat) = ji14 := shr_small hji14
                        by_cases c15 : (Go.bits .and .u64 (ji14) 1) = 1
                        · rw [if_pos c15] at H
                          have c15b0 : ((Go.bits .and .u64 (ji14) 1) == 1) = true := beq_iff_eq.mpr c15
                          have c15b1 : ((Go.bits .and .u64 (ji14) 1) != 1) = false := bne_eq_false_iff_eq.mpr c15
                          clear c15
                          have H' := Aside0.mk H
                          clear H
                          have p106 : 0 ≤ (x6_1 : Int) := of_decide_eq_true (by first | (with_reducible assumption) | assumption)
                          have q106 : x6_1 < (l0.length : Int) := of_decide_eq_true (by first | (with_reducible assumption) | assumption)
                          obtain ⟨ad106, e106, hx106_0⟩ := Kd.at_int HR0.out x6_1 p106 q106
                          obtain rfl : ad103 = ad106 := (by injection e106)
                          replace p106 := eq_true p106
                          replace q106 := eq_true q106
                          go_wp2
                          go_roundg k2
                          case measure => have := HK1.out; have := HK2.out; omega
                          case rel => exact ⟨(!x5_2), (wrap64 (x9_2 + 1)), (by first | rfl | (simp; done) | (simp [*]; done)), (by first | rfl | (simp; done) | (simp [*]; done)), H', ⟨by have := HK1.out; have := HK2.out; omega⟩, by repeat (first | exact Drawn0.refl _ | apply Drawn0.step)⟩
                        · rw [if_neg c15] at H
                          have c15b0 : ((Go.bits .and .u64 (ji14) 1) == 1) = false := beq_eq_false_iff_ne.mpr c15
                          have c15b1 : ((Go.bits .and .u64 (ji14) 1) != 1) = true := bne_iff_ne.mpr c15
                          have H' := Aside0.mk H
                          clear H
                          have p106 : 0 ≤ (x6_1 : Int) := of_decide_eq_true (by first | (with_reducible assumption) | assumption)
                          have q106 : x6_1 < (l0.length : Int) := of_decide_eq_true (by first | (with_reducible assumption) | assumption)
                          obtain ⟨ad106, e106, hx106_0⟩ := Kd.at_int HR0.out x6_1 p106 q106
                          obtain rfl : ad103 = ad106 := (by injection e106)
                          replace p106 := eq_true p106
                          replace q106 := eq_true q106
                          go_wp2
                          go_roundg k2
                          case measure => have := HK1.out; have := HK2.out; omega
                          case rel => exact ⟨(false), (wrap64 (x9_2 + 1)), (by first | rfl | (simp; done) | (simp [*]; done)), (by first | rfl | (simp; done) | (simp [*]; done)), H', ⟨by have := HK1.out; have := HK2.out; omega⟩, by repeat (first | exact Drawn0.refl _ | apply Drawn0.step)⟩
                      · rw [if_neg c12] at H
                        exact absurd H (by simp)
                    · rw [if_neg c11] at H
                      exact absurd H (by simp)
                · rw [if_neg c8] at H
                  exact absurd H (by simp)
              · rw [if_neg c6] at H
                have c6b0 : decide (x9_2 < 64) = false := decide_eq_false c6
                clear c6
                by_cases c16 : (t105 != x5_2) = true
                · rw [if_pos c16] at H
                  have c16b0 : (t105 != x5_2) = true := c16
                  (try (have c16b1 : decide (t105 = x5_2) = false := by simpa using c16))
                  (try (have c16b2 : (t105 == x5_2) = false := by simpa using c16))
                  (try (have c16b3 : ¬ (t105 = x5_2) := by simpa using c16))
                  clear c16
                  obtain rfl := Option.some.inj H
                  go_wp2
                  go_ret
                  exact ⟨by first | rfl | (simp; done) | (simp [*]; done), by repeat (first | exact Drawn0.refl _ | apply Drawn0.step)⟩
                · rw [if_neg c16] at H
                  have c16b0 : (t105 != x5_2) = false := by simpa using c16
                  (try (have c16b1 : decide (t105 = x5_2) = true := by simpa using c16))
                  (try (have c16b2 : (t105 == x5_2) = true := by simpa using c16))
                  clear c16
                  have H' := Aside0.mk H
                  clear H
                  go_wp2
                  go_roundg k2
                  case measure => have := HK1.out; have := HK2.out; omega
                  case rel => exact ⟨(t105), (x5_2), (wrap64 (x6_1 + 1)), (by first | rfl | (simp; done) | (simp [*]; done)), (by first | rfl | (simp; done) | (simp [*]; done)), (by first | rfl | (simp; done) | (simp [*]; done)), H', ⟨by have := HK1.out; have := HK2.out; omega⟩, by repeat (first | exact Drawn0.refl _ | apply Drawn0.step)⟩
        · rw [if_neg c4] at H
          exact absurd H (by simp)
      · rw [if_neg c3] at H
        have c3b0 : decide (x6_1 < (l0.length : Int)) = false := decide_eq_false c3
        clear c3
        replace H := Option.bind_eq_some_iff.mp H
        obtain ⟨⟨t101, t102⟩, A170, H⟩ := H
        replace H : (some (t101 == 10)) = some r := H
        have A17 := Aside0.mk A170
        clear A170
        obtain rfl := Option.some.inj H
        go_wp2_with (first | ((with_reducible refine gate_callee (f := 7) rfl ?_); refine goesL_ (some 58) rfl rfl Try.func7 (by kernel_rfl) rfl #[.int .u64 7, .bool false] rfl (by (try simp only [List.map_toArray, List.map_cons, List.map_nil]); first | done | rfl | (simp only [List.length_drop, List.length_take]; rfl)) ?_; (with_reducible refine (words_Escaped.calls 7 false t101 t102 _ A17.out).mono ?_); rintro e w' ⟨rfl, ⟨nd, rfl⟩⟩; refine ⟨_, rfl, ?_⟩))
        go_ret
        exact ⟨by first | rfl | (simp; done) | (simp [*]; done), by repeat (first | exact Drawn0.refl _ | apply Drawn0.step)⟩

/-- THE ONE PURE STATEMENT of quarrylaw03_WordsChains: yours. -/
def quarrylaw03_WordsChains.Pure : Prop := ∀ (l0 : List Int) (a1 : Bool), l0.length ≤ maxLen → l0.length * 8 ≤ 140737488351232 → (∀ x ∈ l0, (Lit.int .u64 x).wf = true) → ∃ k, quarrylaw03_WordsChains.f k l0 a1 = some true
theorem quarrylaw03_WordsChains.walk (P : quarrylaw03_WordsChains.Pure) (a0 : Option Addr) (len0 cap0 : Nat) (z0 : List Int) (a1 : Bool) (w : World) (w0 : (a0 = none ∧ len0 = 0 ∧ cap0 = 0 ∧ z0 = []) ∨ ∃ x, a0 = some x ∧ len0 ≤ cap0 ∧ cap0 ≤ maxLen ∧ z0.length = cap0 ∧ (∀ i, i < z0.length → w.cell? (x.add i) = some (.int .u64 (z0.getD i 0))) ∧ ∀ n ∈ z0, (Lit.int .u64 n).wf = true) (y0 : len0 * 8 ≤ 140737488351232) :
    Calls Try.prog 4 #[.slice a0 len0 cap0, .bool a1] w fun e w' => e = .returned (.bool true) ∧ Below w.heap.size w w' := by
  obtain ⟨l0, rfl, hr0, hm0, hw0, hc0⟩ := ReadsInt.ofRowC w0
  obtain ⟨k, h⟩ := P l0 a1 hm0 y0 hw0
  refine (quarrylaw03_WordsChains.calls k _ _ l0 a1 true w (Kd.C_of_reads (d := (0 : Int)) (h1 := fun _ => rfl) hr0) hc0 h).mono ?_
  rintro e w' ⟨rfl, hd⟩
  exact ⟨rfl, hd.below⟩

end Go.Proofs.Ytjjnmpidlkjeiaa.PWordsChains
