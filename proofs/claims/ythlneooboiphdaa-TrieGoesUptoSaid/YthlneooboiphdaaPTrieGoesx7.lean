/- The machine side of a statement, laid by the kit's print program, run by wip/tools/gprint.py: some functions' contracts are given, proved by hand. -/
import Derived.Test.YthlneooboiphdaaPTrieGoesx0
import Derived.Test.YthlneooboiphdaaPTrieGoesx4
import Derived.Test.YthlneooboiphdaaPTrieGoesx6
namespace Go.Proofs.Ythlneooboiphdaa.PTrieGoes
open Go.RowKit Go.Proofs.YthlneooboiphdaaW.PrintWords Go.Proofs.YthlneooboiphdaaW.PrintLast Go.Proofs.YthlneooboiphdaaW.PrintMore
attribute [local go_sem] max2_int min2_int max_two min_two max_three min_three max_four min_four   -- for this text's walks alone
set_option linter.unusedVariables false
set_option linter.unusedSimpArgs false

/-! ### quarryref23_times: function 52 -/
mutual
def quarryref23_times.l0 : Nat → List (S50) → Int → Int → Int → Int → Option (Int × Int)
  | 0, _, _, _, _, _ => none
  | k + 1, x0, x1, x6, x7, x8 => if x8 < (x0.length : Int) then (quarryref23_times.l1 k x0 x1 x6 x7 x8 0) else (some (x6, x7))
def quarryref23_times.l1 : Nat → List (S50) → Int → Int → Int → Int → Int → Option (Int × Int)
  | 0, _, _, _, _, _, _ => none
  | k + 1, x0, x1, x6, x7, x8, x9 => if 0 ≤ x8 then (if x8 < (x0.length : Int) then (if x9 < (((rd_T50 x0 x8).f1).length : Int) then (if 0 ≤ x9 then (if (rd ((rd_T50 x0 x8).f1) x9) = x1 then (quarryref23_times.l1 k x0 x1 (wrap64 (x6 + 1)) x7 x8 (wrap64 (x9 + 1))) else (quarryref23_times.l1 k x0 x1 x6 x7 x8 (wrap64 (x9 + 1)))) else (none)) else (quarryref23_times.l2 k x0 x1 x6 x7 x8 0)) else (none)) else (none)
def quarryref23_times.l2 : Nat → List (S50) → Int → Int → Int → Int → Int → Option (Int × Int)
  | 0, _, _, _, _, _, _ => none
  | k + 1, x0, x1, x6, x7, x8, x10 => if 0 ≤ x8 then (if x8 < (x0.length : Int) then (if x10 < (((rd_T50 x0 x8).f2).length : Int) then (if 0 ≤ x10 then (if (rd ((rd_T50 x0 x8).f2) x10) = x1 then (quarryref23_times.l2 k x0 x1 x6 (wrap64 (x7 + 1)) x8 (wrap64 (x10 + 1))) else (quarryref23_times.l2 k x0 x1 x6 x7 x8 (wrap64 (x10 + 1)))) else (none)) else (quarryref23_times.l0 k x0 x1 x6 x7 (wrap64 (x8 + 1)))) else (none)) else (none)
end
def quarryref23_times.f (k : Nat) (l0 : List (S50)) (a1 : Int) : Option (Int × Int) := quarryref23_times.l0 k l0 a1 0 0 0
theorem quarryref23_times.mono_l : ∀ k, (∀ y0 y1 y2 y3 y4, LeO (quarryref23_times.l0 k y0 y1 y2 y3 y4) (quarryref23_times.l0 (k + 1) y0 y1 y2 y3 y4)) ∧ (∀ y0 y1 y2 y3 y4 y5, LeO (quarryref23_times.l1 k y0 y1 y2 y3 y4 y5) (quarryref23_times.l1 (k + 1) y0 y1 y2 y3 y4 y5)) ∧ (∀ y0 y1 y2 y3 y4 y5, LeO (quarryref23_times.l2 k y0 y1 y2 y3 y4 y5) (quarryref23_times.l2 (k + 1) y0 y1 y2 y3 y4 y5))
  | 0 => ⟨fun _ _ _ _ _ r h => by simp [quarryref23_times.l0] at h, fun _ _ _ _ _ _ r h => by simp [quarryref23_times.l1] at h, fun _ _ _ _ _ _ r h => by simp [quarryref23_times.l2] at h⟩
  | k + 1 => by
    obtain ⟨ih0, ih1, ih2⟩ := quarryref23_times.mono_l k; refine ⟨?_, ?_, ?_⟩
    · intro y0 y1 y2 y3 y4
      unfold quarryref23_times.l0
      repeat' first
      | (with_reducible exact ih0 _ _ _ _ _)
      | (with_reducible exact ih1 _ _ _ _ _ _)
      | (with_reducible exact ih2 _ _ _ _ _ _)
      | (with_reducible exact LeO.refl _)
      | (with_reducible exact LeO.none _)
      | (with_reducible refine LeO.ite ?_ ?_)
      | (with_reducible refine LeO.bind ?_ (fun _ => ?_))
      | exact ih0 _ _ _ _ _
      | exact ih1 _ _ _ _ _ _
      | exact ih2 _ _ _ _ _ _
      | exact LeO.none _
      | refine LeO.ite ?_ ?_
      | refine LeO.bind ?_ (fun _ => ?_)
    · intro y0 y1 y2 y3 y4 y5
      unfold quarryref23_times.l1
      repeat' first
      | (with_reducible exact ih0 _ _ _ _ _)
      | (with_reducible exact ih1 _ _ _ _ _ _)
      | (with_reducible exact ih2 _ _ _ _ _ _)
      | (with_reducible exact LeO.refl _)
      | (with_reducible exact LeO.none _)
      | (with_reducible refine LeO.ite ?_ ?_)
      | (with_reducible refine LeO.bind ?_ (fun _ => ?_))
      | exact ih0 _ _ _ _ _
      | exact ih1 _ _ _ _ _ _
      | exact ih2 _ _ _ _ _ _
      | exact LeO.none _
      | refine LeO.ite ?_ ?_
      | refine LeO.bind ?_ (fun _ => ?_)
    · intro y0 y1 y2 y3 y4 y5
      unfold quarryref23_times.l2
      repeat' first
      | (with_reducible exact ih0 _ _ _ _ _)
      | (with_reducible exact ih1 _ _ _ _ _ _)
      | (with_reducible exact ih2 _ _ _ _ _ _)
      | (with_reducible exact LeO.refl _)
      | (with_reducible exact LeO.none _)
      | (with_reducible refine LeO.ite ?_ ?_)
      | (with_reducible refine LeO.bind ?_ (fun _ => ?_))
      | exact ih0 _ _ _ _ _
      | exact ih1 _ _ _ _ _ _
      | exact ih2 _ _ _ _ _ _
      | exact LeO.none _
      | refine LeO.ite ?_ ?_
      | refine LeO.bind ?_ (fun _ => ?_)
theorem quarryref23_times.mono : ∀ a0 a1 k, LeO (quarryref23_times.f k a0 a1) (quarryref23_times.f (k + 1) a0 a1) := by
  intro a0 a1 k; obtain ⟨ih0, ih1, ih2⟩ := quarryref23_times.mono_l k
  unfold quarryref23_times.f
  repeat' first
      | (with_reducible exact ih0 _ _ _ _ _)
      | (with_reducible exact ih1 _ _ _ _ _ _)
      | (with_reducible exact ih2 _ _ _ _ _ _)
      | (with_reducible exact LeO.refl _)
      | (with_reducible exact LeO.none _)
      | (with_reducible refine LeO.ite ?_ ?_)
      | (with_reducible refine LeO.bind ?_ (fun _ => ?_))
      | exact ih0 _ _ _ _ _
      | exact ih1 _ _ _ _ _ _
      | exact ih2 _ _ _ _ _ _
      | exact LeO.none _
      | refine LeO.ite ?_ ?_
      | refine LeO.bind ?_ (fun _ => ?_)
set_option maxHeartbeats 8000000 in
set_option maxRecDepth 100000 in
theorem quarryref23_times.calls (k : Nat) (A0 : Option Addr) (c0 : Nat) (l0 : List (S50)) (a1 : Int) (r1 : Int) (r2 : Int) (w : World) (hr0 : Kd.C k50 w A0 l0.length l0) (hc0 : l0.length ≤ c0) (h : quarryref23_times.f k l0 a1 = some (r1, r2)) :
    Calls Try.prog 52 #[.slice A0 l0.length c0, .int .i64 a1] w fun e w' => e = .returned (.tuple #[.int .i64 r1, .int .i64 r2]) ∧ Drawn0 w w' := by
  have HR0 := Aside0.mk hr0; have HC0 := Aside0.mk hc0; clear hr0 hc0; have H : (quarryref23_times.l0 k l0 a1 0 0 0) = some (r1, r2) := h; clear h; have H' := Aside0.mk H; clear H
  go_enter Try.func52, Try.ntmps52
  go_wp2
  go_loopg [6, 7, 8] k (fun kq v6 v7 v8 w' => ∃ (x6_1 : Int) (x7_1 : Int) (x8_1 : Int), v6 = .int .i64 x6_1 ∧ v7 = .int .i64 x7_1 ∧ v8 = .int .i64 x8_1 ∧ Aside0 (quarryref23_times.l0 kq l0 a1 x6_1 x7_1 x8_1 = some (r1, r2)) ∧ Aside0 (kq ≤ k) ∧ Drawn0 w w')
  case atStart => exact ⟨(0), (0), (0), (by first | rfl | (simp; done) | (simp [*]; done)), (by first | rfl | (simp; done) | (simp [*]; done)), (by first | rfl | (simp; done) | (simp [*]; done)), H', ⟨Nat.le_refl _⟩, by repeat (first | exact Drawn0.refl _ | apply Drawn0.step)⟩
  case round =>
    clear H'; (try clear p2); obtain ⟨x6_1, x7_1, x8_1, rfl, rfl, rfl, HA, HK1, ⟨m1, rfl⟩⟩ := hrel
    cases gk with
    | zero => exact absurd HA.out (by simp [quarryref23_times.l0])
    | succ k1 =>
      have H := HA.out; clear HA; simp only [quarryref23_times.l0] at H
      by_cases c3 : x8_1 < (l0.length : Int)
      · rw [if_pos c3] at H; have c3b0 : decide (x8_1 < (l0.length : Int)) = true := decide_eq_true c3; clear c3; have H' := Aside0.mk H; clear H
        go_wp2
        go_loopg [6, 9] k1 (fun kq v6 v9 w' => ∃ (x6_2 : Int) (x9_2 : Int), v6 = .int .i64 x6_2 ∧ v9 = .int .i64 x9_2 ∧ Aside0 (quarryref23_times.l1 kq l0 a1 x6_2 x7_1 x8_1 x9_2 = some (r1, r2)) ∧ Aside0 (kq ≤ k1) ∧ Drawn0 w w')
        case atStart => exact ⟨(x6_1), (0), (by first | rfl | (simp; done) | (simp [*]; done)), (by first | rfl | (simp; done) | (simp [*]; done)), H', ⟨Nat.le_refl _⟩, by repeat (first | exact Drawn0.refl _ | apply Drawn0.step)⟩
        case round =>
          clear H'; (try clear p2); (try clear c3); (try clear c3b0); (try clear p2); obtain ⟨x6_2, x9_2, rfl, rfl, HA, HK2, ⟨m2, rfl⟩⟩ := hrel
          cases gk with
          | zero => exact absurd HA.out (by simp [quarryref23_times.l1])
          | succ k2 =>
            have H := HA.out; clear HA; simp only [quarryref23_times.l1] at H
            by_cases c4 : 0 ≤ x8_1
            · rw [if_pos c4] at H; have c4b0 : decide (0 ≤ x8_1) = true := decide_eq_true c4; clear c4
              by_cases c5 : x8_1 < (l0.length : Int)
              · rw [if_pos c5] at H; have c5b0 : decide (x8_1 < (l0.length : Int)) = true := decide_eq_true c5; clear c5
                by_cases c6 : x9_2 < (((rd_T50 l0 x8_1).f1).length : Int)
                · rw [if_pos c6] at H; have c6b0 : decide (x9_2 < (((rd_T50 l0 x8_1).f1).length : Int)) = true := decide_eq_true c6; clear c6
                  by_cases c7 : 0 ≤ x9_2
                  · rw [if_pos c7] at H; have c7b0 : decide (0 ≤ x9_2) = true := decide_eq_true c7; clear c7
                    by_cases c8 : (rd ((rd_T50 l0 x8_1).f1) x9_2) = a1
                    · rw [if_pos c8] at H; have c8b0 : ((rd ((rd_T50 l0 x8_1).f1) x9_2) == a1) = true := beq_iff_eq.mpr c8; have c8b1 : ((rd ((rd_T50 l0 x8_1).f1) x9_2) != a1) = false := bne_eq_false_iff_eq.mpr c8; clear c8; have H' := Aside0.mk H; clear H; have p200 : 0 ≤ (x8_1 : Int) := of_decide_eq_true (by first | (with_reducible assumption) | assumption); have q200 : x8_1 < (l0.length : Int) := of_decide_eq_true (by first | (with_reducible assumption) | assumption); obtain ⟨ad200, A200_0, c200_0, A200_1, c200_1, A200_2, c200_2, e200, hx200_0, hx200_1, hx200_2, hl200_0, hi200_0, hl200_1, hi200_1, hl200_2, hi200_2⟩ := at_T50 HR0.out x8_1 p200 q200; cases e200; have HR200_0 := Aside0.mk hi200_0; have HC200_0 := Aside0.mk hl200_0; clear hi200_0 hl200_0; have HR200_1 := Aside0.mk hi200_1; have HC200_1 := Aside0.mk hl200_1; clear hi200_1 hl200_1; have HR200_2 := Aside0.mk hi200_2; have HC200_2 := Aside0.mk hl200_2; clear hi200_2 hl200_2; replace p200 := eq_true p200; replace q200 := eq_true q200; have p201 : 0 ≤ (x8_1 : Int) := of_decide_eq_true (by first | (with_reducible assumption) | assumption); have q201 : x8_1 < (l0.length : Int) := of_decide_eq_true (by first | (with_reducible assumption) | assumption); obtain ⟨ad201, A201_0, c201_0, A201_1, c201_1, A201_2, c201_2, e201, hx201_0, hx201_1, hx201_2, hl201_0, hi201_0, hl201_1, hi201_1, hl201_2, hi201_2⟩ := at_T50 HR0.out x8_1 p201 q201; obtain rfl : ad200 = ad201 := (by injection e201); have HR201_0 := Aside0.mk hi201_0; have HC201_0 := Aside0.mk hl201_0; clear hi201_0 hl201_0; have HR201_1 := Aside0.mk hi201_1; have HC201_1 := Aside0.mk hl201_1; clear hi201_1 hl201_1; have HR201_2 := Aside0.mk hi201_2; have HC201_2 := Aside0.mk hl201_2; clear hi201_2 hl201_2; replace p201 := eq_true p201; replace q201 := eq_true q201; have ea_ := Option.some.inj (hx200_0.symm.trans hx201_0)
                      injection ea_ with ea_ en_ ec_
                      subst ea_; subst ec_; clear en_; have ea_ := Option.some.inj (hx200_1.symm.trans hx201_1)
                      injection ea_ with ea_ en_ ec_
                      subst ea_; subst ec_; clear en_; have ea_ := Option.some.inj (hx200_2.symm.trans hx201_2)
                      injection ea_ with ea_ en_ ec_
                      subst ea_; subst ec_; clear en_; have p202 : 0 ≤ (x9_2 : Int) := of_decide_eq_true (by first | (with_reducible assumption) | assumption); have q202 : x9_2 < (((rd_T50 l0 x8_1).f1).length : Int) := of_decide_eq_true (by first | (with_reducible assumption) | assumption); obtain ⟨ad202, e202, hx202_0⟩ := Kd.at_int HR201_1.out x9_2 p202 q202; cases e202; replace p202 := eq_true p202; replace q202 := eq_true q202
                      go_wp2
                      go_roundg k2
                      case measure => have := HK1.out; have := HK2.out; omega
                      case rel => exact ⟨(wrap64 (x6_2 + 1)), (wrap64 (x9_2 + 1)), (by first | rfl | (simp; done) | (simp [*]; done)), (by first | rfl | (simp; done) | (simp [*]; done)), H', ⟨by have := HK1.out; have := HK2.out; omega⟩, by repeat (first | exact Drawn0.refl _ | apply Drawn0.step)⟩
                    · rw [if_neg c8] at H; have c8b0 : ((rd ((rd_T50 l0 x8_1).f1) x9_2) == a1) = false := beq_eq_false_iff_ne.mpr c8; have c8b1 : ((rd ((rd_T50 l0 x8_1).f1) x9_2) != a1) = true := bne_iff_ne.mpr c8; have H' := Aside0.mk H; clear H; have p200 : 0 ≤ (x8_1 : Int) := of_decide_eq_true (by first | (with_reducible assumption) | assumption); have q200 : x8_1 < (l0.length : Int) := of_decide_eq_true (by first | (with_reducible assumption) | assumption); obtain ⟨ad200, A200_0, c200_0, A200_1, c200_1, A200_2, c200_2, e200, hx200_0, hx200_1, hx200_2, hl200_0, hi200_0, hl200_1, hi200_1, hl200_2, hi200_2⟩ := at_T50 HR0.out x8_1 p200 q200; cases e200; have HR200_0 := Aside0.mk hi200_0; have HC200_0 := Aside0.mk hl200_0; clear hi200_0 hl200_0; have HR200_1 := Aside0.mk hi200_1; have HC200_1 := Aside0.mk hl200_1; clear hi200_1 hl200_1; have HR200_2 := Aside0.mk hi200_2; have HC200_2 := Aside0.mk hl200_2; clear hi200_2 hl200_2; replace p200 := eq_true p200; replace q200 := eq_true q200; have p201 : 0 ≤ (x8_1 : Int) := of_decide_eq_true (by first | (with_reducible assumption) | assumption); have q201 : x8_1 < (l0.length : Int) := of_decide_eq_true (by first | (with_reducible assumption) | assumption); obtain ⟨ad201, A201_0, c201_0, A201_1, c201_1, A201_2, c201_2, e201, hx201_0, hx201_1, hx201_2, hl201_0, hi201_0, hl201_1, hi201_1, hl201_2, hi201_2⟩ := at_T50 HR0.out x8_1 p201 q201; obtain rfl : ad200 = ad201 := (by injection e201); have HR201_0 := Aside0.mk hi201_0; have HC201_0 := Aside0.mk hl201_0; clear hi201_0 hl201_0; have HR201_1 := Aside0.mk hi201_1; have HC201_1 := Aside0.mk hl201_1; clear hi201_1 hl201_1; have HR201_2 := Aside0.mk hi201_2; have HC201_2 := Aside0.mk hl201_2; clear hi201_2 hl201_2; replace p201 := eq_true p201; replace q201 := eq_true q201; have ea_ := Option.some.inj (hx200_0.symm.trans hx201_0)
                      injection ea_ with ea_ en_ ec_
                      subst ea_; subst ec_; clear en_; have ea_ := Option.some.inj (hx200_1.symm.trans hx201_1)
                      injection ea_ with ea_ en_ ec_
                      subst ea_; subst ec_; clear en_; have ea_ := Option.some.inj (hx200_2.symm.trans hx201_2)
                      injection ea_ with ea_ en_ ec_
                      subst ea_; subst ec_; clear en_; have p202 : 0 ≤ (x9_2 : Int) := of_decide_eq_true (by first | (with_reducible assumption) | assumption); have q202 : x9_2 < (((rd_T50 l0 x8_1).f1).length : Int) := of_decide_eq_true (by first | (with_reducible assumption) | assumption); obtain ⟨ad202, e202, hx202_0⟩ := Kd.at_int HR201_1.out x9_2 p202 q202; cases e202; replace p202 := eq_true p202; replace q202 := eq_true q202
                      go_wp2
                      go_roundg k2
                      case measure => have := HK1.out; have := HK2.out; omega
                      case rel => exact ⟨(x6_2), (wrap64 (x9_2 + 1)), (by first | rfl | (simp; done) | (simp [*]; done)), (by first | rfl | (simp; done) | (simp [*]; done)), H', ⟨by have := HK1.out; have := HK2.out; omega⟩, by repeat (first | exact Drawn0.refl _ | apply Drawn0.step)⟩
                  · rw [if_neg c7] at H; exact absurd H (by simp)
                · rw [if_neg c6] at H; have c6b0 : decide (x9_2 < (((rd_T50 l0 x8_1).f1).length : Int)) = false := decide_eq_false c6; clear c6; have H' := Aside0.mk H; clear H; have p200 : 0 ≤ (x8_1 : Int) := of_decide_eq_true (by first | (with_reducible assumption) | assumption); have q200 : x8_1 < (l0.length : Int) := of_decide_eq_true (by first | (with_reducible assumption) | assumption); obtain ⟨ad200, A200_0, c200_0, A200_1, c200_1, A200_2, c200_2, e200, hx200_0, hx200_1, hx200_2, hl200_0, hi200_0, hl200_1, hi200_1, hl200_2, hi200_2⟩ := at_T50 HR0.out x8_1 p200 q200; cases e200; have HR200_0 := Aside0.mk hi200_0; have HC200_0 := Aside0.mk hl200_0; clear hi200_0 hl200_0; have HR200_1 := Aside0.mk hi200_1; have HC200_1 := Aside0.mk hl200_1; clear hi200_1 hl200_1; have HR200_2 := Aside0.mk hi200_2; have HC200_2 := Aside0.mk hl200_2; clear hi200_2 hl200_2; replace p200 := eq_true p200; replace q200 := eq_true q200
                  go_wp2
                  go_loopg [7, 10] k2 (fun kq v7 v10 w' => ∃ (x7_3 : Int) (x10_3 : Int), v7 = .int .i64 x7_3 ∧ v10 = .int .i64 x10_3 ∧ Aside0 (quarryref23_times.l2 kq l0 a1 x6_2 x7_3 x8_1 x10_3 = some (r1, r2)) ∧ Aside0 (kq ≤ k2) ∧ Drawn0 w w')
                  case atStart => exact ⟨(x7_1), (0), (by first | rfl | (simp; done) | (simp [*]; done)), (by first | rfl | (simp; done) | (simp [*]; done)), H', ⟨Nat.le_refl _⟩, by repeat (first | exact Drawn0.refl _ | apply Drawn0.step)⟩
                  case round =>
                    clear H'; (try clear c2); (try clear p2); (try clear q2); (try clear hx2); (try clear c3); (try clear c3b0); (try clear c4); (try clear c4b0); (try clear c5); (try clear c5b0); (try clear c6); (try clear c6b0); (try clear p6); (try clear c7); (try clear c7b0); (try clear c8); (try clear c8b0); (try clear c8b1); (try clear hx200_0); (try clear hx200_1); (try clear hx200_2); (try clear hx201_0); (try clear hx201_1); (try clear hx201_2); (try clear hx202_0); (try clear p2); (try clear p200); (try clear p201); (try clear p202); (try clear q200); (try clear q201); (try clear q202); obtain ⟨x7_3, x10_3, rfl, rfl, HA, HK3, ⟨m3, rfl⟩⟩ := hrel
                    cases gk with
                    | zero => exact absurd HA.out (by simp [quarryref23_times.l2])
                    | succ k3 =>
                      have H := HA.out; clear HA; simp only [quarryref23_times.l2] at H
                      by_cases c9 : 0 ≤ x8_1
                      · rw [if_pos c9] at H; have c9b0 : decide (0 ≤ x8_1) = true := decide_eq_true c9; clear c9
                        by_cases c10 : x8_1 < (l0.length : Int)
                        · rw [if_pos c10] at H; have c10b0 : decide (x8_1 < (l0.length : Int)) = true := decide_eq_true c10; clear c10
                          by_cases c11 : x10_3 < (((rd_T50 l0 x8_1).f2).length : Int)
                          · rw [if_pos c11] at H; have c11b0 : decide (x10_3 < (((rd_T50 l0 x8_1).f2).length : Int)) = true := decide_eq_true c11; clear c11
                            by_cases c12 : 0 ≤ x10_3
                            · rw [if_pos c12] at H; have c12b0 : decide (0 ≤ x10_3) = true := decide_eq_true c12; clear c12
                              by_cases c13 : (rd ((rd_T50 l0 x8_1).f2) x10_3) = a1
                              · rw [if_pos c13] at H; have c13b0 : ((rd ((rd_T50 l0 x8_1).f2) x10_3) == a1) = true := beq_iff_eq.mpr c13; have c13b1 : ((rd ((rd_T50 l0 x8_1).f2) x10_3) != a1) = false := bne_eq_false_iff_eq.mpr c13; clear c13; have H' := Aside0.mk H; clear H; have p203 : 0 ≤ (x8_1 : Int) := of_decide_eq_true (by first | (with_reducible assumption) | assumption); have q203 : x8_1 < (l0.length : Int) := of_decide_eq_true (by first | (with_reducible assumption) | assumption); obtain ⟨ad203, A203_0, c203_0, A203_1, c203_1, A203_2, c203_2, e203, hx203_0, hx203_1, hx203_2, hl203_0, hi203_0, hl203_1, hi203_1, hl203_2, hi203_2⟩ := at_T50 HR0.out x8_1 p203 q203; obtain rfl : ad200 = ad203 := (by injection e203); have HR203_0 := Aside0.mk hi203_0; have HC203_0 := Aside0.mk hl203_0; clear hi203_0 hl203_0; have HR203_1 := Aside0.mk hi203_1; have HC203_1 := Aside0.mk hl203_1; clear hi203_1 hl203_1; have HR203_2 := Aside0.mk hi203_2; have HC203_2 := Aside0.mk hl203_2; clear hi203_2 hl203_2; replace p203 := eq_true p203; replace q203 := eq_true q203; have p204 : 0 ≤ (x8_1 : Int) := of_decide_eq_true (by first | (with_reducible assumption) | assumption); have q204 : x8_1 < (l0.length : Int) := of_decide_eq_true (by first | (with_reducible assumption) | assumption); obtain ⟨ad204, A204_0, c204_0, A204_1, c204_1, A204_2, c204_2, e204, hx204_0, hx204_1, hx204_2, hl204_0, hi204_0, hl204_1, hi204_1, hl204_2, hi204_2⟩ := at_T50 HR0.out x8_1 p204 q204; obtain rfl : ad200 = ad204 := (by injection e204); have HR204_0 := Aside0.mk hi204_0; have HC204_0 := Aside0.mk hl204_0; clear hi204_0 hl204_0; have HR204_1 := Aside0.mk hi204_1; have HC204_1 := Aside0.mk hl204_1; clear hi204_1 hl204_1; have HR204_2 := Aside0.mk hi204_2; have HC204_2 := Aside0.mk hl204_2; clear hi204_2 hl204_2; replace p204 := eq_true p204; replace q204 := eq_true q204; have ea_ := Option.some.inj (hx203_0.symm.trans hx204_0)
                                injection ea_ with ea_ en_ ec_
                                subst ea_; subst ec_; clear en_; have ea_ := Option.some.inj (hx203_1.symm.trans hx204_1)
                                injection ea_ with ea_ en_ ec_
                                subst ea_; subst ec_; clear en_; have ea_ := Option.some.inj (hx203_2.symm.trans hx204_2)
                                injection ea_ with ea_ en_ ec_
                                subst ea_; subst ec_; clear en_; have p205 : 0 ≤ (x10_3 : Int) := of_decide_eq_true (by first | (with_reducible assumption) | assumption); have q205 : x10_3 < (((rd_T50 l0 x8_1).f2).length : Int) := of_decide_eq_true (by first | (with_reducible assumption) | assumption); obtain ⟨ad205, e205, hx205_0⟩ := Kd.at_int HR204_2.out x10_3 p205 q205; cases e205; replace p205 := eq_true p205; replace q205 := eq_true q205
                                go_wp2
                                go_roundg k3
                                case measure => have := HK1.out; have := HK2.out; have := HK3.out; omega
                                case rel => exact ⟨(wrap64 (x7_3 + 1)), (wrap64 (x10_3 + 1)), (by first | rfl | (simp; done) | (simp [*]; done)), (by first | rfl | (simp; done) | (simp [*]; done)), H', ⟨by have := HK1.out; have := HK2.out; have := HK3.out; omega⟩, by repeat (first | exact Drawn0.refl _ | apply Drawn0.step)⟩
                              · rw [if_neg c13] at H; have c13b0 : ((rd ((rd_T50 l0 x8_1).f2) x10_3) == a1) = false := beq_eq_false_iff_ne.mpr c13; have c13b1 : ((rd ((rd_T50 l0 x8_1).f2) x10_3) != a1) = true := bne_iff_ne.mpr c13; have H' := Aside0.mk H; clear H; have p203 : 0 ≤ (x8_1 : Int) := of_decide_eq_true (by first | (with_reducible assumption) | assumption); have q203 : x8_1 < (l0.length : Int) := of_decide_eq_true (by first | (with_reducible assumption) | assumption); obtain ⟨ad203, A203_0, c203_0, A203_1, c203_1, A203_2, c203_2, e203, hx203_0, hx203_1, hx203_2, hl203_0, hi203_0, hl203_1, hi203_1, hl203_2, hi203_2⟩ := at_T50 HR0.out x8_1 p203 q203; obtain rfl : ad200 = ad203 := (by injection e203); have HR203_0 := Aside0.mk hi203_0; have HC203_0 := Aside0.mk hl203_0; clear hi203_0 hl203_0; have HR203_1 := Aside0.mk hi203_1; have HC203_1 := Aside0.mk hl203_1; clear hi203_1 hl203_1; have HR203_2 := Aside0.mk hi203_2; have HC203_2 := Aside0.mk hl203_2; clear hi203_2 hl203_2; replace p203 := eq_true p203; replace q203 := eq_true q203; have p204 : 0 ≤ (x8_1 : Int) := of_decide_eq_true (by first | (with_reducible assumption) | assumption); have q204 : x8_1 < (l0.length : Int) := of_decide_eq_true (by first | (with_reducible assumption) | assumption); obtain ⟨ad204, A204_0, c204_0, A204_1, c204_1, A204_2, c204_2, e204, hx204_0, hx204_1, hx204_2, hl204_0, hi204_0, hl204_1, hi204_1, hl204_2, hi204_2⟩ := at_T50 HR0.out x8_1 p204 q204; obtain rfl : ad200 = ad204 := (by injection e204); have HR204_0 := Aside0.mk hi204_0; have HC204_0 := Aside0.mk hl204_0; clear hi204_0 hl204_0; have HR204_1 := Aside0.mk hi204_1; have HC204_1 := Aside0.mk hl204_1; clear hi204_1 hl204_1; have HR204_2 := Aside0.mk hi204_2; have HC204_2 := Aside0.mk hl204_2; clear hi204_2 hl204_2; replace p204 := eq_true p204; replace q204 := eq_true q204; have ea_ := Option.some.inj (hx203_0.symm.trans hx204_0)
                                injection ea_ with ea_ en_ ec_
                                subst ea_; subst ec_; clear en_; have ea_ := Option.some.inj (hx203_1.symm.trans hx204_1)
                                injection ea_ with ea_ en_ ec_
                                subst ea_; subst ec_; clear en_; have ea_ := Option.some.inj (hx203_2.symm.trans hx204_2)
                                injection ea_ with ea_ en_ ec_
                                subst ea_; subst ec_; clear en_; have p205 : 0 ≤ (x10_3 : Int) := of_decide_eq_true (by first | (with_reducible assumption) | assumption); have q205 : x10_3 < (((rd_T50 l0 x8_1).f2).length : Int) := of_decide_eq_true (by first | (with_reducible assumption) | assumption); obtain ⟨ad205, e205, hx205_0⟩ := Kd.at_int HR204_2.out x10_3 p205 q205; cases e205; replace p205 := eq_true p205; replace q205 := eq_true q205
                                go_wp2
                                go_roundg k3
                                case measure => have := HK1.out; have := HK2.out; have := HK3.out; omega
                                case rel => exact ⟨(x7_3), (wrap64 (x10_3 + 1)), (by first | rfl | (simp; done) | (simp [*]; done)), (by first | rfl | (simp; done) | (simp [*]; done)), H', ⟨by have := HK1.out; have := HK2.out; have := HK3.out; omega⟩, by repeat (first | exact Drawn0.refl _ | apply Drawn0.step)⟩
                            · rw [if_neg c12] at H; exact absurd H (by simp)
                          · rw [if_neg c11] at H; have c11b0 : decide (x10_3 < (((rd_T50 l0 x8_1).f2).length : Int)) = false := decide_eq_false c11; clear c11; have H' := Aside0.mk H; clear H; have p203 : 0 ≤ (x8_1 : Int) := of_decide_eq_true (by first | (with_reducible assumption) | assumption); have q203 : x8_1 < (l0.length : Int) := of_decide_eq_true (by first | (with_reducible assumption) | assumption); obtain ⟨ad203, A203_0, c203_0, A203_1, c203_1, A203_2, c203_2, e203, hx203_0, hx203_1, hx203_2, hl203_0, hi203_0, hl203_1, hi203_1, hl203_2, hi203_2⟩ := at_T50 HR0.out x8_1 p203 q203; obtain rfl : ad200 = ad203 := (by injection e203); have HR203_0 := Aside0.mk hi203_0; have HC203_0 := Aside0.mk hl203_0; clear hi203_0 hl203_0; have HR203_1 := Aside0.mk hi203_1; have HC203_1 := Aside0.mk hl203_1; clear hi203_1 hl203_1; have HR203_2 := Aside0.mk hi203_2; have HC203_2 := Aside0.mk hl203_2; clear hi203_2 hl203_2; replace p203 := eq_true p203; replace q203 := eq_true q203
                            go_wp2
                            go_roundg k3
                            case measure => have := HK1.out; have := HK2.out; have := HK3.out; omega
                            case rel => exact ⟨(x6_2), (x7_3), (wrap64 (x8_1 + 1)), (by first | rfl | (simp; done) | (simp [*]; done)), (by first | rfl | (simp; done) | (simp [*]; done)), (by first | rfl | (simp; done) | (simp [*]; done)), H', ⟨by have := HK1.out; have := HK2.out; have := HK3.out; omega⟩, by repeat (first | exact Drawn0.refl _ | apply Drawn0.step)⟩
                        · rw [if_neg c10] at H; exact absurd H (by simp)
                      · rw [if_neg c9] at H; exact absurd H (by simp)
              · rw [if_neg c5] at H; exact absurd H (by simp)
            · rw [if_neg c4] at H; exact absurd H (by simp)
      · rw [if_neg c3] at H; have c3b0 : decide (x8_1 < (l0.length : Int)) = false := decide_eq_false c3; clear c3; simp only [Option.some.injEq, Prod.mk.injEq] at H; obtain ⟨rfl, rfl⟩ := H
        go_wp2
        go_ret2
        exact ⟨by first | rfl | (simp; done) | (simp [*]; done), by repeat (first | exact Drawn0.refl _ | apply Drawn0.step)⟩

/-! ### quarryref23_Formed: function 24 -/
mutual
def quarryref23_Formed.j0 : Nat → List (S50) → Bool → Option (Bool)
  | 0, _, _ => none
  | k + 1, x0, x16 => if x16 = true then (some false) else (quarryref23_Formed.l0 k x0 0)
def quarryref23_Formed.l0 : Nat → List (S50) → Int → Option (Bool)
  | 0, _, _ => none
  | k + 1, x0, x3 => if x3 < (x0.length : Int) then ((quarryref23_node.f k x0 x3).bind fun t207 => (if t207 = true then ((quarryref23_times.f k x0 x3).bind fun bt208 => (if x3 > 0 then (if bt208.1 = 1 then (quarryref23_Formed.l0 k x0 (wrap64 (x3 + 1))) else (some false)) else (quarryref23_Formed.l0 k x0 (wrap64 (x3 + 1))))) else (some false))) else (quarryref23_Formed.l1 k x0 0)
def quarryref23_Formed.l1 : Nat → List (S50) → Int → Option (Bool)
  | 0, _, _ => none
  | k + 1, x0, x6 => (quarryref23_Count.f k x0).bind fun t210 => (if x6 < t210 then ((quarryref23_times.f k x0 x6).bind fun bt211 => (if bt211.2 = 1 then (quarryref23_Formed.l1 k x0 (wrap64 (x6 + 1))) else (some false))) else (some true))
end
def quarryref23_Formed.f (k : Nat) (l0 : List (S50)) : Option (Bool) := if (l0.length : Int) = 0 then (quarryref23_Formed.j0 k l0 true) else ((quarryref23_Count.f k l0).bind fun t206 => (quarryref23_Formed.j0 k l0 (decide (t206 > 256))))
theorem quarryref23_Formed.mono_l : ∀ k, (∀ y0 y1, LeO (quarryref23_Formed.j0 k y0 y1) (quarryref23_Formed.j0 (k + 1) y0 y1)) ∧ (∀ y0 y1, LeO (quarryref23_Formed.l0 k y0 y1) (quarryref23_Formed.l0 (k + 1) y0 y1)) ∧ (∀ y0 y1, LeO (quarryref23_Formed.l1 k y0 y1) (quarryref23_Formed.l1 (k + 1) y0 y1))
  | 0 => ⟨fun _ _ r h => by simp [quarryref23_Formed.j0] at h, fun _ _ r h => by simp [quarryref23_Formed.l0] at h, fun _ _ r h => by simp [quarryref23_Formed.l1] at h⟩
  | k + 1 => by
    obtain ⟨ih0, ih1, ih2⟩ := quarryref23_Formed.mono_l k; refine ⟨?_, ?_, ?_⟩
    · intro y0 y1
      unfold quarryref23_Formed.j0
      repeat' first
      | (with_reducible exact ih0 _ _)
      | (with_reducible exact ih1 _ _)
      | (with_reducible exact ih2 _ _)
      | (with_reducible exact quarryref23_Count.mono _ _)
      | (with_reducible exact quarryref23_node.mono _ _ _)
      | (with_reducible exact quarryref23_times.mono _ _ _)
      | (with_reducible exact LeO.refl _)
      | (with_reducible exact LeO.none _)
      | (with_reducible refine LeO.ite ?_ ?_)
      | (with_reducible refine LeO.bind ?_ (fun _ => ?_))
      | exact ih0 _ _
      | exact ih1 _ _
      | exact ih2 _ _
      | exact quarryref23_Count.mono _ _
      | exact quarryref23_node.mono _ _ _
      | exact quarryref23_times.mono _ _ _
      | exact LeO.none _
      | refine LeO.ite ?_ ?_
      | refine LeO.bind ?_ (fun _ => ?_)
    · intro y0 y1
      unfold quarryref23_Formed.l0
      repeat' first
      | (with_reducible exact ih0 _ _)
      | (with_reducible exact ih1 _ _)
      | (with_reducible exact ih2 _ _)
      | (with_reducible exact quarryref23_Count.mono _ _)
      | (with_reducible exact quarryref23_node.mono _ _ _)
      | (with_reducible exact quarryref23_times.mono _ _ _)
      | (with_reducible exact LeO.refl _)
      | (with_reducible exact LeO.none _)
      | (with_reducible refine LeO.ite ?_ ?_)
      | (with_reducible refine LeO.bind ?_ (fun _ => ?_))
      | exact ih0 _ _
      | exact ih1 _ _
      | exact ih2 _ _
      | exact quarryref23_Count.mono _ _
      | exact quarryref23_node.mono _ _ _
      | exact quarryref23_times.mono _ _ _
      | exact LeO.none _
      | refine LeO.ite ?_ ?_
      | refine LeO.bind ?_ (fun _ => ?_)
    · intro y0 y1
      unfold quarryref23_Formed.l1
      repeat' first
      | (with_reducible exact ih0 _ _)
      | (with_reducible exact ih1 _ _)
      | (with_reducible exact ih2 _ _)
      | (with_reducible exact quarryref23_Count.mono _ _)
      | (with_reducible exact quarryref23_node.mono _ _ _)
      | (with_reducible exact quarryref23_times.mono _ _ _)
      | (with_reducible exact LeO.refl _)
      | (with_reducible exact LeO.none _)
      | (with_reducible refine LeO.ite ?_ ?_)
      | (with_reducible refine LeO.bind ?_ (fun _ => ?_))
      | exact ih0 _ _
      | exact ih1 _ _
      | exact ih2 _ _
      | exact quarryref23_Count.mono _ _
      | exact quarryref23_node.mono _ _ _
      | exact quarryref23_times.mono _ _ _
      | exact LeO.none _
      | refine LeO.ite ?_ ?_
      | refine LeO.bind ?_ (fun _ => ?_)
theorem quarryref23_Formed.mono : ∀ a0 k, LeO (quarryref23_Formed.f k a0) (quarryref23_Formed.f (k + 1) a0) := by
  intro a0 k; obtain ⟨ih0, ih1, ih2⟩ := quarryref23_Formed.mono_l k
  unfold quarryref23_Formed.f
  repeat' first
      | (with_reducible exact ih0 _ _)
      | (with_reducible exact ih1 _ _)
      | (with_reducible exact ih2 _ _)
      | (with_reducible exact quarryref23_Count.mono _ _)
      | (with_reducible exact quarryref23_node.mono _ _ _)
      | (with_reducible exact quarryref23_times.mono _ _ _)
      | (with_reducible exact LeO.refl _)
      | (with_reducible exact LeO.none _)
      | (with_reducible refine LeO.ite ?_ ?_)
      | (with_reducible refine LeO.bind ?_ (fun _ => ?_))
      | exact ih0 _ _
      | exact ih1 _ _
      | exact ih2 _ _
      | exact quarryref23_Count.mono _ _
      | exact quarryref23_node.mono _ _ _
      | exact quarryref23_times.mono _ _ _
      | exact LeO.none _
      | refine LeO.ite ?_ ?_
      | refine LeO.bind ?_ (fun _ => ?_)
set_option maxHeartbeats 8000000 in
set_option maxRecDepth 100000 in
theorem quarryref23_Formed.calls (k : Nat) (A0 : Option Addr) (c0 : Nat) (l0 : List (S50)) (r : Bool) (w : World) (hr0 : Kd.C k50 w A0 l0.length l0) (hc0 : l0.length ≤ c0) (h : quarryref23_Formed.f k l0 = some r) :
    Calls Try.prog 24 #[.slice A0 l0.length c0] w fun e w' => e = .returned (.bool r) ∧ Below w.heap.size w w' := by
  have HR0 := Aside0.mk hr0; have HC0 := Aside0.mk hc0; clear hr0 hc0; have HB := Aside0.mk (Below.refl w.heap.size w); have H : (if (l0.length : Int) = 0 then (quarryref23_Formed.j0 k l0 true) else ((quarryref23_Count.f k l0).bind fun t206 => (quarryref23_Formed.j0 k l0 (decide (t206 > 256))))) = some r := h; clear h; have HC2 := Aside0.mk H; clear H
  go_enter Try.func24, Try.ntmps24
  go_upto_region 1 with (fail)
  go_cut [16] (fun v16 wc => ∃ (kq : Nat) (x16_1 : Bool), v16 = .bool x16_1 ∧ Aside0 (quarryref23_Formed.j0 kq l0 x16_1 = some r) ∧ Aside0 (kq ≤ k) ∧ Aside0 (Below w.heap.size w wc))
  case first =>
    have H := HC2.out; clear HC2
    by_cases c3 : (l0.length : Int) = 0
    · rw [if_pos c3] at H; have c3b0 : ((l0.length : Int) == 0) = true := beq_iff_eq.mpr c3; have c3b1 : ((l0.length : Int) != 0) = false := bne_eq_false_iff_eq.mpr c3; clear c3; (first | rw [c3b0] | (simp only [i64_w, i32_w]; rw [c3b0]) | skip); have H' := Aside0.mk H; clear H
      go_wp2
      go_meet
      case rel => exact ⟨_, (true), (by first | rfl | (simp; done) | (simp [*]; done)), H', ⟨by first | omega | exact Nat.le_refl _⟩, ⟨by repeat (first | (with_reducible first | exact HB.out | apply below_alloc | apply pw_below_drewN | apply below_drew1) | exact HB.out)⟩⟩
    · rw [if_neg c3] at H; have c3b0 : ((l0.length : Int) == 0) = false := beq_eq_false_iff_ne.mpr c3; have c3b1 : ((l0.length : Int) != 0) = true := bne_iff_ne.mpr c3
      have c3b2 : ¬ (l0 = []) := fun h_ => c3 (by rw [h_]; rfl)
      (first | rw [c3b0] | (simp only [i64_w, i32_w]; rw [c3b0]) | skip); replace H := Option.bind_eq_some_iff.mp H; obtain ⟨t206, A40, H⟩ := H; replace H : (quarryref23_Formed.j0 k l0 (decide (t206 > 256))) = some r := H; have A4 := Aside0.mk A40; clear A40; have H' := Aside0.mk H; clear H
      go_wp2_with (first | (go_at_call 49; (with_reducible refine (quarryref23_Count.calls k _ _ l0 t206 _ ?side1 ?side2 A4.out).mono ?_); (case side1 => repeat (first | exact (Kd.C_below HR0.out HB.out) | (with_reducible refine Kd.C_alloc ?_ _) | (with_reducible refine Kd.C_drewN ?_ _) | (with_reducible refine Kd.C_drew ?_))); (case side2 => exact HC0.out); rintro e w' ⟨rfl, ⟨nd, rfl⟩⟩))
      go_meet
      case rel => exact ⟨_, (decide (t206 > 256)), (by first | rfl | (simp; done) | (simp [*]; done)), H', ⟨by first | omega | exact Nat.le_refl _⟩, ⟨by repeat (first | (with_reducible first | exact HB.out | apply below_alloc | apply pw_below_drewN | apply below_drew1) | exact HB.out)⟩⟩
  case rest =>
    clear HC2; (try clear c2); (try clear p2); (try clear c3); (try clear c3b0); (try clear c3b1); (try clear c3b2); obtain ⟨kq, x16_1, rfl, HA, HJ1, HB⟩ := hcut
    cases kq with
    | zero => exact absurd HA.out (by simp [quarryref23_Formed.j0])
    | succ kj1 =>
      have H := HA.out; clear HA; simp only [quarryref23_Formed.j0] at H
      by_cases c5 : x16_1 = true
      · subst c5
        have H1 : (some false) = some r := by rw [if_pos rfl] at H; exact H
        clear H; have H := H1; clear H1; obtain rfl := Option.some.inj H
        go_wp2
        go_ret
        exact ⟨by first | rfl | (simp [errW_none, errW_some] <;> rfl) | (simp [*, errW_none, errW_some] <;> rfl), by repeat (first | (with_reducible first | exact HB.out | apply below_alloc | apply pw_below_drewN | apply below_drew1) | exact HB.out)⟩
      · replace c5 := Bool.eq_false_iff.mpr c5; subst c5
        have H1 : (quarryref23_Formed.l0 kj1 l0 0) = some r := by rw [if_neg (show ¬ (false = true) by decide)] at H; exact H
        clear H; have H := H1; clear H1; have H' := Aside0.mk H; clear H
        go_wp2
        go_loopg [3] kj1 (fun kq v3 w' => ∃ (x3_2 : Int), v3 = .int .i64 x3_2 ∧ Aside0 (quarryref23_Formed.l0 kq l0 x3_2 = some r) ∧ Aside0 (kq ≤ kj1) ∧ Aside0 (Below w.heap.size w w'))
        case atStart => exact ⟨(0), (by first | rfl | (simp; done) | (simp [*]; done)), H', ⟨Nat.le_refl _⟩, ⟨by repeat (first | (with_reducible first | exact HB.out | apply below_alloc | apply pw_below_drewN | apply below_drew1) | exact HB.out)⟩⟩
        case round =>
          clear H'; (try clear c2); (try clear p2); (try clear c3); (try clear c3b0); (try clear c3b1); (try clear c3b2); (try clear c5); (try clear p2); obtain ⟨x3_2, rfl, HA, HK2, HB⟩ := hrel
          cases gk with
          | zero => exact absurd HA.out (by simp [quarryref23_Formed.l0])
          | succ k2 =>
            have H := HA.out; clear HA; simp only [quarryref23_Formed.l0] at H
            by_cases c6 : x3_2 < (l0.length : Int)
            · rw [if_pos c6] at H; have c6b0 : decide (x3_2 < (l0.length : Int)) = true := decide_eq_true c6; clear c6; replace H := Option.bind_eq_some_iff.mp H; obtain ⟨t207, A70, H⟩ := H; replace H : (if t207 = true then ((quarryref23_times.f k2 l0 x3_2).bind fun bt208 => (if x3_2 > 0 then (if bt208.1 = 1 then (quarryref23_Formed.l0 k2 l0 (wrap64 (x3_2 + 1))) else (some false)) else (quarryref23_Formed.l0 k2 l0 (wrap64 (x3_2 + 1))))) else (some false)) = some r := H; have A7 := Aside0.mk A70; clear A70
              by_cases c8 : t207 = true
              · subst c8
                have H1 : ((quarryref23_times.f k2 l0 x3_2).bind fun bt208 => (if x3_2 > 0 then (if bt208.1 = 1 then (quarryref23_Formed.l0 k2 l0 (wrap64 (x3_2 + 1))) else (some false)) else (quarryref23_Formed.l0 k2 l0 (wrap64 (x3_2 + 1))))) = some r := by rw [if_pos rfl] at H; exact H
                clear H; have H := H1; clear H1; replace H := Option.bind_eq_some_iff.mp H; obtain ⟨⟨t208, t209⟩, A90, H⟩ := H; replace H : (if x3_2 > 0 then (if t208 = 1 then (quarryref23_Formed.l0 k2 l0 (wrap64 (x3_2 + 1))) else (some false)) else (quarryref23_Formed.l0 k2 l0 (wrap64 (x3_2 + 1)))) = some r := H; have A9 := Aside0.mk A90; clear A90
                by_cases c10 : x3_2 > 0
                · rw [if_pos c10] at H; have c10b0 : decide (0 < x3_2) = true := decide_eq_true c10; clear c10
                  by_cases c11 : t208 = 1
                  · rw [if_pos c11] at H; have c11b0 : (t208 == 1) = true := beq_iff_eq.mpr c11; have c11b1 : (t208 != 1) = false := bne_eq_false_iff_eq.mpr c11; clear c11; have H' := Aside0.mk H; clear H
                    go_wp2_with (first | ((with_reducible refine gate_callee (f := 51) rfl ?_); refine goesL_ (some 25) rfl rfl Try.func51 (by kernel_rfl) rfl #[.slice A0 l0.length c0, .int .i64 x3_2] rfl (by (try simp only [List.map_toArray, List.map_cons, List.map_nil]); first | done | rfl | (simp only [List.length_drop, List.length_take]; rfl)) ?_; (with_reducible refine (quarryref23_node.calls k2 _ _ l0 x3_2 true _ ?side1 ?side2 A7.out).mono ?_); (case side1 => repeat (first | exact (Kd.C_below HR0.out HB.out) | (with_reducible refine Kd.C_alloc ?_ _) | (with_reducible refine Kd.C_drewN ?_ _) | (with_reducible refine Kd.C_drew ?_))); (case side2 => exact HC0.out); rintro e w12 ⟨rfl, hb⟩; refine ⟨_, rfl, ?_⟩; have n0_ := Aside0.mk (below_step (by repeat (first | (with_reducible first | exact HB.out | apply below_alloc | apply pw_below_drewN | apply below_drew1) | exact HB.out)) hb); clear HB; have HB := n0_; clear n0_; (try clear hb); (try clear hb2); (try clear hk); (try clear hi)) | ((with_reducible refine gate_callee (f := 52) rfl ?_); refine goesL_ (some 30) rfl rfl Try.func52 (by kernel_rfl) rfl #[.slice A0 l0.length c0, .int .i64 x3_2] rfl (by (try simp only [List.map_toArray, List.map_cons, List.map_nil]); first | done | rfl | (simp only [List.length_drop, List.length_take]; rfl)) ?_; (with_reducible refine (quarryref23_times.calls k2 _ _ l0 x3_2 t208 t209 _ ?side1 ?side2 A9.out).mono ?_); (case side1 => repeat (first | exact (Kd.C_below HR0.out HB.out) | (with_reducible refine Kd.C_alloc ?_ _) | (with_reducible refine Kd.C_drewN ?_ _) | (with_reducible refine Kd.C_drew ?_))); (case side2 => exact HC0.out); rintro e w' ⟨rfl, ⟨nd, rfl⟩⟩; refine ⟨_, rfl, ?_⟩))
                    go_roundg k2
                    case measure => have := HJ1.out; have := HK2.out; omega
                    case rel => exact ⟨(wrap64 (x3_2 + 1)), (by first | rfl | (simp; done) | (simp [*]; done)), H', ⟨by have := HJ1.out; have := HK2.out; omega⟩, ⟨by repeat (first | (with_reducible first | exact HB.out | apply below_alloc | apply pw_below_drewN | apply below_drew1) | exact HB.out)⟩⟩
                  · rw [if_neg c11] at H; have c11b0 : (t208 == 1) = false := beq_eq_false_iff_ne.mpr c11; have c11b1 : (t208 != 1) = true := bne_iff_ne.mpr c11; obtain rfl := Option.some.inj H
                    go_wp2_with (first | ((with_reducible refine gate_callee (f := 51) rfl ?_); refine goesL_ (some 25) rfl rfl Try.func51 (by kernel_rfl) rfl #[.slice A0 l0.length c0, .int .i64 x3_2] rfl (by (try simp only [List.map_toArray, List.map_cons, List.map_nil]); first | done | rfl | (simp only [List.length_drop, List.length_take]; rfl)) ?_; (with_reducible refine (quarryref23_node.calls k2 _ _ l0 x3_2 true _ ?side1 ?side2 A7.out).mono ?_); (case side1 => repeat (first | exact (Kd.C_below HR0.out HB.out) | (with_reducible refine Kd.C_alloc ?_ _) | (with_reducible refine Kd.C_drewN ?_ _) | (with_reducible refine Kd.C_drew ?_))); (case side2 => exact HC0.out); rintro e w13 ⟨rfl, hb⟩; refine ⟨_, rfl, ?_⟩; have n0_ := Aside0.mk (below_step (by repeat (first | (with_reducible first | exact HB.out | apply below_alloc | apply pw_below_drewN | apply below_drew1) | exact HB.out)) hb); clear HB; have HB := n0_; clear n0_; (try clear hb); (try clear hb2); (try clear hk); (try clear hi)) | ((with_reducible refine gate_callee (f := 52) rfl ?_); refine goesL_ (some 30) rfl rfl Try.func52 (by kernel_rfl) rfl #[.slice A0 l0.length c0, .int .i64 x3_2] rfl (by (try simp only [List.map_toArray, List.map_cons, List.map_nil]); first | done | rfl | (simp only [List.length_drop, List.length_take]; rfl)) ?_; (with_reducible refine (quarryref23_times.calls k2 _ _ l0 x3_2 t208 t209 _ ?side1 ?side2 A9.out).mono ?_); (case side1 => repeat (first | exact (Kd.C_below HR0.out HB.out) | (with_reducible refine Kd.C_alloc ?_ _) | (with_reducible refine Kd.C_drewN ?_ _) | (with_reducible refine Kd.C_drew ?_))); (case side2 => exact HC0.out); rintro e w' ⟨rfl, ⟨nd, rfl⟩⟩; refine ⟨_, rfl, ?_⟩))
                    go_ret
                    exact ⟨by first | rfl | (simp [errW_none, errW_some] <;> rfl) | (simp [*, errW_none, errW_some] <;> rfl), by repeat (first | (with_reducible first | exact HB.out | apply below_alloc | apply pw_below_drewN | apply below_drew1) | exact HB.out)⟩
                · rw [if_neg c10] at H; have c10b0 : decide (0 < x3_2) = false := decide_eq_false c10; clear c10; have H' := Aside0.mk H; clear H
                  go_wp2_with (first | ((with_reducible refine gate_callee (f := 51) rfl ?_); refine goesL_ (some 25) rfl rfl Try.func51 (by kernel_rfl) rfl #[.slice A0 l0.length c0, .int .i64 x3_2] rfl (by (try simp only [List.map_toArray, List.map_cons, List.map_nil]); first | done | rfl | (simp only [List.length_drop, List.length_take]; rfl)) ?_; (with_reducible refine (quarryref23_node.calls k2 _ _ l0 x3_2 true _ ?side1 ?side2 A7.out).mono ?_); (case side1 => repeat (first | exact (Kd.C_below HR0.out HB.out) | (with_reducible refine Kd.C_alloc ?_ _) | (with_reducible refine Kd.C_drewN ?_ _) | (with_reducible refine Kd.C_drew ?_))); (case side2 => exact HC0.out); rintro e w14 ⟨rfl, hb⟩; refine ⟨_, rfl, ?_⟩; have n0_ := Aside0.mk (below_step (by repeat (first | (with_reducible first | exact HB.out | apply below_alloc | apply pw_below_drewN | apply below_drew1) | exact HB.out)) hb); clear HB; have HB := n0_; clear n0_; (try clear hb); (try clear hb2); (try clear hk); (try clear hi)) | ((with_reducible refine gate_callee (f := 52) rfl ?_); refine goesL_ (some 30) rfl rfl Try.func52 (by kernel_rfl) rfl #[.slice A0 l0.length c0, .int .i64 x3_2] rfl (by (try simp only [List.map_toArray, List.map_cons, List.map_nil]); first | done | rfl | (simp only [List.length_drop, List.length_take]; rfl)) ?_; (with_reducible refine (quarryref23_times.calls k2 _ _ l0 x3_2 t208 t209 _ ?side1 ?side2 A9.out).mono ?_); (case side1 => repeat (first | exact (Kd.C_below HR0.out HB.out) | (with_reducible refine Kd.C_alloc ?_ _) | (with_reducible refine Kd.C_drewN ?_ _) | (with_reducible refine Kd.C_drew ?_))); (case side2 => exact HC0.out); rintro e w' ⟨rfl, ⟨nd, rfl⟩⟩; refine ⟨_, rfl, ?_⟩))
                  go_roundg k2
                  case measure => have := HJ1.out; have := HK2.out; omega
                  case rel => exact ⟨(wrap64 (x3_2 + 1)), (by first | rfl | (simp; done) | (simp [*]; done)), H', ⟨by have := HJ1.out; have := HK2.out; omega⟩, ⟨by repeat (first | (with_reducible first | exact HB.out | apply below_alloc | apply pw_below_drewN | apply below_drew1) | exact HB.out)⟩⟩
              · replace c8 := Bool.eq_false_iff.mpr c8; subst c8
                have H1 : (some false) = some r := by rw [if_neg (show ¬ (false = true) by decide)] at H; exact H
                clear H; have H := H1; clear H1; obtain rfl := Option.some.inj H
                go_wp2_with (first | ((with_reducible refine gate_callee (f := 51) rfl ?_); refine goesL_ (some 25) rfl rfl Try.func51 (by kernel_rfl) rfl #[.slice A0 l0.length c0, .int .i64 x3_2] rfl (by (try simp only [List.map_toArray, List.map_cons, List.map_nil]); first | done | rfl | (simp only [List.length_drop, List.length_take]; rfl)) ?_; (with_reducible refine (quarryref23_node.calls k2 _ _ l0 x3_2 false _ ?side1 ?side2 A7.out).mono ?_); (case side1 => repeat (first | exact (Kd.C_below HR0.out HB.out) | (with_reducible refine Kd.C_alloc ?_ _) | (with_reducible refine Kd.C_drewN ?_ _) | (with_reducible refine Kd.C_drew ?_))); (case side2 => exact HC0.out); rintro e w15 ⟨rfl, hb⟩; refine ⟨_, rfl, ?_⟩; have n0_ := Aside0.mk (below_step (by repeat (first | (with_reducible first | exact HB.out | apply below_alloc | apply pw_below_drewN | apply below_drew1) | exact HB.out)) hb); clear HB; have HB := n0_; clear n0_; (try clear hb); (try clear hb2); (try clear hk); (try clear hi)))
                go_ret
                exact ⟨by first | rfl | (simp [errW_none, errW_some] <;> rfl) | (simp [*, errW_none, errW_some] <;> rfl), by repeat (first | (with_reducible first | exact HB.out | apply below_alloc | apply pw_below_drewN | apply below_drew1) | exact HB.out)⟩
            · rw [if_neg c6] at H; have c6b0 : decide (x3_2 < (l0.length : Int)) = false := decide_eq_false c6; clear c6; have H' := Aside0.mk H; clear H
              go_wp2
              go_loopg [6] k2 (fun kq v6 w' => ∃ (x6_3 : Int), v6 = .int .i64 x6_3 ∧ Aside0 (quarryref23_Formed.l1 kq l0 x6_3 = some r) ∧ Aside0 (kq ≤ k2) ∧ Aside0 (Below w.heap.size w w'))
              case atStart => exact ⟨(0), (by first | rfl | (simp; done) | (simp [*]; done)), H', ⟨Nat.le_refl _⟩, ⟨by repeat (first | (with_reducible first | exact HB.out | apply below_alloc | apply pw_below_drewN | apply below_drew1) | exact HB.out)⟩⟩
              case round =>
                clear H'; (try clear c1); (try clear c2); (try clear p2); (try clear c3); (try clear c3b0); (try clear c3b1); (try clear c3b2); (try clear c5); (try clear c6); (try clear c6b0); (try clear p6); (try clear c8); (try clear c10); (try clear c10b0); (try clear c11); (try clear c11b0); (try clear c11b1); (try clear p2); obtain ⟨x6_3, rfl, HA, HK3, HB⟩ := hrel
                cases gk with
                | zero => exact absurd HA.out (by simp [quarryref23_Formed.l1])
                | succ k3 =>
                  have H := HA.out; clear HA; simp only [quarryref23_Formed.l1] at H; replace H := Option.bind_eq_some_iff.mp H; obtain ⟨t210, A160, H⟩ := H; replace H : (if x6_3 < t210 then ((quarryref23_times.f k3 l0 x6_3).bind fun bt211 => (if bt211.2 = 1 then (quarryref23_Formed.l1 k3 l0 (wrap64 (x6_3 + 1))) else (some false))) else (some true)) = some r := H; have A16 := Aside0.mk A160; clear A160
                  by_cases c17 : x6_3 < t210
                  · rw [if_pos c17] at H; have c17b0 : decide (x6_3 < t210) = true := decide_eq_true c17; clear c17; replace H := Option.bind_eq_some_iff.mp H; obtain ⟨⟨t211, t212⟩, A180, H⟩ := H; replace H : (if t212 = 1 then (quarryref23_Formed.l1 k3 l0 (wrap64 (x6_3 + 1))) else (some false)) = some r := H; have A18 := Aside0.mk A180; clear A180
                    by_cases c19 : t212 = 1
                    · rw [if_pos c19] at H; have c19b0 : (t212 == 1) = true := beq_iff_eq.mpr c19; have c19b1 : (t212 != 1) = false := bne_eq_false_iff_eq.mpr c19; clear c19; have H' := Aside0.mk H; clear H
                      go_wp2_with (first | ((with_reducible refine gate_callee (f := 49) rfl ?_); refine goesL_ (some 41) rfl rfl Try.func49 (by kernel_rfl) rfl #[.slice A0 l0.length c0] rfl (by (try simp only [List.map_toArray, List.map_cons, List.map_nil]); first | done | rfl | (simp only [List.length_drop, List.length_take]; rfl)) ?_; (with_reducible refine (quarryref23_Count.calls k3 _ _ l0 t210 _ ?side1 ?side2 A16.out).mono ?_); (case side1 => repeat (first | exact (Kd.C_below HR0.out HB.out) | (with_reducible refine Kd.C_alloc ?_ _) | (with_reducible refine Kd.C_drewN ?_ _) | (with_reducible refine Kd.C_drew ?_))); (case side2 => exact HC0.out); rintro e w' ⟨rfl, ⟨nd, rfl⟩⟩; refine ⟨_, rfl, ?_⟩) | ((with_reducible refine gate_callee (f := 52) rfl ?_); refine goesL_ (some 48) rfl rfl Try.func52 (by kernel_rfl) rfl #[.slice A0 l0.length c0, .int .i64 x6_3] rfl (by (try simp only [List.map_toArray, List.map_cons, List.map_nil]); first | done | rfl | (simp only [List.length_drop, List.length_take]; rfl)) ?_; (with_reducible refine (quarryref23_times.calls k3 _ _ l0 x6_3 t211 t212 _ ?side1 ?side2 A18.out).mono ?_); (case side1 => repeat (first | exact (Kd.C_below HR0.out (by repeat (first | (with_reducible first | exact HB.out | apply below_alloc | apply pw_below_drewN | apply below_drew1) | exact HB.out))) | (with_reducible refine Kd.C_alloc ?_ _) | (with_reducible refine Kd.C_drewN ?_ _) | (with_reducible refine Kd.C_drew ?_))); (case side2 => exact HC0.out); rintro e w' ⟨rfl, ⟨nd, rfl⟩⟩; refine ⟨_, rfl, ?_⟩))
                      go_roundg k3
                      case measure => have := HJ1.out; have := HK2.out; have := HK3.out; omega
                      case rel => exact ⟨(wrap64 (x6_3 + 1)), (by first | rfl | (simp; done) | (simp [*]; done)), H', ⟨by have := HJ1.out; have := HK2.out; have := HK3.out; omega⟩, ⟨by repeat (first | (with_reducible first | exact HB.out | apply below_alloc | apply pw_below_drewN | apply below_drew1) | exact HB.out)⟩⟩
                    · rw [if_neg c19] at H; have c19b0 : (t212 == 1) = false := beq_eq_false_iff_ne.mpr c19; have c19b1 : (t212 != 1) = true := bne_iff_ne.mpr c19; obtain rfl := Option.some.inj H
                      go_wp2_with (first | ((with_reducible refine gate_callee (f := 49) rfl ?_); refine goesL_ (some 41) rfl rfl Try.func49 (by kernel_rfl) rfl #[.slice A0 l0.length c0] rfl (by (try simp only [List.map_toArray, List.map_cons, List.map_nil]); first | done | rfl | (simp only [List.length_drop, List.length_take]; rfl)) ?_; (with_reducible refine (quarryref23_Count.calls k3 _ _ l0 t210 _ ?side1 ?side2 A16.out).mono ?_); (case side1 => repeat (first | exact (Kd.C_below HR0.out HB.out) | (with_reducible refine Kd.C_alloc ?_ _) | (with_reducible refine Kd.C_drewN ?_ _) | (with_reducible refine Kd.C_drew ?_))); (case side2 => exact HC0.out); rintro e w' ⟨rfl, ⟨nd, rfl⟩⟩; refine ⟨_, rfl, ?_⟩) | ((with_reducible refine gate_callee (f := 52) rfl ?_); refine goesL_ (some 48) rfl rfl Try.func52 (by kernel_rfl) rfl #[.slice A0 l0.length c0, .int .i64 x6_3] rfl (by (try simp only [List.map_toArray, List.map_cons, List.map_nil]); first | done | rfl | (simp only [List.length_drop, List.length_take]; rfl)) ?_; (with_reducible refine (quarryref23_times.calls k3 _ _ l0 x6_3 t211 t212 _ ?side1 ?side2 A18.out).mono ?_); (case side1 => repeat (first | exact (Kd.C_below HR0.out (by repeat (first | (with_reducible first | exact HB.out | apply below_alloc | apply pw_below_drewN | apply below_drew1) | exact HB.out))) | (with_reducible refine Kd.C_alloc ?_ _) | (with_reducible refine Kd.C_drewN ?_ _) | (with_reducible refine Kd.C_drew ?_))); (case side2 => exact HC0.out); rintro e w' ⟨rfl, ⟨nd, rfl⟩⟩; refine ⟨_, rfl, ?_⟩))
                      go_ret
                      exact ⟨by first | rfl | (simp [errW_none, errW_some] <;> rfl) | (simp [*, errW_none, errW_some] <;> rfl), by repeat (first | (with_reducible first | exact HB.out | apply below_alloc | apply pw_below_drewN | apply below_drew1) | exact HB.out)⟩
                  · rw [if_neg c17] at H; have c17b0 : decide (x6_3 < t210) = false := decide_eq_false c17; clear c17; obtain rfl := Option.some.inj H
                    go_wp2_with (first | ((with_reducible refine gate_callee (f := 49) rfl ?_); refine goesL_ (some 41) rfl rfl Try.func49 (by kernel_rfl) rfl #[.slice A0 l0.length c0] rfl (by (try simp only [List.map_toArray, List.map_cons, List.map_nil]); first | done | rfl | (simp only [List.length_drop, List.length_take]; rfl)) ?_; (with_reducible refine (quarryref23_Count.calls k3 _ _ l0 t210 _ ?side1 ?side2 A16.out).mono ?_); (case side1 => repeat (first | exact (Kd.C_below HR0.out HB.out) | (with_reducible refine Kd.C_alloc ?_ _) | (with_reducible refine Kd.C_drewN ?_ _) | (with_reducible refine Kd.C_drew ?_))); (case side2 => exact HC0.out); rintro e w' ⟨rfl, ⟨nd, rfl⟩⟩; refine ⟨_, rfl, ?_⟩))
                    go_ret
                    exact ⟨by first | rfl | (simp [errW_none, errW_some] <;> rfl) | (simp [*, errW_none, errW_some] <;> rfl), by repeat (first | (with_reducible first | exact HB.out | apply below_alloc | apply pw_below_drewN | apply below_drew1) | exact HB.out)⟩

end Go.Proofs.Ythlneooboiphdaa.PTrieGoes
