/- whole.put of some types: the next digit, or the panic of too much. Printed by genput.py. -/
import Derived.Test.YtkjmbibnfohkjaaDoorWholeBase
import Derived.Test.YtkjmbibnfohkjaaDoorProg
import Derived.WalkKit
import Derived.WalkSmall
import Derived.Lib.Hide
namespace Go.Proofs.YtkjmbibnfohkjaaDoor
open Go.RowKit Go.Proofs.YtkjmbibnfohkjaaDoor.Whole
set_option linter.unusedVariables false
/-- What put tells: the number, or that it gives up. -/
def PutSays (k : IntKind) (lo hi r : Int) (e : Ending) : Prop :=
  (lo ≤ r ∧ r ≤ hi ∧ e = .returned (.int k r)) ∨ (¬ (lo ≤ r ∧ r ≤ hi) ∧ e = .panicked [{ v := .iface 101 (.agg #[]), recovered := false }])
set_option maxHeartbeats 1000000 in
theorem put_int64 (n d : Int) (neg : Bool) (h0 : (-9223372036854775808) ≤ n) (h1 : n ≤ 9223372036854775807) (hd0 : 0 ≤ d) (hd1 : d ≤ 9) (hp : neg = false → 0 ≤ n) (hn : neg = true → n ≤ 0) (w : World) :
    Calls Tryd.prog 78 #[.int .i64 n, .int .i64 d, .bool neg] w fun e w' => w' = w ∧ PutSays .i64 (-9223372036854775808) 9223372036854775807 (stepD neg n d) e := by
  obtain ⟨F1, F2⟩ := facts_i64 n d neg h0 h1 hd0 hd1 hp hn
  by_cases hr : (-9223372036854775808) ≤ stepD neg n d ∧ stepD neg n d ≤ 9223372036854775807
  · obtain ⟨f1, f2, f3⟩ := F1 hr.1 hr.2
    have HR := Lib.hid hr
    clear F1 F2
    cases neg
    · have e : stepD false n d = n * 10 + d := rfl
      obtain ⟨r, hre⟩ : ∃ r, r = stepD false n d := ⟨_, rfl⟩
      obtain ⟨T, hT⟩ : ∃ T, T = n * 10 := ⟨_, rfl⟩
      rw [← hre] at f3 HR ⊢
      rw [hre, e, ← hT] at f3
      have q1 : decide (T ≤ T + d) = true := decide_eq_true (by omega)
      rw [show T + d = r from by rw [hre, e, hT]] at q1
      have f3' : IntKind.i64.wrap (T + d) = r := by rw [f3, hre, e, hT]
      replace f1 : IntKind.i64.wrap (n * 10) = T := f1.trans hT.symm
      rw [← hT] at f2
      have q2 : ¬ r < T := by have := of_decide_eq_true q1; omega
      have q3 : T ≤ r := of_decide_eq_true q1
      skip
      rw [IntWalk.i64_left] at f1 f2 f3'
      clear f3 hre e hp hn hr h0 h1 hd0 hd1
      clear hT
      go_enter Tryd.func78, Tryd.ntmps78
      go_wp2
      go_ret
      exact ⟨rfl, Or.inl ⟨HR.out.1, HR.out.2, by first | rfl | simp [f3']⟩⟩
    · have e : stepD true n d = n * 10 - d := rfl
      obtain ⟨r, hre⟩ : ∃ r, r = stepD true n d := ⟨_, rfl⟩
      obtain ⟨T, hT⟩ : ∃ T, T = n * 10 := ⟨_, rfl⟩
      rw [← hre] at f3 HR ⊢
      rw [hre, e, ← hT] at f3
      have q3 : r ≤ T := by rw [hre, e, hT]; omega
      have q4 : r ≤ 0 := by have := hn rfl; rw [hre, e]; omega
      have f3' : IntKind.i64.wrap (T - d) = r := by rw [f3, hre, e, hT]
      replace f1 : IntKind.i64.wrap (n * 10) = T := f1.trans hT.symm
      rw [← hT] at f2
      skip
      rw [IntWalk.i64_left] at f1 f2 f3'
      clear f3 hre e hp hn hr h0 h1 hd0 hd1
      clear hT
      go_enter Tryd.func78, Tryd.ntmps78
      go_wp2
      go_ret
      exact ⟨rfl, Or.inl ⟨HR.out.1, HR.out.2, by first | rfl | simp [f3']⟩⟩
  · have HR := Lib.hid hr
    rcases F2 hr with f | ⟨f1, f2, f3⟩
    · obtain ⟨T, hT⟩ : ∃ T, T = IntKind.i64.wrap (n * 10) := ⟨_, rfl⟩
      rw [← hT] at f
      have f1 := hT.symm
      obtain ⟨U, hU⟩ : ∃ U, U = IntKind.i64.wrap (T.tdiv 10) := ⟨_, rfl⟩
      rw [← hU] at f
      have f2 := hU.symm
      have q1 : (U != n) = true := bne_iff_ne.2 f
      skip
      rw [IntWalk.i64_left] at f1 f2
      clear F1 F2 hr hT hU hp hn h0 h1 hd0 hd1 f
      generalize stepD neg n d = r at HR ⊢
      go_enter Tryd.func78, Tryd.ntmps78
      go_wp2
      exact ⟨rfl, rfl, Or.inr ⟨HR.out, rfl⟩⟩
    · clear F1 F2
      cases neg
      · rw [if_neg (by decide)] at f3
        have e : stepD false n d = n * 10 + d := rfl
        obtain ⟨T, hT⟩ : ∃ T, T = n * 10 := ⟨_, rfl⟩
        obtain ⟨r, hre⟩ : ∃ r, r = IntKind.i64.wrap (T + d) := ⟨_, rfl⟩
        rw [e, ← hT, ← hre] at f3
        replace f1 : IntKind.i64.wrap (n * 10) = T := f1.trans hT.symm
        rw [← hT] at f2
        have f4 := hre.symm
        have q1 : ¬ T ≤ r := by omega
        skip
        rw [IntWalk.i64_left] at f1 f2 f4
        clear hr hre hp hn h0 h1 hd0 hd1 e
        clear hT
        generalize stepD false n d = r' at HR ⊢
        go_enter Tryd.func78, Tryd.ntmps78
        go_wp2
        exact ⟨rfl, rfl, Or.inr ⟨HR.out, rfl⟩⟩
      · rw [if_pos rfl] at f3
        have e : stepD true n d = n * 10 - d := rfl
        obtain ⟨T, hT⟩ : ∃ T, T = n * 10 := ⟨_, rfl⟩
        obtain ⟨r, hre⟩ : ∃ r, r = IntKind.i64.wrap (T - d) := ⟨_, rfl⟩
        rw [e, ← hT, ← hre] at f3
        replace f1 : IntKind.i64.wrap (n * 10) = T := f1.trans hT.symm
        rw [← hT] at f2
        have f4 := hre.symm
        have q1 : ¬ r ≤ T := by omega
        skip
        rw [IntWalk.i64_left] at f1 f2 f4
        clear hr hre hp hn h0 h1 hd0 hd1 e
        clear hT
        generalize stepD true n d = r' at HR ⊢
        go_enter Tryd.func78, Tryd.ntmps78
        go_wp2
        exact ⟨rfl, rfl, Or.inr ⟨HR.out, rfl⟩⟩
set_option maxHeartbeats 1000000 in
theorem put_int (n d : Int) (neg : Bool) (h0 : (-9223372036854775808) ≤ n) (h1 : n ≤ 9223372036854775807) (hd0 : 0 ≤ d) (hd1 : d ≤ 9) (hp : neg = false → 0 ≤ n) (hn : neg = true → n ≤ 0) (w : World) :
    Calls Tryd.prog 93 #[.int .i64 n, .int .i64 d, .bool neg] w fun e w' => w' = w ∧ PutSays .i64 (-9223372036854775808) 9223372036854775807 (stepD neg n d) e := by
  obtain ⟨F1, F2⟩ := facts_i64 n d neg h0 h1 hd0 hd1 hp hn
  by_cases hr : (-9223372036854775808) ≤ stepD neg n d ∧ stepD neg n d ≤ 9223372036854775807
  · obtain ⟨f1, f2, f3⟩ := F1 hr.1 hr.2
    have HR := Lib.hid hr
    clear F1 F2
    cases neg
    · have e : stepD false n d = n * 10 + d := rfl
      obtain ⟨r, hre⟩ : ∃ r, r = stepD false n d := ⟨_, rfl⟩
      obtain ⟨T, hT⟩ : ∃ T, T = n * 10 := ⟨_, rfl⟩
      rw [← hre] at f3 HR ⊢
      rw [hre, e, ← hT] at f3
      have q1 : decide (T ≤ T + d) = true := decide_eq_true (by omega)
      rw [show T + d = r from by rw [hre, e, hT]] at q1
      have f3' : IntKind.i64.wrap (T + d) = r := by rw [f3, hre, e, hT]
      replace f1 : IntKind.i64.wrap (n * 10) = T := f1.trans hT.symm
      rw [← hT] at f2
      have q2 : ¬ r < T := by have := of_decide_eq_true q1; omega
      have q3 : T ≤ r := of_decide_eq_true q1
      skip
      rw [IntWalk.i64_left] at f1 f2 f3'
      clear f3 hre e hp hn hr h0 h1 hd0 hd1
      clear hT
      go_enter Tryd.func93, Tryd.ntmps93
      go_wp2
      go_ret
      exact ⟨rfl, Or.inl ⟨HR.out.1, HR.out.2, by first | rfl | simp [f3']⟩⟩
    · have e : stepD true n d = n * 10 - d := rfl
      obtain ⟨r, hre⟩ : ∃ r, r = stepD true n d := ⟨_, rfl⟩
      obtain ⟨T, hT⟩ : ∃ T, T = n * 10 := ⟨_, rfl⟩
      rw [← hre] at f3 HR ⊢
      rw [hre, e, ← hT] at f3
      have q3 : r ≤ T := by rw [hre, e, hT]; omega
      have q4 : r ≤ 0 := by have := hn rfl; rw [hre, e]; omega
      have f3' : IntKind.i64.wrap (T - d) = r := by rw [f3, hre, e, hT]
      replace f1 : IntKind.i64.wrap (n * 10) = T := f1.trans hT.symm
      rw [← hT] at f2
      skip
      rw [IntWalk.i64_left] at f1 f2 f3'
      clear f3 hre e hp hn hr h0 h1 hd0 hd1
      clear hT
      go_enter Tryd.func93, Tryd.ntmps93
      go_wp2
      go_ret
      exact ⟨rfl, Or.inl ⟨HR.out.1, HR.out.2, by first | rfl | simp [f3']⟩⟩
  · have HR := Lib.hid hr
    rcases F2 hr with f | ⟨f1, f2, f3⟩
    · obtain ⟨T, hT⟩ : ∃ T, T = IntKind.i64.wrap (n * 10) := ⟨_, rfl⟩
      rw [← hT] at f
      have f1 := hT.symm
      obtain ⟨U, hU⟩ : ∃ U, U = IntKind.i64.wrap (T.tdiv 10) := ⟨_, rfl⟩
      rw [← hU] at f
      have f2 := hU.symm
      have q1 : (U != n) = true := bne_iff_ne.2 f
      skip
      rw [IntWalk.i64_left] at f1 f2
      clear F1 F2 hr hT hU hp hn h0 h1 hd0 hd1 f
      generalize stepD neg n d = r at HR ⊢
      go_enter Tryd.func93, Tryd.ntmps93
      go_wp2
      exact ⟨rfl, rfl, Or.inr ⟨HR.out, rfl⟩⟩
    · clear F1 F2
      cases neg
      · rw [if_neg (by decide)] at f3
        have e : stepD false n d = n * 10 + d := rfl
        obtain ⟨T, hT⟩ : ∃ T, T = n * 10 := ⟨_, rfl⟩
        obtain ⟨r, hre⟩ : ∃ r, r = IntKind.i64.wrap (T + d) := ⟨_, rfl⟩
        rw [e, ← hT, ← hre] at f3
        replace f1 : IntKind.i64.wrap (n * 10) = T := f1.trans hT.symm
        rw [← hT] at f2
        have f4 := hre.symm
        have q1 : ¬ T ≤ r := by omega
        skip
        rw [IntWalk.i64_left] at f1 f2 f4
        clear hr hre hp hn h0 h1 hd0 hd1 e
        clear hT
        generalize stepD false n d = r' at HR ⊢
        go_enter Tryd.func93, Tryd.ntmps93
        go_wp2
        exact ⟨rfl, rfl, Or.inr ⟨HR.out, rfl⟩⟩
      · rw [if_pos rfl] at f3
        have e : stepD true n d = n * 10 - d := rfl
        obtain ⟨T, hT⟩ : ∃ T, T = n * 10 := ⟨_, rfl⟩
        obtain ⟨r, hre⟩ : ∃ r, r = IntKind.i64.wrap (T - d) := ⟨_, rfl⟩
        rw [e, ← hT, ← hre] at f3
        replace f1 : IntKind.i64.wrap (n * 10) = T := f1.trans hT.symm
        rw [← hT] at f2
        have f4 := hre.symm
        have q1 : ¬ r ≤ T := by omega
        skip
        rw [IntWalk.i64_left] at f1 f2 f4
        clear hr hre hp hn h0 h1 hd0 hd1 e
        clear hT
        generalize stepD true n d = r' at HR ⊢
        go_enter Tryd.func93, Tryd.ntmps93
        go_wp2
        exact ⟨rfl, rfl, Or.inr ⟨HR.out, rfl⟩⟩
set_option maxHeartbeats 1000000 in
theorem put_Wide (n d : Int) (neg : Bool) (h0 : (-9223372036854775808) ≤ n) (h1 : n ≤ 9223372036854775807) (hd0 : 0 ≤ d) (hd1 : d ≤ 9) (hp : neg = false → 0 ≤ n) (hn : neg = true → n ≤ 0) (w : World) :
    Calls Tryd.prog 95 #[.int .i64 n, .int .i64 d, .bool neg] w fun e w' => w' = w ∧ PutSays .i64 (-9223372036854775808) 9223372036854775807 (stepD neg n d) e := by
  obtain ⟨F1, F2⟩ := facts_i64 n d neg h0 h1 hd0 hd1 hp hn
  by_cases hr : (-9223372036854775808) ≤ stepD neg n d ∧ stepD neg n d ≤ 9223372036854775807
  · obtain ⟨f1, f2, f3⟩ := F1 hr.1 hr.2
    have HR := Lib.hid hr
    clear F1 F2
    cases neg
    · have e : stepD false n d = n * 10 + d := rfl
      obtain ⟨r, hre⟩ : ∃ r, r = stepD false n d := ⟨_, rfl⟩
      obtain ⟨T, hT⟩ : ∃ T, T = n * 10 := ⟨_, rfl⟩
      rw [← hre] at f3 HR ⊢
      rw [hre, e, ← hT] at f3
      have q1 : decide (T ≤ T + d) = true := decide_eq_true (by omega)
      rw [show T + d = r from by rw [hre, e, hT]] at q1
      have f3' : IntKind.i64.wrap (T + d) = r := by rw [f3, hre, e, hT]
      replace f1 : IntKind.i64.wrap (n * 10) = T := f1.trans hT.symm
      rw [← hT] at f2
      have q2 : ¬ r < T := by have := of_decide_eq_true q1; omega
      have q3 : T ≤ r := of_decide_eq_true q1
      skip
      rw [IntWalk.i64_left] at f1 f2 f3'
      clear f3 hre e hp hn hr h0 h1 hd0 hd1
      clear hT
      go_enter Tryd.func95, Tryd.ntmps95
      go_wp2
      go_ret
      exact ⟨rfl, Or.inl ⟨HR.out.1, HR.out.2, by first | rfl | simp [f3']⟩⟩
    · have e : stepD true n d = n * 10 - d := rfl
      obtain ⟨r, hre⟩ : ∃ r, r = stepD true n d := ⟨_, rfl⟩
      obtain ⟨T, hT⟩ : ∃ T, T = n * 10 := ⟨_, rfl⟩
      rw [← hre] at f3 HR ⊢
      rw [hre, e, ← hT] at f3
      have q3 : r ≤ T := by rw [hre, e, hT]; omega
      have q4 : r ≤ 0 := by have := hn rfl; rw [hre, e]; omega
      have f3' : IntKind.i64.wrap (T - d) = r := by rw [f3, hre, e, hT]
      replace f1 : IntKind.i64.wrap (n * 10) = T := f1.trans hT.symm
      rw [← hT] at f2
      skip
      rw [IntWalk.i64_left] at f1 f2 f3'
      clear f3 hre e hp hn hr h0 h1 hd0 hd1
      clear hT
      go_enter Tryd.func95, Tryd.ntmps95
      go_wp2
      go_ret
      exact ⟨rfl, Or.inl ⟨HR.out.1, HR.out.2, by first | rfl | simp [f3']⟩⟩
  · have HR := Lib.hid hr
    rcases F2 hr with f | ⟨f1, f2, f3⟩
    · obtain ⟨T, hT⟩ : ∃ T, T = IntKind.i64.wrap (n * 10) := ⟨_, rfl⟩
      rw [← hT] at f
      have f1 := hT.symm
      obtain ⟨U, hU⟩ : ∃ U, U = IntKind.i64.wrap (T.tdiv 10) := ⟨_, rfl⟩
      rw [← hU] at f
      have f2 := hU.symm
      have q1 : (U != n) = true := bne_iff_ne.2 f
      skip
      rw [IntWalk.i64_left] at f1 f2
      clear F1 F2 hr hT hU hp hn h0 h1 hd0 hd1 f
      generalize stepD neg n d = r at HR ⊢
      go_enter Tryd.func95, Tryd.ntmps95
      go_wp2
      exact ⟨rfl, rfl, Or.inr ⟨HR.out, rfl⟩⟩
    · clear F1 F2
      cases neg
      · rw [if_neg (by decide)] at f3
        have e : stepD false n d = n * 10 + d := rfl
        obtain ⟨T, hT⟩ : ∃ T, T = n * 10 := ⟨_, rfl⟩
        obtain ⟨r, hre⟩ : ∃ r, r = IntKind.i64.wrap (T + d) := ⟨_, rfl⟩
        rw [e, ← hT, ← hre] at f3
        replace f1 : IntKind.i64.wrap (n * 10) = T := f1.trans hT.symm
        rw [← hT] at f2
        have f4 := hre.symm
        have q1 : ¬ T ≤ r := by omega
        skip
        rw [IntWalk.i64_left] at f1 f2 f4
        clear hr hre hp hn h0 h1 hd0 hd1 e
        clear hT
        generalize stepD false n d = r' at HR ⊢
        go_enter Tryd.func95, Tryd.ntmps95
        go_wp2
        exact ⟨rfl, rfl, Or.inr ⟨HR.out, rfl⟩⟩
      · rw [if_pos rfl] at f3
        have e : stepD true n d = n * 10 - d := rfl
        obtain ⟨T, hT⟩ : ∃ T, T = n * 10 := ⟨_, rfl⟩
        obtain ⟨r, hre⟩ : ∃ r, r = IntKind.i64.wrap (T - d) := ⟨_, rfl⟩
        rw [e, ← hT, ← hre] at f3
        replace f1 : IntKind.i64.wrap (n * 10) = T := f1.trans hT.symm
        rw [← hT] at f2
        have f4 := hre.symm
        have q1 : ¬ r ≤ T := by omega
        skip
        rw [IntWalk.i64_left] at f1 f2 f4
        clear hr hre hp hn h0 h1 hd0 hd1 e
        clear hT
        generalize stepD true n d = r' at HR ⊢
        go_enter Tryd.func95, Tryd.ntmps95
        go_wp2
        exact ⟨rfl, rfl, Or.inr ⟨HR.out, rfl⟩⟩
set_option maxHeartbeats 1000000 in
theorem put_int32 (n d : Int) (neg : Bool) (h0 : (-2147483648) ≤ n) (h1 : n ≤ 2147483647) (hd0 : 0 ≤ d) (hd1 : d ≤ 9) (hp : neg = false → 0 ≤ n) (hn : neg = true → n ≤ 0) (w : World) :
    Calls Tryd.prog 76 #[.int .i32 n, .int .i32 d, .bool neg] w fun e w' => w' = w ∧ PutSays .i32 (-2147483648) 2147483647 (stepD neg n d) e := by
  obtain ⟨F1, F2⟩ := facts_i32 n d neg h0 h1 hd0 hd1 hp hn
  by_cases hr : (-2147483648) ≤ stepD neg n d ∧ stepD neg n d ≤ 2147483647
  · obtain ⟨f1, f2, f3⟩ := F1 hr.1 hr.2
    have HR := Lib.hid hr
    clear F1 F2
    cases neg
    · have e : stepD false n d = n * 10 + d := rfl
      obtain ⟨r, hre⟩ : ∃ r, r = stepD false n d := ⟨_, rfl⟩
      obtain ⟨T, hT⟩ : ∃ T, T = n * 10 := ⟨_, rfl⟩
      rw [← hre] at f3 HR ⊢
      rw [hre, e, ← hT] at f3
      have q1 : decide (T ≤ T + d) = true := decide_eq_true (by omega)
      rw [show T + d = r from by rw [hre, e, hT]] at q1
      have f3' : IntKind.i32.wrap (T + d) = r := by rw [f3, hre, e, hT]
      replace f1 : IntKind.i32.wrap (n * 10) = T := f1.trans hT.symm
      rw [← hT] at f2
      have q2 : ¬ r < T := by have := of_decide_eq_true q1; omega
      have q3 : T ≤ r := of_decide_eq_true q1
      skip
      rw [IntWalk.i32_left] at f1 f2 f3'
      clear f3 hre e hp hn hr h0 h1 hd0 hd1
      clear hT
      go_enter Tryd.func76, Tryd.ntmps76
      go_wp2
      go_ret
      exact ⟨rfl, Or.inl ⟨HR.out.1, HR.out.2, by first | rfl | simp [f3']⟩⟩
    · have e : stepD true n d = n * 10 - d := rfl
      obtain ⟨r, hre⟩ : ∃ r, r = stepD true n d := ⟨_, rfl⟩
      obtain ⟨T, hT⟩ : ∃ T, T = n * 10 := ⟨_, rfl⟩
      rw [← hre] at f3 HR ⊢
      rw [hre, e, ← hT] at f3
      have q3 : r ≤ T := by rw [hre, e, hT]; omega
      have q4 : r ≤ 0 := by have := hn rfl; rw [hre, e]; omega
      have f3' : IntKind.i32.wrap (T - d) = r := by rw [f3, hre, e, hT]
      replace f1 : IntKind.i32.wrap (n * 10) = T := f1.trans hT.symm
      rw [← hT] at f2
      skip
      rw [IntWalk.i32_left] at f1 f2 f3'
      clear f3 hre e hp hn hr h0 h1 hd0 hd1
      clear hT
      go_enter Tryd.func76, Tryd.ntmps76
      go_wp2
      go_ret
      exact ⟨rfl, Or.inl ⟨HR.out.1, HR.out.2, by first | rfl | simp [f3']⟩⟩
  · have HR := Lib.hid hr
    rcases F2 hr with f | ⟨f1, f2, f3⟩
    · obtain ⟨T, hT⟩ : ∃ T, T = IntKind.i32.wrap (n * 10) := ⟨_, rfl⟩
      rw [← hT] at f
      have f1 := hT.symm
      obtain ⟨U, hU⟩ : ∃ U, U = IntKind.i32.wrap (T.tdiv 10) := ⟨_, rfl⟩
      rw [← hU] at f
      have f2 := hU.symm
      have q1 : (U != n) = true := bne_iff_ne.2 f
      skip
      rw [IntWalk.i32_left] at f1 f2
      clear F1 F2 hr hT hU hp hn h0 h1 hd0 hd1 f
      generalize stepD neg n d = r at HR ⊢
      go_enter Tryd.func76, Tryd.ntmps76
      go_wp2
      exact ⟨rfl, rfl, Or.inr ⟨HR.out, rfl⟩⟩
    · clear F1 F2
      cases neg
      · rw [if_neg (by decide)] at f3
        have e : stepD false n d = n * 10 + d := rfl
        obtain ⟨T, hT⟩ : ∃ T, T = n * 10 := ⟨_, rfl⟩
        obtain ⟨r, hre⟩ : ∃ r, r = IntKind.i32.wrap (T + d) := ⟨_, rfl⟩
        rw [e, ← hT, ← hre] at f3
        replace f1 : IntKind.i32.wrap (n * 10) = T := f1.trans hT.symm
        rw [← hT] at f2
        have f4 := hre.symm
        have q1 : ¬ T ≤ r := by omega
        skip
        rw [IntWalk.i32_left] at f1 f2 f4
        clear hr hre hp hn h0 h1 hd0 hd1 e
        clear hT
        generalize stepD false n d = r' at HR ⊢
        go_enter Tryd.func76, Tryd.ntmps76
        go_wp2
        exact ⟨rfl, rfl, Or.inr ⟨HR.out, rfl⟩⟩
      · rw [if_pos rfl] at f3
        have e : stepD true n d = n * 10 - d := rfl
        obtain ⟨T, hT⟩ : ∃ T, T = n * 10 := ⟨_, rfl⟩
        obtain ⟨r, hre⟩ : ∃ r, r = IntKind.i32.wrap (T - d) := ⟨_, rfl⟩
        rw [e, ← hT, ← hre] at f3
        replace f1 : IntKind.i32.wrap (n * 10) = T := f1.trans hT.symm
        rw [← hT] at f2
        have f4 := hre.symm
        have q1 : ¬ r ≤ T := by omega
        skip
        rw [IntWalk.i32_left] at f1 f2 f4
        clear hr hre hp hn h0 h1 hd0 hd1 e
        clear hT
        generalize stepD true n d = r' at HR ⊢
        go_enter Tryd.func76, Tryd.ntmps76
        go_wp2
        exact ⟨rfl, rfl, Or.inr ⟨HR.out, rfl⟩⟩
set_option maxHeartbeats 1000000 in
theorem put_int16 (n d : Int) (neg : Bool) (h0 : (-32768) ≤ n) (h1 : n ≤ 32767) (hd0 : 0 ≤ d) (hd1 : d ≤ 9) (hp : neg = false → 0 ≤ n) (hn : neg = true → n ≤ 0) (w : World) :
    Calls Tryd.prog 74 #[.int .i16 n, .int .i16 d, .bool neg] w fun e w' => w' = w ∧ PutSays .i16 (-32768) 32767 (stepD neg n d) e := by
  obtain ⟨F1, F2⟩ := facts_i16 n d neg h0 h1 hd0 hd1 hp hn
  by_cases hr : (-32768) ≤ stepD neg n d ∧ stepD neg n d ≤ 32767
  · obtain ⟨f1, f2, f3⟩ := F1 hr.1 hr.2
    have HR := Lib.hid hr
    clear F1 F2
    cases neg
    · have e : stepD false n d = n * 10 + d := rfl
      obtain ⟨r, hre⟩ : ∃ r, r = stepD false n d := ⟨_, rfl⟩
      obtain ⟨T, hT⟩ : ∃ T, T = n * 10 := ⟨_, rfl⟩
      rw [← hre] at f3 HR ⊢
      rw [hre, e, ← hT] at f3
      have q1 : decide (T ≤ T + d) = true := decide_eq_true (by omega)
      rw [show T + d = r from by rw [hre, e, hT]] at q1
      have f3' : IntKind.i16.wrap (T + d) = r := by rw [f3, hre, e, hT]
      replace f1 : IntKind.i16.wrap (n * 10) = T := f1.trans hT.symm
      rw [← hT] at f2
      have q2 : ¬ r < T := by have := of_decide_eq_true q1; omega
      have q3 : T ≤ r := of_decide_eq_true q1
      skip
      skip -- f1 f2 f3'
      clear f3 hre e hp hn hr h0 h1 hd0 hd1
      clear hT
      go_enter Tryd.func74, Tryd.ntmps74
      go_wp2
      go_ret
      exact ⟨rfl, Or.inl ⟨HR.out.1, HR.out.2, by first | rfl | simp [f3']⟩⟩
    · have e : stepD true n d = n * 10 - d := rfl
      obtain ⟨r, hre⟩ : ∃ r, r = stepD true n d := ⟨_, rfl⟩
      obtain ⟨T, hT⟩ : ∃ T, T = n * 10 := ⟨_, rfl⟩
      rw [← hre] at f3 HR ⊢
      rw [hre, e, ← hT] at f3
      have q3 : r ≤ T := by rw [hre, e, hT]; omega
      have q4 : r ≤ 0 := by have := hn rfl; rw [hre, e]; omega
      have f3' : IntKind.i16.wrap (T - d) = r := by rw [f3, hre, e, hT]
      replace f1 : IntKind.i16.wrap (n * 10) = T := f1.trans hT.symm
      rw [← hT] at f2
      skip
      skip -- f1 f2 f3'
      clear f3 hre e hp hn hr h0 h1 hd0 hd1
      clear hT
      go_enter Tryd.func74, Tryd.ntmps74
      go_wp2
      go_ret
      exact ⟨rfl, Or.inl ⟨HR.out.1, HR.out.2, by first | rfl | simp [f3']⟩⟩
  · have HR := Lib.hid hr
    rcases F2 hr with f | ⟨f1, f2, f3⟩
    · obtain ⟨T, hT⟩ : ∃ T, T = IntKind.i16.wrap (n * 10) := ⟨_, rfl⟩
      rw [← hT] at f
      have f1 := hT.symm
      obtain ⟨U, hU⟩ : ∃ U, U = IntKind.i16.wrap (T.tdiv 10) := ⟨_, rfl⟩
      rw [← hU] at f
      have f2 := hU.symm
      have q1 : (U != n) = true := bne_iff_ne.2 f
      skip
      skip -- f1 f2
      clear F1 F2 hr hT hU hp hn h0 h1 hd0 hd1 f
      generalize stepD neg n d = r at HR ⊢
      go_enter Tryd.func74, Tryd.ntmps74
      go_wp2
      exact ⟨rfl, rfl, Or.inr ⟨HR.out, rfl⟩⟩
    · clear F1 F2
      cases neg
      · rw [if_neg (by decide)] at f3
        have e : stepD false n d = n * 10 + d := rfl
        obtain ⟨T, hT⟩ : ∃ T, T = n * 10 := ⟨_, rfl⟩
        obtain ⟨r, hre⟩ : ∃ r, r = IntKind.i16.wrap (T + d) := ⟨_, rfl⟩
        rw [e, ← hT, ← hre] at f3
        replace f1 : IntKind.i16.wrap (n * 10) = T := f1.trans hT.symm
        rw [← hT] at f2
        have f4 := hre.symm
        have q1 : ¬ T ≤ r := by omega
        skip
        skip -- f1 f2 f4
        clear hr hre hp hn h0 h1 hd0 hd1 e
        clear hT
        generalize stepD false n d = r' at HR ⊢
        go_enter Tryd.func74, Tryd.ntmps74
        go_wp2
        exact ⟨rfl, rfl, Or.inr ⟨HR.out, rfl⟩⟩
      · rw [if_pos rfl] at f3
        have e : stepD true n d = n * 10 - d := rfl
        obtain ⟨T, hT⟩ : ∃ T, T = n * 10 := ⟨_, rfl⟩
        obtain ⟨r, hre⟩ : ∃ r, r = IntKind.i16.wrap (T - d) := ⟨_, rfl⟩
        rw [e, ← hT, ← hre] at f3
        replace f1 : IntKind.i16.wrap (n * 10) = T := f1.trans hT.symm
        rw [← hT] at f2
        have f4 := hre.symm
        have q1 : ¬ r ≤ T := by omega
        skip
        skip -- f1 f2 f4
        clear hr hre hp hn h0 h1 hd0 hd1 e
        clear hT
        generalize stepD true n d = r' at HR ⊢
        go_enter Tryd.func74, Tryd.ntmps74
        go_wp2
        exact ⟨rfl, rfl, Or.inr ⟨HR.out, rfl⟩⟩
set_option maxHeartbeats 1000000 in
theorem put_int8 (n d : Int) (neg : Bool) (h0 : (-128) ≤ n) (h1 : n ≤ 127) (hd0 : 0 ≤ d) (hd1 : d ≤ 9) (hp : neg = false → 0 ≤ n) (hn : neg = true → n ≤ 0) (w : World) :
    Calls Tryd.prog 72 #[.int .i8 n, .int .i8 d, .bool neg] w fun e w' => w' = w ∧ PutSays .i8 (-128) 127 (stepD neg n d) e := by
  obtain ⟨F1, F2⟩ := facts_i8 n d neg h0 h1 hd0 hd1 hp hn
  by_cases hr : (-128) ≤ stepD neg n d ∧ stepD neg n d ≤ 127
  · obtain ⟨f1, f2, f3⟩ := F1 hr.1 hr.2
    have HR := Lib.hid hr
    clear F1 F2
    cases neg
    · have e : stepD false n d = n * 10 + d := rfl
      obtain ⟨r, hre⟩ : ∃ r, r = stepD false n d := ⟨_, rfl⟩
      obtain ⟨T, hT⟩ : ∃ T, T = n * 10 := ⟨_, rfl⟩
      rw [← hre] at f3 HR ⊢
      rw [hre, e, ← hT] at f3
      have q1 : decide (T ≤ T + d) = true := decide_eq_true (by omega)
      rw [show T + d = r from by rw [hre, e, hT]] at q1
      have f3' : IntKind.i8.wrap (T + d) = r := by rw [f3, hre, e, hT]
      replace f1 : IntKind.i8.wrap (n * 10) = T := f1.trans hT.symm
      rw [← hT] at f2
      have q2 : ¬ r < T := by have := of_decide_eq_true q1; omega
      have q3 : T ≤ r := of_decide_eq_true q1
      skip
      skip -- f1 f2 f3'
      clear f3 hre e hp hn hr h0 h1 hd0 hd1
      clear hT
      go_enter Tryd.func72, Tryd.ntmps72
      go_wp2
      go_ret
      exact ⟨rfl, Or.inl ⟨HR.out.1, HR.out.2, by first | rfl | simp [f3']⟩⟩
    · have e : stepD true n d = n * 10 - d := rfl
      obtain ⟨r, hre⟩ : ∃ r, r = stepD true n d := ⟨_, rfl⟩
      obtain ⟨T, hT⟩ : ∃ T, T = n * 10 := ⟨_, rfl⟩
      rw [← hre] at f3 HR ⊢
      rw [hre, e, ← hT] at f3
      have q3 : r ≤ T := by rw [hre, e, hT]; omega
      have q4 : r ≤ 0 := by have := hn rfl; rw [hre, e]; omega
      have f3' : IntKind.i8.wrap (T - d) = r := by rw [f3, hre, e, hT]
      replace f1 : IntKind.i8.wrap (n * 10) = T := f1.trans hT.symm
      rw [← hT] at f2
      skip
      skip -- f1 f2 f3'
      clear f3 hre e hp hn hr h0 h1 hd0 hd1
      clear hT
      go_enter Tryd.func72, Tryd.ntmps72
      go_wp2
      go_ret
      exact ⟨rfl, Or.inl ⟨HR.out.1, HR.out.2, by first | rfl | simp [f3']⟩⟩
  · have HR := Lib.hid hr
    rcases F2 hr with f | ⟨f1, f2, f3⟩
    · obtain ⟨T, hT⟩ : ∃ T, T = IntKind.i8.wrap (n * 10) := ⟨_, rfl⟩
      rw [← hT] at f
      have f1 := hT.symm
      obtain ⟨U, hU⟩ : ∃ U, U = IntKind.i8.wrap (T.tdiv 10) := ⟨_, rfl⟩
      rw [← hU] at f
      have f2 := hU.symm
      have q1 : (U != n) = true := bne_iff_ne.2 f
      skip
      skip -- f1 f2
      clear F1 F2 hr hT hU hp hn h0 h1 hd0 hd1 f
      generalize stepD neg n d = r at HR ⊢
      go_enter Tryd.func72, Tryd.ntmps72
      go_wp2
      exact ⟨rfl, rfl, Or.inr ⟨HR.out, rfl⟩⟩
    · clear F1 F2
      cases neg
      · rw [if_neg (by decide)] at f3
        have e : stepD false n d = n * 10 + d := rfl
        obtain ⟨T, hT⟩ : ∃ T, T = n * 10 := ⟨_, rfl⟩
        obtain ⟨r, hre⟩ : ∃ r, r = IntKind.i8.wrap (T + d) := ⟨_, rfl⟩
        rw [e, ← hT, ← hre] at f3
        replace f1 : IntKind.i8.wrap (n * 10) = T := f1.trans hT.symm
        rw [← hT] at f2
        have f4 := hre.symm
        have q1 : ¬ T ≤ r := by omega
        skip
        skip -- f1 f2 f4
        clear hr hre hp hn h0 h1 hd0 hd1 e
        clear hT
        generalize stepD false n d = r' at HR ⊢
        go_enter Tryd.func72, Tryd.ntmps72
        go_wp2
        exact ⟨rfl, rfl, Or.inr ⟨HR.out, rfl⟩⟩
      · rw [if_pos rfl] at f3
        have e : stepD true n d = n * 10 - d := rfl
        obtain ⟨T, hT⟩ : ∃ T, T = n * 10 := ⟨_, rfl⟩
        obtain ⟨r, hre⟩ : ∃ r, r = IntKind.i8.wrap (T - d) := ⟨_, rfl⟩
        rw [e, ← hT, ← hre] at f3
        replace f1 : IntKind.i8.wrap (n * 10) = T := f1.trans hT.symm
        rw [← hT] at f2
        have f4 := hre.symm
        have q1 : ¬ r ≤ T := by omega
        skip
        skip -- f1 f2 f4
        clear hr hre hp hn h0 h1 hd0 hd1 e
        clear hT
        generalize stepD true n d = r' at HR ⊢
        go_enter Tryd.func72, Tryd.ntmps72
        go_wp2
        exact ⟨rfl, rfl, Or.inr ⟨HR.out, rfl⟩⟩
set_option maxHeartbeats 1000000 in
theorem put_Small (n d : Int) (neg : Bool) (h0 : (-128) ≤ n) (h1 : n ≤ 127) (hd0 : 0 ≤ d) (hd1 : d ≤ 9) (hp : neg = false → 0 ≤ n) (hn : neg = true → n ≤ 0) (w : World) :
    Calls Tryd.prog 91 #[.int .i8 n, .int .i8 d, .bool neg] w fun e w' => w' = w ∧ PutSays .i8 (-128) 127 (stepD neg n d) e := by
  obtain ⟨F1, F2⟩ := facts_i8 n d neg h0 h1 hd0 hd1 hp hn
  by_cases hr : (-128) ≤ stepD neg n d ∧ stepD neg n d ≤ 127
  · obtain ⟨f1, f2, f3⟩ := F1 hr.1 hr.2
    have HR := Lib.hid hr
    clear F1 F2
    cases neg
    · have e : stepD false n d = n * 10 + d := rfl
      obtain ⟨r, hre⟩ : ∃ r, r = stepD false n d := ⟨_, rfl⟩
      obtain ⟨T, hT⟩ : ∃ T, T = n * 10 := ⟨_, rfl⟩
      rw [← hre] at f3 HR ⊢
      rw [hre, e, ← hT] at f3
      have q1 : decide (T ≤ T + d) = true := decide_eq_true (by omega)
      rw [show T + d = r from by rw [hre, e, hT]] at q1
      have f3' : IntKind.i8.wrap (T + d) = r := by rw [f3, hre, e, hT]
      replace f1 : IntKind.i8.wrap (n * 10) = T := f1.trans hT.symm
      rw [← hT] at f2
      have q2 : ¬ r < T := by have := of_decide_eq_true q1; omega
      have q3 : T ≤ r := of_decide_eq_true q1
      skip
      skip -- f1 f2 f3'
      clear f3 hre e hp hn hr h0 h1 hd0 hd1
      clear hT
      go_enter Tryd.func91, Tryd.ntmps91
      go_wp2
      go_ret
      exact ⟨rfl, Or.inl ⟨HR.out.1, HR.out.2, by first | rfl | simp [f3']⟩⟩
    · have e : stepD true n d = n * 10 - d := rfl
      obtain ⟨r, hre⟩ : ∃ r, r = stepD true n d := ⟨_, rfl⟩
      obtain ⟨T, hT⟩ : ∃ T, T = n * 10 := ⟨_, rfl⟩
      rw [← hre] at f3 HR ⊢
      rw [hre, e, ← hT] at f3
      have q3 : r ≤ T := by rw [hre, e, hT]; omega
      have q4 : r ≤ 0 := by have := hn rfl; rw [hre, e]; omega
      have f3' : IntKind.i8.wrap (T - d) = r := by rw [f3, hre, e, hT]
      replace f1 : IntKind.i8.wrap (n * 10) = T := f1.trans hT.symm
      rw [← hT] at f2
      skip
      skip -- f1 f2 f3'
      clear f3 hre e hp hn hr h0 h1 hd0 hd1
      clear hT
      go_enter Tryd.func91, Tryd.ntmps91
      go_wp2
      go_ret
      exact ⟨rfl, Or.inl ⟨HR.out.1, HR.out.2, by first | rfl | simp [f3']⟩⟩
  · have HR := Lib.hid hr
    rcases F2 hr with f | ⟨f1, f2, f3⟩
    · obtain ⟨T, hT⟩ : ∃ T, T = IntKind.i8.wrap (n * 10) := ⟨_, rfl⟩
      rw [← hT] at f
      have f1 := hT.symm
      obtain ⟨U, hU⟩ : ∃ U, U = IntKind.i8.wrap (T.tdiv 10) := ⟨_, rfl⟩
      rw [← hU] at f
      have f2 := hU.symm
      have q1 : (U != n) = true := bne_iff_ne.2 f
      skip
      skip -- f1 f2
      clear F1 F2 hr hT hU hp hn h0 h1 hd0 hd1 f
      generalize stepD neg n d = r at HR ⊢
      go_enter Tryd.func91, Tryd.ntmps91
      go_wp2
      exact ⟨rfl, rfl, Or.inr ⟨HR.out, rfl⟩⟩
    · clear F1 F2
      cases neg
      · rw [if_neg (by decide)] at f3
        have e : stepD false n d = n * 10 + d := rfl
        obtain ⟨T, hT⟩ : ∃ T, T = n * 10 := ⟨_, rfl⟩
        obtain ⟨r, hre⟩ : ∃ r, r = IntKind.i8.wrap (T + d) := ⟨_, rfl⟩
        rw [e, ← hT, ← hre] at f3
        replace f1 : IntKind.i8.wrap (n * 10) = T := f1.trans hT.symm
        rw [← hT] at f2
        have f4 := hre.symm
        have q1 : ¬ T ≤ r := by omega
        skip
        skip -- f1 f2 f4
        clear hr hre hp hn h0 h1 hd0 hd1 e
        clear hT
        generalize stepD false n d = r' at HR ⊢
        go_enter Tryd.func91, Tryd.ntmps91
        go_wp2
        exact ⟨rfl, rfl, Or.inr ⟨HR.out, rfl⟩⟩
      · rw [if_pos rfl] at f3
        have e : stepD true n d = n * 10 - d := rfl
        obtain ⟨T, hT⟩ : ∃ T, T = n * 10 := ⟨_, rfl⟩
        obtain ⟨r, hre⟩ : ∃ r, r = IntKind.i8.wrap (T - d) := ⟨_, rfl⟩
        rw [e, ← hT, ← hre] at f3
        replace f1 : IntKind.i8.wrap (n * 10) = T := f1.trans hT.symm
        rw [← hT] at f2
        have f4 := hre.symm
        have q1 : ¬ r ≤ T := by omega
        skip
        skip -- f1 f2 f4
        clear hr hre hp hn h0 h1 hd0 hd1 e
        clear hT
        generalize stepD true n d = r' at HR ⊢
        go_enter Tryd.func91, Tryd.ntmps91
        go_wp2
        exact ⟨rfl, rfl, Or.inr ⟨HR.out, rfl⟩⟩
end Go.Proofs.YtkjmbibnfohkjaaDoor

/- whole.put of some types: the next digit, or the panic of too much. Printed by genput.py. -/
namespace Go.Proofs.YtkjmbibnfohkjaaDoor
open Go.RowKit Go.Proofs.YtkjmbibnfohkjaaDoor.Whole
set_option linter.unusedVariables false
set_option maxHeartbeats 1000000 in
theorem put_uint64 (n d : Int) (neg : Bool) (h0 : 0 ≤ n) (h1 : n ≤ 18446744073709551615) (hd0 : 0 ≤ d) (hd1 : d ≤ 9) (hp : neg = false → 0 ≤ n) (hn : neg = true → n ≤ 0) (w : World) :
    Calls Tryd.prog 86 #[.int .u64 n, .int .u64 d, .bool neg] w fun e w' => w' = w ∧ PutSays .u64 0 18446744073709551615 (stepD neg n d) e := by
  obtain ⟨F1, F2⟩ := facts_u64 n d neg h0 h1 hd0 hd1 hp hn
  by_cases hr : 0 ≤ stepD neg n d ∧ stepD neg n d ≤ 18446744073709551615
  · obtain ⟨f1, f2, f3⟩ := F1 hr.1 hr.2
    have HR := Lib.hid hr
    clear F1 F2
    cases neg
    · have e : stepD false n d = n * 10 + d := rfl
      obtain ⟨r, hre⟩ : ∃ r, r = stepD false n d := ⟨_, rfl⟩
      obtain ⟨T, hT⟩ : ∃ T, T = n * 10 := ⟨_, rfl⟩
      rw [← hre] at f3 HR ⊢
      rw [hre, e, ← hT] at f3
      have q1 : decide (T ≤ T + d) = true := decide_eq_true (by omega)
      rw [show T + d = r from by rw [hre, e, hT]] at q1
      have f3' : IntKind.u64.wrap (T + d) = r := by rw [f3, hre, e, hT]
      replace f1 : IntKind.u64.wrap (n * 10) = T := f1.trans hT.symm
      rw [← hT] at f2
      have q2 : ¬ r < T := by have := of_decide_eq_true q1; omega
      have q3 : T ≤ r := of_decide_eq_true q1
      skip
      skip -- f1 f2 f3'
      clear f3 hre e hp hn hr h0 h1 hd0 hd1
      clear hT
      go_enter Tryd.func86, Tryd.ntmps86
      go_wp2
      go_ret
      exact ⟨rfl, Or.inl ⟨HR.out.1, HR.out.2, by first | rfl | simp [f3']⟩⟩
    · have e : stepD true n d = n * 10 - d := rfl
      obtain ⟨r, hre⟩ : ∃ r, r = stepD true n d := ⟨_, rfl⟩
      obtain ⟨T, hT⟩ : ∃ T, T = n * 10 := ⟨_, rfl⟩
      rw [← hre] at f3 HR ⊢
      rw [hre, e, ← hT] at f3
      have q3 : r ≤ T := by rw [hre, e, hT]; omega
      have q4 : r ≤ 0 := by have := hn rfl; rw [hre, e]; omega
      have f3' : IntKind.u64.wrap (T - d) = r := by rw [f3, hre, e, hT]
      replace f1 : IntKind.u64.wrap (n * 10) = T := f1.trans hT.symm
      rw [← hT] at f2
      skip
      skip -- f1 f2 f3'
      clear f3 hre e hp hn hr h0 h1 hd0 hd1
      clear hT
      go_enter Tryd.func86, Tryd.ntmps86
      go_wp2
      go_ret
      exact ⟨rfl, Or.inl ⟨HR.out.1, HR.out.2, by first | rfl | simp [f3']⟩⟩
  · have HR := Lib.hid hr
    rcases F2 hr with f | ⟨f1, f2, f3⟩
    · obtain ⟨T, hT⟩ : ∃ T, T = IntKind.u64.wrap (n * 10) := ⟨_, rfl⟩
      rw [← hT] at f
      have f1 := hT.symm
      obtain ⟨U, hU⟩ : ∃ U, U = IntKind.u64.wrap (T.tdiv 10) := ⟨_, rfl⟩
      rw [← hU] at f
      have f2 := hU.symm
      have q1 : (U != n) = true := bne_iff_ne.2 f
      skip
      skip -- f1 f2
      clear F1 F2 hr hT hU hp hn h0 h1 hd0 hd1 f
      generalize stepD neg n d = r at HR ⊢
      go_enter Tryd.func86, Tryd.ntmps86
      go_wp2
      exact ⟨rfl, rfl, Or.inr ⟨HR.out, rfl⟩⟩
    · clear F1 F2
      cases neg
      · rw [if_neg (by decide)] at f3
        have e : stepD false n d = n * 10 + d := rfl
        obtain ⟨T, hT⟩ : ∃ T, T = n * 10 := ⟨_, rfl⟩
        obtain ⟨r, hre⟩ : ∃ r, r = IntKind.u64.wrap (T + d) := ⟨_, rfl⟩
        rw [e, ← hT, ← hre] at f3
        replace f1 : IntKind.u64.wrap (n * 10) = T := f1.trans hT.symm
        rw [← hT] at f2
        have f4 := hre.symm
        have q1 : ¬ T ≤ r := by omega
        skip
        skip -- f1 f2 f4
        clear hr hre hp hn h0 h1 hd0 hd1 e
        clear hT
        generalize stepD false n d = r' at HR ⊢
        go_enter Tryd.func86, Tryd.ntmps86
        go_wp2
        exact ⟨rfl, rfl, Or.inr ⟨HR.out, rfl⟩⟩
      · rw [if_pos rfl] at f3
        have e : stepD true n d = n * 10 - d := rfl
        obtain ⟨T, hT⟩ : ∃ T, T = n * 10 := ⟨_, rfl⟩
        obtain ⟨r, hre⟩ : ∃ r, r = IntKind.u64.wrap (T - d) := ⟨_, rfl⟩
        rw [e, ← hT, ← hre] at f3
        replace f1 : IntKind.u64.wrap (n * 10) = T := f1.trans hT.symm
        rw [← hT] at f2
        have f4 := hre.symm
        have q1 : ¬ r ≤ T := by omega
        skip
        skip -- f1 f2 f4
        clear hr hre hp hn h0 h1 hd0 hd1 e
        clear hT
        generalize stepD true n d = r' at HR ⊢
        go_enter Tryd.func86, Tryd.ntmps86
        go_wp2
        exact ⟨rfl, rfl, Or.inr ⟨HR.out, rfl⟩⟩
set_option maxHeartbeats 1000000 in
theorem put_uint (n d : Int) (neg : Bool) (h0 : 0 ≤ n) (h1 : n ≤ 18446744073709551615) (hd0 : 0 ≤ d) (hd1 : d ≤ 9) (hp : neg = false → 0 ≤ n) (hn : neg = true → n ≤ 0) (w : World) :
    Calls Tryd.prog 99 #[.int .u64 n, .int .u64 d, .bool neg] w fun e w' => w' = w ∧ PutSays .u64 0 18446744073709551615 (stepD neg n d) e := by
  obtain ⟨F1, F2⟩ := facts_u64 n d neg h0 h1 hd0 hd1 hp hn
  by_cases hr : 0 ≤ stepD neg n d ∧ stepD neg n d ≤ 18446744073709551615
  · obtain ⟨f1, f2, f3⟩ := F1 hr.1 hr.2
    have HR := Lib.hid hr
    clear F1 F2
    cases neg
    · have e : stepD false n d = n * 10 + d := rfl
      obtain ⟨r, hre⟩ : ∃ r, r = stepD false n d := ⟨_, rfl⟩
      obtain ⟨T, hT⟩ : ∃ T, T = n * 10 := ⟨_, rfl⟩
      rw [← hre] at f3 HR ⊢
      rw [hre, e, ← hT] at f3
      have q1 : decide (T ≤ T + d) = true := decide_eq_true (by omega)
      rw [show T + d = r from by rw [hre, e, hT]] at q1
      have f3' : IntKind.u64.wrap (T + d) = r := by rw [f3, hre, e, hT]
      replace f1 : IntKind.u64.wrap (n * 10) = T := f1.trans hT.symm
      rw [← hT] at f2
      have q2 : ¬ r < T := by have := of_decide_eq_true q1; omega
      have q3 : T ≤ r := of_decide_eq_true q1
      skip
      skip -- f1 f2 f3'
      clear f3 hre e hp hn hr h0 h1 hd0 hd1
      clear hT
      go_enter Tryd.func99, Tryd.ntmps99
      go_wp2
      go_ret
      exact ⟨rfl, Or.inl ⟨HR.out.1, HR.out.2, by first | rfl | simp [f3']⟩⟩
    · have e : stepD true n d = n * 10 - d := rfl
      obtain ⟨r, hre⟩ : ∃ r, r = stepD true n d := ⟨_, rfl⟩
      obtain ⟨T, hT⟩ : ∃ T, T = n * 10 := ⟨_, rfl⟩
      rw [← hre] at f3 HR ⊢
      rw [hre, e, ← hT] at f3
      have q3 : r ≤ T := by rw [hre, e, hT]; omega
      have q4 : r ≤ 0 := by have := hn rfl; rw [hre, e]; omega
      have f3' : IntKind.u64.wrap (T - d) = r := by rw [f3, hre, e, hT]
      replace f1 : IntKind.u64.wrap (n * 10) = T := f1.trans hT.symm
      rw [← hT] at f2
      skip
      skip -- f1 f2 f3'
      clear f3 hre e hp hn hr h0 h1 hd0 hd1
      clear hT
      go_enter Tryd.func99, Tryd.ntmps99
      go_wp2
      go_ret
      exact ⟨rfl, Or.inl ⟨HR.out.1, HR.out.2, by first | rfl | simp [f3']⟩⟩
  · have HR := Lib.hid hr
    rcases F2 hr with f | ⟨f1, f2, f3⟩
    · obtain ⟨T, hT⟩ : ∃ T, T = IntKind.u64.wrap (n * 10) := ⟨_, rfl⟩
      rw [← hT] at f
      have f1 := hT.symm
      obtain ⟨U, hU⟩ : ∃ U, U = IntKind.u64.wrap (T.tdiv 10) := ⟨_, rfl⟩
      rw [← hU] at f
      have f2 := hU.symm
      have q1 : (U != n) = true := bne_iff_ne.2 f
      skip
      skip -- f1 f2
      clear F1 F2 hr hT hU hp hn h0 h1 hd0 hd1 f
      generalize stepD neg n d = r at HR ⊢
      go_enter Tryd.func99, Tryd.ntmps99
      go_wp2
      exact ⟨rfl, rfl, Or.inr ⟨HR.out, rfl⟩⟩
    · clear F1 F2
      cases neg
      · rw [if_neg (by decide)] at f3
        have e : stepD false n d = n * 10 + d := rfl
        obtain ⟨T, hT⟩ : ∃ T, T = n * 10 := ⟨_, rfl⟩
        obtain ⟨r, hre⟩ : ∃ r, r = IntKind.u64.wrap (T + d) := ⟨_, rfl⟩
        rw [e, ← hT, ← hre] at f3
        replace f1 : IntKind.u64.wrap (n * 10) = T := f1.trans hT.symm
        rw [← hT] at f2
        have f4 := hre.symm
        have q1 : ¬ T ≤ r := by omega
        skip
        skip -- f1 f2 f4
        clear hr hre hp hn h0 h1 hd0 hd1 e
        clear hT
        generalize stepD false n d = r' at HR ⊢
        go_enter Tryd.func99, Tryd.ntmps99
        go_wp2
        exact ⟨rfl, rfl, Or.inr ⟨HR.out, rfl⟩⟩
      · rw [if_pos rfl] at f3
        have e : stepD true n d = n * 10 - d := rfl
        obtain ⟨T, hT⟩ : ∃ T, T = n * 10 := ⟨_, rfl⟩
        obtain ⟨r, hre⟩ : ∃ r, r = IntKind.u64.wrap (T - d) := ⟨_, rfl⟩
        rw [e, ← hT, ← hre] at f3
        replace f1 : IntKind.u64.wrap (n * 10) = T := f1.trans hT.symm
        rw [← hT] at f2
        have f4 := hre.symm
        have q1 : ¬ r ≤ T := by omega
        skip
        skip -- f1 f2 f4
        clear hr hre hp hn h0 h1 hd0 hd1 e
        clear hT
        generalize stepD true n d = r' at HR ⊢
        go_enter Tryd.func99, Tryd.ntmps99
        go_wp2
        exact ⟨rfl, rfl, Or.inr ⟨HR.out, rfl⟩⟩
set_option maxHeartbeats 1000000 in
theorem put_Long (n d : Int) (neg : Bool) (h0 : 0 ≤ n) (h1 : n ≤ 18446744073709551615) (hd0 : 0 ≤ d) (hd1 : d ≤ 9) (hp : neg = false → 0 ≤ n) (hn : neg = true → n ≤ 0) (w : World) :
    Calls Tryd.prog 101 #[.int .u64 n, .int .u64 d, .bool neg] w fun e w' => w' = w ∧ PutSays .u64 0 18446744073709551615 (stepD neg n d) e := by
  obtain ⟨F1, F2⟩ := facts_u64 n d neg h0 h1 hd0 hd1 hp hn
  by_cases hr : 0 ≤ stepD neg n d ∧ stepD neg n d ≤ 18446744073709551615
  · obtain ⟨f1, f2, f3⟩ := F1 hr.1 hr.2
    have HR := Lib.hid hr
    clear F1 F2
    cases neg
    · have e : stepD false n d = n * 10 + d := rfl
      obtain ⟨r, hre⟩ : ∃ r, r = stepD false n d := ⟨_, rfl⟩
      obtain ⟨T, hT⟩ : ∃ T, T = n * 10 := ⟨_, rfl⟩
      rw [← hre] at f3 HR ⊢
      rw [hre, e, ← hT] at f3
      have q1 : decide (T ≤ T + d) = true := decide_eq_true (by omega)
      rw [show T + d = r from by rw [hre, e, hT]] at q1
      have f3' : IntKind.u64.wrap (T + d) = r := by rw [f3, hre, e, hT]
      replace f1 : IntKind.u64.wrap (n * 10) = T := f1.trans hT.symm
      rw [← hT] at f2
      have q2 : ¬ r < T := by have := of_decide_eq_true q1; omega
      have q3 : T ≤ r := of_decide_eq_true q1
      skip
      skip -- f1 f2 f3'
      clear f3 hre e hp hn hr h0 h1 hd0 hd1
      clear hT
      go_enter Tryd.func101, Tryd.ntmps101
      go_wp2
      go_ret
      exact ⟨rfl, Or.inl ⟨HR.out.1, HR.out.2, by first | rfl | simp [f3']⟩⟩
    · have e : stepD true n d = n * 10 - d := rfl
      obtain ⟨r, hre⟩ : ∃ r, r = stepD true n d := ⟨_, rfl⟩
      obtain ⟨T, hT⟩ : ∃ T, T = n * 10 := ⟨_, rfl⟩
      rw [← hre] at f3 HR ⊢
      rw [hre, e, ← hT] at f3
      have q3 : r ≤ T := by rw [hre, e, hT]; omega
      have q4 : r ≤ 0 := by have := hn rfl; rw [hre, e]; omega
      have f3' : IntKind.u64.wrap (T - d) = r := by rw [f3, hre, e, hT]
      replace f1 : IntKind.u64.wrap (n * 10) = T := f1.trans hT.symm
      rw [← hT] at f2
      skip
      skip -- f1 f2 f3'
      clear f3 hre e hp hn hr h0 h1 hd0 hd1
      clear hT
      go_enter Tryd.func101, Tryd.ntmps101
      go_wp2
      go_ret
      exact ⟨rfl, Or.inl ⟨HR.out.1, HR.out.2, by first | rfl | simp [f3']⟩⟩
  · have HR := Lib.hid hr
    rcases F2 hr with f | ⟨f1, f2, f3⟩
    · obtain ⟨T, hT⟩ : ∃ T, T = IntKind.u64.wrap (n * 10) := ⟨_, rfl⟩
      rw [← hT] at f
      have f1 := hT.symm
      obtain ⟨U, hU⟩ : ∃ U, U = IntKind.u64.wrap (T.tdiv 10) := ⟨_, rfl⟩
      rw [← hU] at f
      have f2 := hU.symm
      have q1 : (U != n) = true := bne_iff_ne.2 f
      skip
      skip -- f1 f2
      clear F1 F2 hr hT hU hp hn h0 h1 hd0 hd1 f
      generalize stepD neg n d = r at HR ⊢
      go_enter Tryd.func101, Tryd.ntmps101
      go_wp2
      exact ⟨rfl, rfl, Or.inr ⟨HR.out, rfl⟩⟩
    · clear F1 F2
      cases neg
      · rw [if_neg (by decide)] at f3
        have e : stepD false n d = n * 10 + d := rfl
        obtain ⟨T, hT⟩ : ∃ T, T = n * 10 := ⟨_, rfl⟩
        obtain ⟨r, hre⟩ : ∃ r, r = IntKind.u64.wrap (T + d) := ⟨_, rfl⟩
        rw [e, ← hT, ← hre] at f3
        replace f1 : IntKind.u64.wrap (n * 10) = T := f1.trans hT.symm
        rw [← hT] at f2
        have f4 := hre.symm
        have q1 : ¬ T ≤ r := by omega
        skip
        skip -- f1 f2 f4
        clear hr hre hp hn h0 h1 hd0 hd1 e
        clear hT
        generalize stepD false n d = r' at HR ⊢
        go_enter Tryd.func101, Tryd.ntmps101
        go_wp2
        exact ⟨rfl, rfl, Or.inr ⟨HR.out, rfl⟩⟩
      · rw [if_pos rfl] at f3
        have e : stepD true n d = n * 10 - d := rfl
        obtain ⟨T, hT⟩ : ∃ T, T = n * 10 := ⟨_, rfl⟩
        obtain ⟨r, hre⟩ : ∃ r, r = IntKind.u64.wrap (T - d) := ⟨_, rfl⟩
        rw [e, ← hT, ← hre] at f3
        replace f1 : IntKind.u64.wrap (n * 10) = T := f1.trans hT.symm
        rw [← hT] at f2
        have f4 := hre.symm
        have q1 : ¬ r ≤ T := by omega
        skip
        skip -- f1 f2 f4
        clear hr hre hp hn h0 h1 hd0 hd1 e
        clear hT
        generalize stepD true n d = r' at HR ⊢
        go_enter Tryd.func101, Tryd.ntmps101
        go_wp2
        exact ⟨rfl, rfl, Or.inr ⟨HR.out, rfl⟩⟩
set_option maxHeartbeats 1000000 in
theorem put_uint32 (n d : Int) (neg : Bool) (h0 : 0 ≤ n) (h1 : n ≤ 4294967295) (hd0 : 0 ≤ d) (hd1 : d ≤ 9) (hp : neg = false → 0 ≤ n) (hn : neg = true → n ≤ 0) (w : World) :
    Calls Tryd.prog 84 #[.int .u32 n, .int .u32 d, .bool neg] w fun e w' => w' = w ∧ PutSays .u32 0 4294967295 (stepD neg n d) e := by
  obtain ⟨F1, F2⟩ := facts_u32 n d neg h0 h1 hd0 hd1 hp hn
  by_cases hr : 0 ≤ stepD neg n d ∧ stepD neg n d ≤ 4294967295
  · obtain ⟨f1, f2, f3⟩ := F1 hr.1 hr.2
    have HR := Lib.hid hr
    clear F1 F2
    cases neg
    · have e : stepD false n d = n * 10 + d := rfl
      obtain ⟨r, hre⟩ : ∃ r, r = stepD false n d := ⟨_, rfl⟩
      obtain ⟨T, hT⟩ : ∃ T, T = n * 10 := ⟨_, rfl⟩
      rw [← hre] at f3 HR ⊢
      rw [hre, e, ← hT] at f3
      have q1 : decide (T ≤ T + d) = true := decide_eq_true (by omega)
      rw [show T + d = r from by rw [hre, e, hT]] at q1
      have f3' : IntKind.u32.wrap (T + d) = r := by rw [f3, hre, e, hT]
      replace f1 : IntKind.u32.wrap (n * 10) = T := f1.trans hT.symm
      rw [← hT] at f2
      have q2 : ¬ r < T := by have := of_decide_eq_true q1; omega
      have q3 : T ≤ r := of_decide_eq_true q1
      have hT0 := (spec_u32 (n * 10)).1; have hT1 := (spec_u32 (n * 10)).2.1; rw [f1] at hT0 hT1; rw [Int.tdiv_eq_ediv_of_nonneg hT0, IntWalk.u32_in _ (by omega)] at f2; clear hT0 hT1
      rw [IntKind.wrap_u32] at f1 f3'
      clear f3 hre e hp hn hr h0 h1 hd0 hd1
      subst hT
      go_enter Tryd.func84, Tryd.ntmps84
      go_wp2
      go_ret
      exact ⟨rfl, Or.inl ⟨HR.out.1, HR.out.2, by first | rfl | simp [f3']⟩⟩
    · have e : stepD true n d = n * 10 - d := rfl
      obtain ⟨r, hre⟩ : ∃ r, r = stepD true n d := ⟨_, rfl⟩
      obtain ⟨T, hT⟩ : ∃ T, T = n * 10 := ⟨_, rfl⟩
      rw [← hre] at f3 HR ⊢
      rw [hre, e, ← hT] at f3
      have q3 : r ≤ T := by rw [hre, e, hT]; omega
      have q4 : r ≤ 0 := by have := hn rfl; rw [hre, e]; omega
      have f3' : IntKind.u32.wrap (T - d) = r := by rw [f3, hre, e, hT]
      replace f1 : IntKind.u32.wrap (n * 10) = T := f1.trans hT.symm
      rw [← hT] at f2
      have hT0 := (spec_u32 (n * 10)).1; have hT1 := (spec_u32 (n * 10)).2.1; rw [f1] at hT0 hT1; rw [Int.tdiv_eq_ediv_of_nonneg hT0, IntWalk.u32_in _ (by omega)] at f2; clear hT0 hT1
      rw [IntKind.wrap_u32] at f1 f3'
      clear f3 hre e hp hn hr h0 h1 hd0 hd1
      subst hT
      go_enter Tryd.func84, Tryd.ntmps84
      go_wp2
      go_ret
      exact ⟨rfl, Or.inl ⟨HR.out.1, HR.out.2, by first | rfl | simp [f3']⟩⟩
  · have HR := Lib.hid hr
    rcases F2 hr with f | ⟨f1, f2, f3⟩
    · obtain ⟨T, hT⟩ : ∃ T, T = IntKind.u32.wrap (n * 10) := ⟨_, rfl⟩
      rw [← hT] at f
      have f1 := hT.symm
      obtain ⟨U, hU⟩ : ∃ U, U = IntKind.u32.wrap (T.tdiv 10) := ⟨_, rfl⟩
      rw [← hU] at f
      have f2 := hU.symm
      have q1 : (U != n) = true := bne_iff_ne.2 f
      have hT0 := (spec_u32 (n * 10)).1; have hT1 := (spec_u32 (n * 10)).2.1; rw [f1] at hT0 hT1; rw [Int.tdiv_eq_ediv_of_nonneg hT0, IntWalk.u32_in _ (by omega)] at f2; clear hT0 hT1
      rw [IntKind.wrap_u32] at f1
      clear F1 F2 hr hT hU hp hn h0 h1 hd0 hd1 f
      generalize stepD neg n d = r at HR ⊢
      go_enter Tryd.func84, Tryd.ntmps84
      go_wp2
      exact ⟨rfl, rfl, Or.inr ⟨HR.out, rfl⟩⟩
    · clear F1 F2
      cases neg
      · rw [if_neg (by decide)] at f3
        have e : stepD false n d = n * 10 + d := rfl
        obtain ⟨T, hT⟩ : ∃ T, T = n * 10 := ⟨_, rfl⟩
        obtain ⟨r, hre⟩ : ∃ r, r = IntKind.u32.wrap (T + d) := ⟨_, rfl⟩
        rw [e, ← hT, ← hre] at f3
        replace f1 : IntKind.u32.wrap (n * 10) = T := f1.trans hT.symm
        rw [← hT] at f2
        have f4 := hre.symm
        have q1 : ¬ T ≤ r := by omega
        have hT0 := (spec_u32 (n * 10)).1; have hT1 := (spec_u32 (n * 10)).2.1; rw [f1] at hT0 hT1; rw [Int.tdiv_eq_ediv_of_nonneg hT0, IntWalk.u32_in _ (by omega)] at f2; clear hT0 hT1
        rw [IntKind.wrap_u32] at f1 f4
        clear hr hre hp hn h0 h1 hd0 hd1 e
        subst hT
        generalize stepD false n d = r' at HR ⊢
        go_enter Tryd.func84, Tryd.ntmps84
        go_wp2
        exact ⟨rfl, rfl, Or.inr ⟨HR.out, rfl⟩⟩
      · rw [if_pos rfl] at f3
        have e : stepD true n d = n * 10 - d := rfl
        obtain ⟨T, hT⟩ : ∃ T, T = n * 10 := ⟨_, rfl⟩
        obtain ⟨r, hre⟩ : ∃ r, r = IntKind.u32.wrap (T - d) := ⟨_, rfl⟩
        rw [e, ← hT, ← hre] at f3
        replace f1 : IntKind.u32.wrap (n * 10) = T := f1.trans hT.symm
        rw [← hT] at f2
        have f4 := hre.symm
        have q1 : ¬ r ≤ T := by omega
        have hT0 := (spec_u32 (n * 10)).1; have hT1 := (spec_u32 (n * 10)).2.1; rw [f1] at hT0 hT1; rw [Int.tdiv_eq_ediv_of_nonneg hT0, IntWalk.u32_in _ (by omega)] at f2; clear hT0 hT1
        rw [IntKind.wrap_u32] at f1 f4
        clear hr hre hp hn h0 h1 hd0 hd1 e
        subst hT
        generalize stepD true n d = r' at HR ⊢
        go_enter Tryd.func84, Tryd.ntmps84
        go_wp2
        exact ⟨rfl, rfl, Or.inr ⟨HR.out, rfl⟩⟩
set_option maxHeartbeats 1000000 in
theorem put_uint16 (n d : Int) (neg : Bool) (h0 : 0 ≤ n) (h1 : n ≤ 65535) (hd0 : 0 ≤ d) (hd1 : d ≤ 9) (hp : neg = false → 0 ≤ n) (hn : neg = true → n ≤ 0) (w : World) :
    Calls Tryd.prog 82 #[.int .u16 n, .int .u16 d, .bool neg] w fun e w' => w' = w ∧ PutSays .u16 0 65535 (stepD neg n d) e := by
  obtain ⟨F1, F2⟩ := facts_u16 n d neg h0 h1 hd0 hd1 hp hn
  by_cases hr : 0 ≤ stepD neg n d ∧ stepD neg n d ≤ 65535
  · obtain ⟨f1, f2, f3⟩ := F1 hr.1 hr.2
    have HR := Lib.hid hr
    clear F1 F2
    cases neg
    · have e : stepD false n d = n * 10 + d := rfl
      obtain ⟨r, hre⟩ : ∃ r, r = stepD false n d := ⟨_, rfl⟩
      obtain ⟨T, hT⟩ : ∃ T, T = n * 10 := ⟨_, rfl⟩
      rw [← hre] at f3 HR ⊢
      rw [hre, e, ← hT] at f3
      have q1 : decide (T ≤ T + d) = true := decide_eq_true (by omega)
      rw [show T + d = r from by rw [hre, e, hT]] at q1
      have f3' : IntKind.u16.wrap (T + d) = r := by rw [f3, hre, e, hT]
      replace f1 : IntKind.u16.wrap (n * 10) = T := f1.trans hT.symm
      rw [← hT] at f2
      have q2 : ¬ r < T := by have := of_decide_eq_true q1; omega
      have q3 : T ≤ r := of_decide_eq_true q1
      skip
      skip -- f1 f2 f3'
      clear f3 hre e hp hn hr h0 h1 hd0 hd1
      clear hT
      go_enter Tryd.func82, Tryd.ntmps82
      go_wp2
      go_ret
      exact ⟨rfl, Or.inl ⟨HR.out.1, HR.out.2, by first | rfl | simp [f3']⟩⟩
    · have e : stepD true n d = n * 10 - d := rfl
      obtain ⟨r, hre⟩ : ∃ r, r = stepD true n d := ⟨_, rfl⟩
      obtain ⟨T, hT⟩ : ∃ T, T = n * 10 := ⟨_, rfl⟩
      rw [← hre] at f3 HR ⊢
      rw [hre, e, ← hT] at f3
      have q3 : r ≤ T := by rw [hre, e, hT]; omega
      have q4 : r ≤ 0 := by have := hn rfl; rw [hre, e]; omega
      have f3' : IntKind.u16.wrap (T - d) = r := by rw [f3, hre, e, hT]
      replace f1 : IntKind.u16.wrap (n * 10) = T := f1.trans hT.symm
      rw [← hT] at f2
      skip
      skip -- f1 f2 f3'
      clear f3 hre e hp hn hr h0 h1 hd0 hd1
      clear hT
      go_enter Tryd.func82, Tryd.ntmps82
      go_wp2
      go_ret
      exact ⟨rfl, Or.inl ⟨HR.out.1, HR.out.2, by first | rfl | simp [f3']⟩⟩
  · have HR := Lib.hid hr
    rcases F2 hr with f | ⟨f1, f2, f3⟩
    · obtain ⟨T, hT⟩ : ∃ T, T = IntKind.u16.wrap (n * 10) := ⟨_, rfl⟩
      rw [← hT] at f
      have f1 := hT.symm
      obtain ⟨U, hU⟩ : ∃ U, U = IntKind.u16.wrap (T.tdiv 10) := ⟨_, rfl⟩
      rw [← hU] at f
      have f2 := hU.symm
      have q1 : (U != n) = true := bne_iff_ne.2 f
      skip
      skip -- f1 f2
      clear F1 F2 hr hT hU hp hn h0 h1 hd0 hd1 f
      generalize stepD neg n d = r at HR ⊢
      go_enter Tryd.func82, Tryd.ntmps82
      go_wp2
      exact ⟨rfl, rfl, Or.inr ⟨HR.out, rfl⟩⟩
    · clear F1 F2
      cases neg
      · rw [if_neg (by decide)] at f3
        have e : stepD false n d = n * 10 + d := rfl
        obtain ⟨T, hT⟩ : ∃ T, T = n * 10 := ⟨_, rfl⟩
        obtain ⟨r, hre⟩ : ∃ r, r = IntKind.u16.wrap (T + d) := ⟨_, rfl⟩
        rw [e, ← hT, ← hre] at f3
        replace f1 : IntKind.u16.wrap (n * 10) = T := f1.trans hT.symm
        rw [← hT] at f2
        have f4 := hre.symm
        have q1 : ¬ T ≤ r := by omega
        skip
        skip -- f1 f2 f4
        clear hr hre hp hn h0 h1 hd0 hd1 e
        clear hT
        generalize stepD false n d = r' at HR ⊢
        go_enter Tryd.func82, Tryd.ntmps82
        go_wp2
        exact ⟨rfl, rfl, Or.inr ⟨HR.out, rfl⟩⟩
      · rw [if_pos rfl] at f3
        have e : stepD true n d = n * 10 - d := rfl
        obtain ⟨T, hT⟩ : ∃ T, T = n * 10 := ⟨_, rfl⟩
        obtain ⟨r, hre⟩ : ∃ r, r = IntKind.u16.wrap (T - d) := ⟨_, rfl⟩
        rw [e, ← hT, ← hre] at f3
        replace f1 : IntKind.u16.wrap (n * 10) = T := f1.trans hT.symm
        rw [← hT] at f2
        have f4 := hre.symm
        have q1 : ¬ r ≤ T := by omega
        skip
        skip -- f1 f2 f4
        clear hr hre hp hn h0 h1 hd0 hd1 e
        clear hT
        generalize stepD true n d = r' at HR ⊢
        go_enter Tryd.func82, Tryd.ntmps82
        go_wp2
        exact ⟨rfl, rfl, Or.inr ⟨HR.out, rfl⟩⟩
set_option maxHeartbeats 1000000 in
theorem put_uint8 (n d : Int) (neg : Bool) (h0 : 0 ≤ n) (h1 : n ≤ 255) (hd0 : 0 ≤ d) (hd1 : d ≤ 9) (hp : neg = false → 0 ≤ n) (hn : neg = true → n ≤ 0) (w : World) :
    Calls Tryd.prog 80 #[.int .u8 n, .int .u8 d, .bool neg] w fun e w' => w' = w ∧ PutSays .u8 0 255 (stepD neg n d) e := by
  obtain ⟨F1, F2⟩ := facts_u8 n d neg h0 h1 hd0 hd1 hp hn
  by_cases hr : 0 ≤ stepD neg n d ∧ stepD neg n d ≤ 255
  · obtain ⟨f1, f2, f3⟩ := F1 hr.1 hr.2
    have HR := Lib.hid hr
    clear F1 F2
    cases neg
    · have e : stepD false n d = n * 10 + d := rfl
      obtain ⟨r, hre⟩ : ∃ r, r = stepD false n d := ⟨_, rfl⟩
      obtain ⟨T, hT⟩ : ∃ T, T = n * 10 := ⟨_, rfl⟩
      rw [← hre] at f3 HR ⊢
      rw [hre, e, ← hT] at f3
      have q1 : decide (T ≤ T + d) = true := decide_eq_true (by omega)
      rw [show T + d = r from by rw [hre, e, hT]] at q1
      have f3' : IntKind.u8.wrap (T + d) = r := by rw [f3, hre, e, hT]
      replace f1 : IntKind.u8.wrap (n * 10) = T := f1.trans hT.symm
      rw [← hT] at f2
      have q2 : ¬ r < T := by have := of_decide_eq_true q1; omega
      have q3 : T ≤ r := of_decide_eq_true q1
      have hT0 := (spec_u8 (n * 10)).1; have hT1 := (spec_u8 (n * 10)).2.1; rw [f1] at hT0 hT1; rw [Int.tdiv_eq_ediv_of_nonneg hT0, IntWalk.u8_in _ (by omega)] at f2; clear hT0 hT1
      rw [IntKind.wrap_u8] at f1 f3'
      clear f3 hre e hp hn hr h0 h1 hd0 hd1
      subst hT
      go_enter Tryd.func80, Tryd.ntmps80
      go_wp2
      go_ret
      exact ⟨rfl, Or.inl ⟨HR.out.1, HR.out.2, by first | rfl | simp [f3']⟩⟩
    · have e : stepD true n d = n * 10 - d := rfl
      obtain ⟨r, hre⟩ : ∃ r, r = stepD true n d := ⟨_, rfl⟩
      obtain ⟨T, hT⟩ : ∃ T, T = n * 10 := ⟨_, rfl⟩
      rw [← hre] at f3 HR ⊢
      rw [hre, e, ← hT] at f3
      have q3 : r ≤ T := by rw [hre, e, hT]; omega
      have q4 : r ≤ 0 := by have := hn rfl; rw [hre, e]; omega
      have f3' : IntKind.u8.wrap (T - d) = r := by rw [f3, hre, e, hT]
      replace f1 : IntKind.u8.wrap (n * 10) = T := f1.trans hT.symm
      rw [← hT] at f2
      have hT0 := (spec_u8 (n * 10)).1; have hT1 := (spec_u8 (n * 10)).2.1; rw [f1] at hT0 hT1; rw [Int.tdiv_eq_ediv_of_nonneg hT0, IntWalk.u8_in _ (by omega)] at f2; clear hT0 hT1
      rw [IntKind.wrap_u8] at f1 f3'
      clear f3 hre e hp hn hr h0 h1 hd0 hd1
      subst hT
      go_enter Tryd.func80, Tryd.ntmps80
      go_wp2
      go_ret
      exact ⟨rfl, Or.inl ⟨HR.out.1, HR.out.2, by first | rfl | simp [f3']⟩⟩
  · have HR := Lib.hid hr
    rcases F2 hr with f | ⟨f1, f2, f3⟩
    · obtain ⟨T, hT⟩ : ∃ T, T = IntKind.u8.wrap (n * 10) := ⟨_, rfl⟩
      rw [← hT] at f
      have f1 := hT.symm
      obtain ⟨U, hU⟩ : ∃ U, U = IntKind.u8.wrap (T.tdiv 10) := ⟨_, rfl⟩
      rw [← hU] at f
      have f2 := hU.symm
      have q1 : (U != n) = true := bne_iff_ne.2 f
      have hT0 := (spec_u8 (n * 10)).1; have hT1 := (spec_u8 (n * 10)).2.1; rw [f1] at hT0 hT1; rw [Int.tdiv_eq_ediv_of_nonneg hT0, IntWalk.u8_in _ (by omega)] at f2; clear hT0 hT1
      rw [IntKind.wrap_u8] at f1
      clear F1 F2 hr hT hU hp hn h0 h1 hd0 hd1 f
      generalize stepD neg n d = r at HR ⊢
      go_enter Tryd.func80, Tryd.ntmps80
      go_wp2
      exact ⟨rfl, rfl, Or.inr ⟨HR.out, rfl⟩⟩
    · clear F1 F2
      cases neg
      · rw [if_neg (by decide)] at f3
        have e : stepD false n d = n * 10 + d := rfl
        obtain ⟨T, hT⟩ : ∃ T, T = n * 10 := ⟨_, rfl⟩
        obtain ⟨r, hre⟩ : ∃ r, r = IntKind.u8.wrap (T + d) := ⟨_, rfl⟩
        rw [e, ← hT, ← hre] at f3
        replace f1 : IntKind.u8.wrap (n * 10) = T := f1.trans hT.symm
        rw [← hT] at f2
        have f4 := hre.symm
        have q1 : ¬ T ≤ r := by omega
        have hT0 := (spec_u8 (n * 10)).1; have hT1 := (spec_u8 (n * 10)).2.1; rw [f1] at hT0 hT1; rw [Int.tdiv_eq_ediv_of_nonneg hT0, IntWalk.u8_in _ (by omega)] at f2; clear hT0 hT1
        rw [IntKind.wrap_u8] at f1 f4
        clear hr hre hp hn h0 h1 hd0 hd1 e
        subst hT
        generalize stepD false n d = r' at HR ⊢
        go_enter Tryd.func80, Tryd.ntmps80
        go_wp2
        exact ⟨rfl, rfl, Or.inr ⟨HR.out, rfl⟩⟩
      · rw [if_pos rfl] at f3
        have e : stepD true n d = n * 10 - d := rfl
        obtain ⟨T, hT⟩ : ∃ T, T = n * 10 := ⟨_, rfl⟩
        obtain ⟨r, hre⟩ : ∃ r, r = IntKind.u8.wrap (T - d) := ⟨_, rfl⟩
        rw [e, ← hT, ← hre] at f3
        replace f1 : IntKind.u8.wrap (n * 10) = T := f1.trans hT.symm
        rw [← hT] at f2
        have f4 := hre.symm
        have q1 : ¬ r ≤ T := by omega
        have hT0 := (spec_u8 (n * 10)).1; have hT1 := (spec_u8 (n * 10)).2.1; rw [f1] at hT0 hT1; rw [Int.tdiv_eq_ediv_of_nonneg hT0, IntWalk.u8_in _ (by omega)] at f2; clear hT0 hT1
        rw [IntKind.wrap_u8] at f1 f4
        clear hr hre hp hn h0 h1 hd0 hd1 e
        subst hT
        generalize stepD true n d = r' at HR ⊢
        go_enter Tryd.func80, Tryd.ntmps80
        go_wp2
        exact ⟨rfl, rfl, Or.inr ⟨HR.out, rfl⟩⟩
set_option maxHeartbeats 1000000 in
theorem put_Byte (n d : Int) (neg : Bool) (h0 : 0 ≤ n) (h1 : n ≤ 255) (hd0 : 0 ≤ d) (hd1 : d ≤ 9) (hp : neg = false → 0 ≤ n) (hn : neg = true → n ≤ 0) (w : World) :
    Calls Tryd.prog 97 #[.int .u8 n, .int .u8 d, .bool neg] w fun e w' => w' = w ∧ PutSays .u8 0 255 (stepD neg n d) e := by
  obtain ⟨F1, F2⟩ := facts_u8 n d neg h0 h1 hd0 hd1 hp hn
  by_cases hr : 0 ≤ stepD neg n d ∧ stepD neg n d ≤ 255
  · obtain ⟨f1, f2, f3⟩ := F1 hr.1 hr.2
    have HR := Lib.hid hr
    clear F1 F2
    cases neg
    · have e : stepD false n d = n * 10 + d := rfl
      obtain ⟨r, hre⟩ : ∃ r, r = stepD false n d := ⟨_, rfl⟩
      obtain ⟨T, hT⟩ : ∃ T, T = n * 10 := ⟨_, rfl⟩
      rw [← hre] at f3 HR ⊢
      rw [hre, e, ← hT] at f3
      have q1 : decide (T ≤ T + d) = true := decide_eq_true (by omega)
      rw [show T + d = r from by rw [hre, e, hT]] at q1
      have f3' : IntKind.u8.wrap (T + d) = r := by rw [f3, hre, e, hT]
      replace f1 : IntKind.u8.wrap (n * 10) = T := f1.trans hT.symm
      rw [← hT] at f2
      have q2 : ¬ r < T := by have := of_decide_eq_true q1; omega
      have q3 : T ≤ r := of_decide_eq_true q1
      have hT0 := (spec_u8 (n * 10)).1; have hT1 := (spec_u8 (n * 10)).2.1; rw [f1] at hT0 hT1; rw [Int.tdiv_eq_ediv_of_nonneg hT0, IntWalk.u8_in _ (by omega)] at f2; clear hT0 hT1
      rw [IntKind.wrap_u8] at f1 f3'
      clear f3 hre e hp hn hr h0 h1 hd0 hd1
      subst hT
      go_enter Tryd.func97, Tryd.ntmps97
      go_wp2
      go_ret
      exact ⟨rfl, Or.inl ⟨HR.out.1, HR.out.2, by first | rfl | simp [f3']⟩⟩
    · have e : stepD true n d = n * 10 - d := rfl
      obtain ⟨r, hre⟩ : ∃ r, r = stepD true n d := ⟨_, rfl⟩
      obtain ⟨T, hT⟩ : ∃ T, T = n * 10 := ⟨_, rfl⟩
      rw [← hre] at f3 HR ⊢
      rw [hre, e, ← hT] at f3
      have q3 : r ≤ T := by rw [hre, e, hT]; omega
      have q4 : r ≤ 0 := by have := hn rfl; rw [hre, e]; omega
      have f3' : IntKind.u8.wrap (T - d) = r := by rw [f3, hre, e, hT]
      replace f1 : IntKind.u8.wrap (n * 10) = T := f1.trans hT.symm
      rw [← hT] at f2
      have hT0 := (spec_u8 (n * 10)).1; have hT1 := (spec_u8 (n * 10)).2.1; rw [f1] at hT0 hT1; rw [Int.tdiv_eq_ediv_of_nonneg hT0, IntWalk.u8_in _ (by omega)] at f2; clear hT0 hT1
      rw [IntKind.wrap_u8] at f1 f3'
      clear f3 hre e hp hn hr h0 h1 hd0 hd1
      subst hT
      go_enter Tryd.func97, Tryd.ntmps97
      go_wp2
      go_ret
      exact ⟨rfl, Or.inl ⟨HR.out.1, HR.out.2, by first | rfl | simp [f3']⟩⟩
  · have HR := Lib.hid hr
    rcases F2 hr with f | ⟨f1, f2, f3⟩
    · obtain ⟨T, hT⟩ : ∃ T, T = IntKind.u8.wrap (n * 10) := ⟨_, rfl⟩
      rw [← hT] at f
      have f1 := hT.symm
      obtain ⟨U, hU⟩ : ∃ U, U = IntKind.u8.wrap (T.tdiv 10) := ⟨_, rfl⟩
      rw [← hU] at f
      have f2 := hU.symm
      have q1 : (U != n) = true := bne_iff_ne.2 f
      have hT0 := (spec_u8 (n * 10)).1; have hT1 := (spec_u8 (n * 10)).2.1; rw [f1] at hT0 hT1; rw [Int.tdiv_eq_ediv_of_nonneg hT0, IntWalk.u8_in _ (by omega)] at f2; clear hT0 hT1
      rw [IntKind.wrap_u8] at f1
      clear F1 F2 hr hT hU hp hn h0 h1 hd0 hd1 f
      generalize stepD neg n d = r at HR ⊢
      go_enter Tryd.func97, Tryd.ntmps97
      go_wp2
      exact ⟨rfl, rfl, Or.inr ⟨HR.out, rfl⟩⟩
    · clear F1 F2
      cases neg
      · rw [if_neg (by decide)] at f3
        have e : stepD false n d = n * 10 + d := rfl
        obtain ⟨T, hT⟩ : ∃ T, T = n * 10 := ⟨_, rfl⟩
        obtain ⟨r, hre⟩ : ∃ r, r = IntKind.u8.wrap (T + d) := ⟨_, rfl⟩
        rw [e, ← hT, ← hre] at f3
        replace f1 : IntKind.u8.wrap (n * 10) = T := f1.trans hT.symm
        rw [← hT] at f2
        have f4 := hre.symm
        have q1 : ¬ T ≤ r := by omega
        have hT0 := (spec_u8 (n * 10)).1; have hT1 := (spec_u8 (n * 10)).2.1; rw [f1] at hT0 hT1; rw [Int.tdiv_eq_ediv_of_nonneg hT0, IntWalk.u8_in _ (by omega)] at f2; clear hT0 hT1
        rw [IntKind.wrap_u8] at f1 f4
        clear hr hre hp hn h0 h1 hd0 hd1 e
        subst hT
        generalize stepD false n d = r' at HR ⊢
        go_enter Tryd.func97, Tryd.ntmps97
        go_wp2
        exact ⟨rfl, rfl, Or.inr ⟨HR.out, rfl⟩⟩
      · rw [if_pos rfl] at f3
        have e : stepD true n d = n * 10 - d := rfl
        obtain ⟨T, hT⟩ : ∃ T, T = n * 10 := ⟨_, rfl⟩
        obtain ⟨r, hre⟩ : ∃ r, r = IntKind.u8.wrap (T - d) := ⟨_, rfl⟩
        rw [e, ← hT, ← hre] at f3
        replace f1 : IntKind.u8.wrap (n * 10) = T := f1.trans hT.symm
        rw [← hT] at f2
        have f4 := hre.symm
        have q1 : ¬ r ≤ T := by omega
        have hT0 := (spec_u8 (n * 10)).1; have hT1 := (spec_u8 (n * 10)).2.1; rw [f1] at hT0 hT1; rw [Int.tdiv_eq_ediv_of_nonneg hT0, IntWalk.u8_in _ (by omega)] at f2; clear hT0 hT1
        rw [IntKind.wrap_u8] at f1 f4
        clear hr hre hp hn h0 h1 hd0 hd1 e
        subst hT
        generalize stepD true n d = r' at HR ⊢
        go_enter Tryd.func97, Tryd.ntmps97
        go_wp2
        exact ⟨rfl, rfl, Or.inr ⟨HR.out, rfl⟩⟩
end Go.Proofs.YtkjmbibnfohkjaaDoor
