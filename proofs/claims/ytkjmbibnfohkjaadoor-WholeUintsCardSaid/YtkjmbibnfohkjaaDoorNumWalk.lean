/- decimal's reader: the number out of what was read. -/
import Derived.Test.YtkjmbibnfohkjaaDoorReadSt
import Derived.Outline
import Derived.IntWalk
import Derived.Lib.Hide
namespace Go.Proofs.YtkjmbibnfohkjaaDoor.Reader
open Go.RowKit Go.Proofs.YtkjmbibnfohkjaaDoorW.PrintWords Go.Proofs.YtkjmbibnfohkjaaDoorW.PrintLast Go.Proofs.YtkjmbibnfohkjaaDoorW.PrintMore Go.Proofs.YtkjmbibnfohkjaaDoor.Dec
set_option linter.unusedVariables false

/-- The text without the noughts ahead; and without those behind, too. -/
def trimA (l : List UInt8) : ByteArray := ⟨(Lib.trimLeftB l 48).toArray⟩
def trimB (l : List UInt8) : ByteArray := ⟨(Lib.trimRightB (Lib.trimLeftB l 48) 48).toArray⟩
/-- The exponent of the number in its one form. -/
def expOf (l : List UInt8) (d : Nat) (e : Int) : Int := e - (d : Int) + ((trimA l).size : Int) - ((trimB l).size : Int)
/-- The number: its sign, its digits, its exponent; is there one? -/
def numOf (neg : Bool) (l : List UInt8) (d : Nat) (e : Int) : Bool × ByteArray × Int × Bool :=
  if (trimB l).data.toList = [] then (neg, ⟨#[]⟩, 0, true)
  else if expOf l d e > 1073741824 ∨ expOf l d e < -1073741824 then (false, ⟨#[]⟩, 0, false)
  else (neg, trimB l, expOf l d e, true)

theorem str_ib (l : List UInt8) : (strOfNums (ib l)).data.toList = l := by
  have e : ((fun n : Int => UInt8.ofNat n.toNat) ∘ fun c : UInt8 => (c.toNat : Int)) = id := by
    funext c
    simp
  simp only [strOfNums, ib, List.map_map]
  rw [e]
  simp
theorem dropW_len (p : UInt8 → Bool) (l : List UInt8) : (l.dropWhile p).length ≤ l.length := (List.dropWhile_sublist p).length_le
theorem trimA_size (l : List UInt8) : (trimA l).size ≤ l.length := by
  show (Lib.trimLeftB l 48).toArray.size ≤ l.length
  rw [List.size_toArray]
  exact dropW_len _ _
theorem trimB_size (l : List UInt8) : (trimB l).size ≤ (trimA l).size := by
  show (Lib.trimRightB (Lib.trimLeftB l 48) 48).toArray.size ≤ (Lib.trimLeftB l 48).toArray.size
  rw [List.size_toArray, List.size_toArray]
  unfold Lib.trimRightB
  rw [List.length_reverse]
  have := dropW_len (· == 48) (Lib.trimLeftB l 48).reverse
  rwa [List.length_reverse] at this
theorem left_calls (l : List UInt8) (w : World) :
    Calls Tryd.prog 111 #[.string (strOfNums (ib l)), .string ⟨#[48]⟩] w fun e w' => e = .returned (.string (trimA l)) ∧ w' = w := by
  have h := Tryd.strings_TrimLeft_one (strOfNums (ib l)) 48 (by decide) w
  rw [str_ib] at h
  exact h
theorem right_calls (l : List UInt8) (hl : l.length ≤ 140737488355328) (w : World) :
    Calls Tryd.prog 112 #[.string (trimA l), .string ⟨#[48]⟩] w fun e w' => e = .returned (.string (trimB l)) ∧ w' = w := by
  have := trimA_size l
  exact Tryd.strings_TrimRight_one (trimA l) 48 (by decide) w (by omega)

theorem below_own {w w1 : World} (h : Below w.heap.size w w1) (j : Nat) (u : Value) : Below w.heap.size w (w1.setCell ⟨w.heap.size, j, none⟩ u) := h.setCell (Nat.le_refl _) u
set_option maxHeartbeats 1000000 in
set_option maxRecDepth 100000 in
theorem number_calls {W0 w : World} {b : Nat} {s : ByteArray} {i : Nat} {neg : Bool} {l : List UInt8} {d : Nat} {e : Int} {v : Value} (h : St W0 b s i neg l d e v w) (hl : l.length ≤ 140737488355328) (hd : d ≤ 140737488355328) (he0 : -11258999068426249 ≤ e) (he1 : e ≤ 11258999068426249) :
    Calls Tryd.prog 88 #[.pointer (some ⟨b, 0, none⟩)] w fun r w' => r = .returned (.tuple #[.agg #[.bool (numOf neg l d e).1, .string (numOf neg l d e).2.1, .int .i64 (numOf neg l d e).2.2.1], .bool (numOf neg l d e).2.2.2]) ∧ Below w.heap.size w w' := by
  have HS := Aside0.mk h
  have c2 := h.rb.c2
  have c3 := h.rb.c3
  have c4 := h.rb.c4
  have c5 := h.rb.c5
  have hlt := h.rb.lt
  have hown := h.own
  have hconv := fun (w1 : World) (hb : Below w.heap.size w w1) => own_string (P := Tryd.prog) (src := 88) (dst := 9) Tryd.underlying88 Tryd.underlying5 Tryd.underlying9 (pw_own_below hown hb)
  have hcv := hconv (w.alloc (.cells #[.bool false, .string ⟨#[]⟩, .int .i64 0] 65)) ((Below.refl _ w).alloc (Nat.le_refl _) _)
  clear h hconv hown
  have hA := trimA_size l
  have hB := trimB_size l
  have hX : expOf l d e = e - (d : Int) + ((trimA l).size : Int) - ((trimB l).size : Int) := rfl
  have r1 : -9223372036854775808 ≤ e - (d : Int) ∧ e - (d : Int) ≤ 9223372036854775807 := by omega
  have r2 : -9223372036854775808 ≤ e - (d : Int) + ((trimA l).size : Int) ∧ e - (d : Int) + ((trimA l).size : Int) ≤ 9223372036854775807 := by omega
  have r3 : -9223372036854775808 ≤ e - (d : Int) + ((trimA l).size : Int) - ((trimB l).size : Int) ∧ e - (d : Int) + ((trimA l).size : Int) - ((trimB l).size : Int) ≤ 9223372036854775807 := by omega
  have s1 : IntKind.i64.wrap (e - (d : Int)) = e - (d : Int) := IntWalk.i64_in _ r1
  have s2 : IntKind.i64.wrap (e - (d : Int) + ((trimA l).size : Int)) = e - (d : Int) + ((trimA l).size : Int) := IntWalk.i64_in _ r2
  have s3 : IntKind.i64.wrap (e - (d : Int) + ((trimA l).size : Int) - ((trimB l).size : Int)) = expOf l d e := IntWalk.i64_in _ r3
  clear r1 r2 r3 hX
  by_cases hz : (trimB l).toList = []
  · have HF := Lib.hid (show numOf neg l d e = (neg, ⟨#[]⟩, 0, true) by unfold numOf; rw [if_pos (by rw [← ByteArray.toList_eq]; exact hz)])
    have q1 : ((trimB l).toList == ([] : List UInt8)) = true := beq_iff_eq.2 hz
    have q2 : (trimB l).toList.isEmpty = true := by rw [hz]; rfl
    clear hz
    go_enter Tryd.func88, Tryd.ntmps88
    go_wp2_with (first | (go_at_call 111; refine (left_calls _ _).mono ?_; rintro r w' ⟨rfl, rfl⟩) | (go_at_call 112; refine (right_calls _ hl _).mono ?_; rintro r w' ⟨rfl, rfl⟩))
    go_quiet (fail)
    clear s1 s2 s3
    go_wp2
    refine bodyPost_ret (v := .tuple #[.agg #[.bool neg, .string ⟨#[]⟩, .int .i64 0], .bool true]) (by simp [results, Tryd.results88, go_sem]) rfl ⟨by rw [HF.out], ?_⟩
    repeat (first | exact Below.refl _ _ | apply pw_below_drewN | apply below_alloc | refine below_own ?_ _ _)
  · have q1 : ((trimB l).toList == ([] : List UInt8)) = false := beq_eq_false_iff_ne.2 hz
    have q2 : (trimB l).toList.isEmpty = false := by
      rw [Bool.eq_false_iff, ne_eq, List.isEmpty_iff]
      exact hz
    by_cases hx1 : expOf l d e > 1073741824
    · have HF := Lib.hid (show numOf neg l d e = (false, ⟨#[]⟩, 0, false) by unfold numOf; rw [if_neg (by rw [← ByteArray.toList_eq]; exact hz), if_pos (.inl hx1)])
      have q3 : decide (1073741824 < expOf l d e) = true := decide_eq_true hx1
      clear hz hx1
      go_enter Tryd.func88, Tryd.ntmps88
      go_wp2_with (first | (go_at_call 111; refine (left_calls _ _).mono ?_; rintro r w' ⟨rfl, rfl⟩) | (go_at_call 112; refine (right_calls _ hl _).mono ?_; rintro r w' ⟨rfl, rfl⟩))
      go_quiet (fail)
      clear s1 s2 s3
      go_wp2
      refine bodyPost_ret (v := .tuple #[.agg #[.bool false, .string ⟨#[]⟩, .int .i64 0], .bool false]) (by simp [results, Tryd.results88, go_sem]) rfl ⟨by rw [HF.out], ?_⟩
      repeat (first | exact Below.refl _ _ | apply pw_below_drewN | apply below_alloc | refine below_own ?_ _ _)
    · have q3 : decide (1073741824 < expOf l d e) = false := decide_eq_false hx1
      by_cases hx2 : expOf l d e < -1073741824
      · have HF := Lib.hid (show numOf neg l d e = (false, ⟨#[]⟩, 0, false) by unfold numOf; rw [if_neg (by rw [← ByteArray.toList_eq]; exact hz), if_pos (.inr hx2)])
        have q4 : decide (expOf l d e < -1073741824) = true := decide_eq_true hx2
        clear hz hx1 hx2
        go_enter Tryd.func88, Tryd.ntmps88
        go_wp2_with (first | (go_at_call 111; refine (left_calls _ _).mono ?_; rintro r w' ⟨rfl, rfl⟩) | (go_at_call 112; refine (right_calls _ hl _).mono ?_; rintro r w' ⟨rfl, rfl⟩))
        go_quiet (fail)
        clear s1 s2 s3
        go_wp2
        refine bodyPost_ret (v := .tuple #[.agg #[.bool false, .string ⟨#[]⟩, .int .i64 0], .bool false]) (by simp [results, Tryd.results88, go_sem]) rfl ⟨by rw [HF.out], ?_⟩
        repeat (first | exact Below.refl _ _ | apply pw_below_drewN | apply below_alloc | refine below_own ?_ _ _)
      · have HF := Lib.hid (show numOf neg l d e = (neg, trimB l, expOf l d e, true) by unfold numOf; rw [if_neg (by rw [← ByteArray.toList_eq]; exact hz), if_neg (fun h => h.elim hx1 hx2)])
        have q4 : decide (expOf l d e < -1073741824) = false := decide_eq_false hx2
        clear hz hx1 hx2
        go_enter Tryd.func88, Tryd.ntmps88
        go_wp2_with (first | (go_at_call 111; refine (left_calls _ _).mono ?_; rintro r w' ⟨rfl, rfl⟩) | (go_at_call 112; refine (right_calls _ hl _).mono ?_; rintro r w' ⟨rfl, rfl⟩))
        go_quiet (fail)
        clear s1 s2 s3
        go_wp2
        refine bodyPost_ret (v := .tuple #[.agg #[.bool neg, .string (trimB l), .int .i64 (expOf l d e)], .bool true]) (by simp [results, Tryd.results88, go_sem]) rfl ⟨by rw [HF.out], ?_⟩
        repeat (first | exact Below.refl _ _ | apply pw_below_drewN | apply below_alloc | refine below_own ?_ _ _)
end Go.Proofs.YtkjmbibnfohkjaaDoor.Reader
