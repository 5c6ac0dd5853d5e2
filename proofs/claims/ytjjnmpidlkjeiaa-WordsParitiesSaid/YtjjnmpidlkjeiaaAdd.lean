/- The contracts of words.Add (by the model's own entry of math/bits.Add64) and of the reference's Add, bit by bit: a sum of two words with a carry. For words in the range of the kind. -/
import Derived.Test.YtjjnmpidlkjeiaaPWordsEscapesx1
import Derived.Test.YtjjnmpidlkjeiaaU64b
import Derived.Laws.Externs
namespace Go.Proofs.Ytjjnmpidlkjeiaa
open Go.RowKit Go.Proofs.YtjjnmpidlkjeiaaW.PrintWords Go.Proofs.YtjjnmpidlkjeiaaW.PrintLast Go.Proofs.YtjjnmpidlkjeiaaW.PrintMore
open Go.Proofs.Ytjjnmpidlkjeiaa.U64 Go.Proofs.Ytjjnmpidlkjeiaa.PWordsEscapes

theorem run14 (x y c : Int) (hx : 0 ≤ x) (hy : 0 ≤ y) (h0 : 0 ≤ c) (h1 : c ≤ 1) (w : World) :
    (callFunc 14 #[.int .u64 x, .int .u64 y, .int .u64 c]).run Try.prog w =
      .ok (.value (.tuple #[.int .u64 ((x + y + c) % 18446744073709551616), .int .u64 ((x + y + c) / 18446744073709551616)])) w := by
  rw [run_callFunc_extern Try.func14 (by kernel_rfl) (by kernel_rfl) (by kernel_rfl) (e := add64Entry) (by kernel_rfl), run_add64 x y c hx hy h0 h1]
  rfl

theorem add_true (x y : Int) (hx : 0 ≤ x) (hy : 0 ≤ y) (w : World) :
    Calls Try.prog 9 #[.int .u64 x, .int .u64 y, .bool true] w fun e w' => e = .returned (.tuple #[.int .u64 ((x + y + 1) % 18446744073709551616), .bool ((x + y + 1) / 18446744073709551616 == 1)]) ∧ w = w' := by
  have hr := run14 x y 1 hx hy (by omega) (by omega)
  go_enter Try.func9, Try.ntmps9
  go_wp2
  go_ret2
  exact ⟨rfl, rfl⟩
theorem add_false (x y : Int) (hx : 0 ≤ x) (hy : 0 ≤ y) (w : World) :
    Calls Try.prog 9 #[.int .u64 x, .int .u64 y, .bool false] w fun e w' => e = .returned (.tuple #[.int .u64 ((x + y) % 18446744073709551616), .bool ((x + y) / 18446744073709551616 == 1)]) ∧ w = w' := by
  have hr := run14 x y 0 hx hy (by omega) (by omega)
  go_enter Try.func9, Try.ntmps9
  go_wp2
  go_ret2
  exact ⟨rfl, rfl⟩

/-- A carry as a word. -/
def cw (c : Bool) : BitVec 64 := BitVec.setWidth 64 (BitVec.ofBool c)
theorem I_cw (c : Bool) : I (cw c) = if c then 1 else 0 := by cases c <;> rfl
theorem sum_is (x y : BitVec 64) (c : Bool) : (I x + I y + (if c then 1 else 0)) % 18446744073709551616 = I (x + y + cw c) := by
  rw [← I_cw]
  unfold I
  simp only [BitVec.toNat_add]
  omega
theorem over_is (x y : BitVec 64) (c : Bool) : ((I x + I y + (if c then 1 else 0)) / 18446744073709551616 == 1) = BitVec.carry 64 x y c := by
  rw [BitVec.carry_width]
  unfold I
  have := x.isLt
  have := y.isLt
  rw [Bool.eq_iff_iff, beq_iff_eq, decide_eq_true_iff]
  cases c <;> simp <;> omega

/-- The bits of a sum, bit by bit. -/
def sumBit (x y : BitVec 64) (c : Bool) (i : Nat) : Bool := x.getLsbD i ^^ (y.getLsbD i ^^ BitVec.carry i x y c)
/-- A round's facts, out of the walk's sight. -/
structure AddAt (x y : BitVec 64) (c : Bool) (kq : Nat) (k : Bool) (o : BitVec 64) (i : Nat) : Prop where
  car : k = BitVec.carry i x y c
  upto : Upto o (sumBit x y c) i
  left : i + kq = 65
  le : i ≤ 64
theorem addAt_next {x y : BitVec 64} {c : Bool} {kq : Nat} {k : Bool} {o : BitVec 64} {i : Nat} (h : AddAt x y c (kq + 1) k o i) (hi : i < 64) :
    AddAt x y c kq (BitVec.carry (i + 1) x y c) (if sumBit x y c i then o + BitVec.twoPow 64 i else o) (i + 1) where
  car := rfl
  upto := by
    cases hs : sumBit x y c i
    · exact upto_clear h.upto hs
    · exact upto_set hi h.upto hs
  left := by have := h.left; omega
  le := by omega

theorem has_is (b : BitVec 64) (i : Nat) (hi : i < 64) : quarryref03_Has.f (I b) (i : Int) = some (b.getLsbD i) := by
  unfold quarryref03_Has.f
  rw [if_pos (by rw [u64_small (by omega) (by omega)]; omega), shr_word b i hi, bit_I]
  cases b.getLsbD i <;> rfl

set_option linter.unusedSimpArgs false in
set_option maxHeartbeats 1000000 in
theorem refAdd (x y : BitVec 64) (c : Bool) (w : World) :
    Calls Try.prog 10 #[.int .u64 (I x), .int .u64 (I y), .bool c] w fun e w' => ∃ o, e = .returned (.tuple #[.int .u64 (I o), .bool (BitVec.carry 64 x y c)]) ∧ Upto o (sumBit x y c) 64 ∧ Drawn0 w w' := by
  go_enter Try.func10, Try.ntmps10
  go_wp2
  go_loopg [2, 8, 9] 65 (fun kq v2 v8 v9 w' => ∃ (k : Bool) (o : BitVec 64) (i : Nat), v2 = .bool k ∧ v8 = .int .u64 (I o) ∧ v9 = .int .i64 (i : Int) ∧ AddAt x y c kq k o i ∧ Drawn0 w w')
  case atStart => exact ⟨c, 0#64, 0, rfl, rfl, rfl, ⟨by simp, upto_zero _, rfl, by omega⟩, Drawn0.refl _⟩
  case round =>
    obtain ⟨k, o, i, rfl, rfl, rfl, HA, ⟨m1, rfl⟩⟩ := hrel
    cases gk with
    | zero => exact absurd HA.left (by have := HA.le; omega)
    | succ k1 =>
      by_cases hi : i < 64
      · have c4b0 : decide ((i : Int) < 64) = true := by simp; omega
        have e1 : wrap64 ((i : Int) + 1) = ((i + 1 : Nat) : Int) := by rw [i64_small (by omega) (by omega)]; omega
        have e2 : IntKind.u64.wrap (i : Int) = (i : Int) := u64_small (by omega) (by omega)
        have e3 : (0 ≤ (i : Int)) = True := by simp
        have e4 : IntKind.u64.wrap (2 ^ min i 64) = I (BitVec.twoPow 64 i) := by
          rw [← shl_one i hi, e2]; unfold shl; rw [Int.one_mul]; rfl
        have e5 : IntKind.u64.wrap (I o + I (BitVec.twoPow 64 i)) = I (o + BitVec.twoPow 64 i) := wrap_add _ _
        have hx : PWordsEscapes.quarryref03_Has.f (I x) (i : Int) = some (x.getLsbD i) := has_is x i hi
        have hy : PWordsEscapes.quarryref03_Has.f (I y) (i : Int) = some (y.getLsbD i) := has_is y i hi
        have HN := addAt_next HA hi
        have hk := HA.car
        unfold sumBit at HN
        rw [BitVec.carry_succ, ← hk] at HN
        clear HA hk hi
        have HX := Aside0.mk hx
        have HY := Aside0.mk hy
        clear hx hy
        generalize x.getLsbD i = p at HX HN
        generalize y.getLsbD i = q at HY HN
        cases p <;> cases q <;> cases k
        all_goals
          simp only [Bool.atLeastTwo, Bool.xor_false, Bool.xor_true, Bool.false_xor, Bool.true_xor, Bool.not_false, Bool.not_true, Bool.and_true, Bool.and_false, Bool.false_and, Bool.true_and, Bool.or_false, Bool.or_true, Bool.false_or, Bool.true_or, if_true, Bool.false_eq_true, if_false] at HN
          go_wp2_with (first | ((with_reducible refine gate_callee (f := 13) rfl ?_); refine goesL_ (some 18) rfl rfl Try.func13 (by kernel_rfl) rfl #[.int .u64 (I x), .int .i64 (i : Int)] rfl (by (try simp only [List.map_toArray, List.map_cons, List.map_nil]); first | done | rfl | (simp only [List.length_drop, List.length_take]; rfl)) ?_; (with_reducible refine (quarryref03_Has.calls (I x) (i : Int) _ _ HX.out).mono ?_); rintro e w' ⟨rfl, ⟨nd, rfl⟩⟩; refine ⟨_, rfl, ?_⟩) | ((with_reducible refine gate_callee (f := 13) rfl ?_); refine goesL_ (some 21) rfl rfl Try.func13 (by kernel_rfl) rfl #[.int .u64 (I y), .int .i64 (i : Int)] rfl (by (try simp only [List.map_toArray, List.map_cons, List.map_nil]); first | done | rfl | (simp only [List.length_drop, List.length_take]; rfl)) ?_; (with_reducible refine (quarryref03_Has.calls (I y) (i : Int) _ _ HY.out).mono ?_); rintro e w' ⟨rfl, ⟨nd, rfl⟩⟩; refine ⟨_, rfl, ?_⟩))
          go_roundg k1
          case measure => omega
          case rel => exact ⟨_, _, i + 1, rfl, (by first | rfl | rw [e4, e5] | rw [e5]), (by rw [e1]), HN, by repeat (first | exact Drawn0.refl _ | apply Drawn0.step)⟩
      · have c4b0 : decide ((i : Int) < 64) = false := by simp; omega
        have h64 : i = 64 := by have := HA.le; omega
        have hk := HA.car
        have ho := HA.upto
        have HF : Aside0 (i = 64 ∧ k = BitVec.carry i x y c ∧ Upto o (sumBit x y c) i) := ⟨⟨h64, hk, ho⟩⟩
        clear h64 hk ho HA hi
        go_wp2
        go_ret2
        obtain ⟨rfl, rfl, ho⟩ := HF.out
        exact ⟨o, rfl, ho, ⟨⟨_, rfl⟩⟩⟩

theorem bits_sum (x y : BitVec 64) (c : Bool) (i : Nat) (hi : i < 64) : (x + y + cw c).getLsbD i = sumBit x y c i := BitVec.getLsbD_add_add_bool hi x y c

def u64ok (a : Int) : Prop := 0 ≤ a ∧ a < 18446744073709551616
instance (a : Int) : Decidable (u64ok a) := inferInstanceAs (Decidable (_ ∧ _))
/-- What words.Add tells. -/
def words_Add.f (a0 a1 : Int) (a2 : Bool) : Option (Int × Bool) := if u64ok a0 ∧ u64ok a1 then some (I (B a0 + B a1 + cw a2), BitVec.carry 64 (B a0) (B a1) a2) else none
theorem words_Add.calls (a0 a1 : Int) (a2 : Bool) (r1 : Int) (r2 : Bool) (w : World) (h : words_Add.f a0 a1 a2 = some (r1, r2)) :
    Calls Try.prog 9 #[.int .u64 a0, .int .u64 a1, .bool a2] w fun e w' => e = .returned (.tuple #[.int .u64 r1, .bool r2]) ∧ Drawn0 w w' := by
  unfold words_Add.f at h
  by_cases hc : u64ok a0 ∧ u64ok a1
  · rw [if_pos hc] at h
    obtain ⟨⟨h1, h2⟩, ⟨h3, h4⟩⟩ := hc
    have e0 := I_B h1 h2
    have e1 := I_B h3 h4
    have s := sum_is (B a0) (B a1) a2
    have o := over_is (B a0) (B a1) a2
    rw [e0, e1] at s o
    obtain ⟨rfl, rfl⟩ := Prod.mk.inj (Option.some.inj h)
    rw [← s, ← o]
    cases a2
    · refine (add_false a0 a1 h1 h3 w).mono ?_
      rintro e w' ⟨rfl, rfl⟩
      exact ⟨by simp, Drawn0.refl _⟩
    · refine (add_true a0 a1 h1 h3 w).mono ?_
      rintro e w' ⟨rfl, rfl⟩
      exact ⟨by simp, Drawn0.refl _⟩
  · rw [if_neg hc] at h
    cases h
/-- What the reference's Add tells. -/
def quarryref03_Add.f (a0 a1 : Int) (a2 : Bool) : Option (Int × Bool) := if u64ok a0 ∧ u64ok a1 then some (I (B a0 + B a1 + cw a2), BitVec.carry 64 (B a0) (B a1) a2) else none
theorem quarryref03_Add.calls (a0 a1 : Int) (a2 : Bool) (r1 : Int) (r2 : Bool) (w : World) (h : quarryref03_Add.f a0 a1 a2 = some (r1, r2)) :
    Calls Try.prog 10 #[.int .u64 a0, .int .u64 a1, .bool a2] w fun e w' => e = .returned (.tuple #[.int .u64 r1, .bool r2]) ∧ Drawn0 w w' := by
  unfold quarryref03_Add.f at h
  by_cases hc : u64ok a0 ∧ u64ok a1
  · rw [if_pos hc] at h
    obtain ⟨⟨h1, h2⟩, ⟨h3, h4⟩⟩ := hc
    have e0 := I_B h1 h2
    have e1 := I_B h3 h4
    obtain ⟨rfl, rfl⟩ := Prod.mk.inj (Option.some.inj h)
    have hr := refAdd (B a0) (B a1) a2 w
    rw [e0, e1] at hr
    refine hr.mono ?_
    rintro e w' ⟨o, rfl, ho, hd⟩
    exact ⟨by rw [upto_eq ho (bits_sum _ _ _)], hd⟩
  · rw [if_neg hc] at h
    cases h
end Go.Proofs.Ytjjnmpidlkjeiaa
