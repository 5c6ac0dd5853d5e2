/- words.Runs: the function that it makes gives the rows of set bits, rising, one a round, for every loop body that keeps what lay below a block behind the table's and the word's. -/
import Derived.Test.YtjjnmpidlkjeiaaDoorEachIt
import Derived.Test.YtjjnmpidlkjeiaaDoorRunsNext
import Derived.IntWalk
import Derived.Lib.Hide
set_option linter.unusedVariables false
namespace Go.Proofs.YtjjnmpidlkjeiaaDoor
open Go.RowKit Go.Shelf
attribute [local go_sem] Oper.semAt_some
theorem shr_cast (x q : Nat) : (x : Int) / 2 ^ q = ((x >>> q : Nat) : Int) := by
  rw [Nat.shiftRight_eq_div_pow, Int.natCast_ediv, Int.natCast_pow]
  rfl
theorem tz_shr (x q z : Nat) (hx : x < 18446744073709551616) (hz : z = Lib.ctz 64 (x >>> q)) (w : World) (hT : TzTab w) :
    Calls Tryd.prog 19 #[.int .u64 ((x : Int) / 2 ^ q)] w fun e w' => e = .returned (.int .i64 (z : Int)) ∧ w' = w := by
  rw [shr_cast, hz]
  exact tz_calls _ (Nat.lt_of_le_of_lt (by rw [Nat.shiftRight_eq_div_pow]; exact Nat.div_le_self _ _) hx) w hT
theorem xor_full (y : Nat) (hy : y < 18446744073709551616) : 18446744073709551615 ^^^ y = 18446744073709551615 - y := by
  apply Nat.eq_of_testBit_eq
  intro j
  rw [Nat.testBit_xor]
  by_cases hj : j < 64
  · rw [not_bit y j hy hj]
    have := Nat.testBit_two_pow_sub_one 64 j
    rw [show (2 : Nat) ^ 64 - 1 = 18446744073709551615 from by decide] at this
    rw [this, decide_eq_true hj]
    simp
  · have h64 : ∀ u, u < 18446744073709551616 → u.testBit j = false := fun u hu => Nat.testBit_lt_two_pow (Nat.lt_of_lt_of_le hu (by
      have : 2 ^ 64 ≤ 2 ^ j := Nat.pow_le_pow_right (by decide) (by omega)
      exact this))
    rw [h64 _ (by decide), h64 y hy, h64 _ (Nat.lt_of_le_of_lt (Nat.sub_le _ _) (by decide))]
    rfl
theorem tz_not (x a m : Nat) (hx : x < 18446744073709551616) (hm : m = Lib.ctz 64 (18446744073709551615 - x >>> a)) (w : World) (hT : TzTab w) :
    Calls Tryd.prog 19 #[.int .u64 (bits .xor .u64 IntKind.u64.max ((x : Int) / 2 ^ a))] w fun e w' => e = .returned (.int .i64 (m : Int)) ∧ w' = w := by
  have hy : x >>> a < 18446744073709551616 := Nat.lt_of_le_of_lt (by rw [Nat.shiftRight_eq_div_pow]; exact Nat.div_le_self _ _) hx
  have e : bits .xor .u64 IntKind.u64.max ((x : Int) / 2 ^ a) = ((18446744073709551615 - x >>> a : Nat) : Int) := by
    rw [shr_cast, show IntKind.u64.max = ((18446744073709551615 : Nat) : Int) from rfl, bits_xor_u64_nat _ _ (by decide) hy, xor_full _ hy]
  rw [e, hm]
  exact tz_calls _ (Nat.lt_of_le_of_lt (Nat.sub_le _ _) (by decide)) w hT
set_option maxHeartbeats 1000000 in
theorem runs1_in (F : Fence) (hw : F = Fence.wide) (n : Nat) (l Bn n₀ : Nat) (hn₀ : 0 < n₀) (hBnn : Bn < n₀) (x0 : Nat) (hx0 : x0 < 18446744073709551616) (J Jx : List (Nat × Nat) → World → Prop)
    (hY : ∀ (pre : List (Nat × Nat)) (x : Nat × Nat) (W : World), J pre W → pre.length < (runs x0 64 0).length → YieldAt F (n - 1) Tryd.prog l #[.int .i64 (x.1 : Int), .int .i64 (x.2 : Int)] W fun e W' =>
      (e = .returned (.bool true) ∧ J (pre ++ [x]) W' ∧ Below n₀ W W') ∨ (e = .returned (.bool false) ∧ Jx (pre ++ [x]) W'))
    (W : World) (hBn : W.cell? ⟨Bn, 0, none⟩ = some (.int .u64 (x0 : Int))) (hT : TzTab W) (h0 : J [] W) :
    CallsIn F n Tryd.prog 20 #[.func (.yield l) #[] #[], .pointer (some ⟨Bn, 0, none⟩)] W fun e W' => (∃ v, e = .returned v) ∧
      ((∃ ys, ys = runs x0 64 0 ∧ J ys W') ∨ (∃ pre, pre <+: runs x0 64 0 ∧ Jx pre W')) := by
  subst hw
  refine callsIn_of_wp Tryd.func20 rfl trivial ?_ rfl
  simp only [Tryd.ntmps20, List.size_toArray, List.length_cons, List.length_nil, Nat.reduceAdd, Nat.reduceSub, Array.replicate_succ, Array.replicate_zero, List.push_toArray, List.append_toArray, List.nil_append, List.cons_append]
  gi_wp2
  gi_loopw [3] (fun p wr => ∃ (pre : List (Nat × Nat)) (q : Nat), p = .int .i64 (q : Int) ∧ q ≤ 64 ∧ Shut x0 q ∧ runs x0 64 0 = pre ++ runs x0 (64 - q) q ∧ wr.cell? ⟨Bn, 0, none⟩ = some (.int .u64 (x0 : Int)) ∧ TzTab wr ∧ J pre wr)
    (fun p _ => (64 - intOf p).toNat)
  case atStart =>
    exact ⟨[], 0, rfl, by omega, .inl rfl, rfl, hBn, hT, h0⟩
  case round =>
    obtain ⟨pre, q, rfl, hq, hS, hx, hcell, hTr, hJs⟩ := hrel
    by_cases hz : q < 64
    · have hb : decide ((q : Int) < 64) = true := decide_eq_true (by omega)
      by_cases hy : x0 >>> q = 0
      · have hc64 : (64 : Nat) = Lib.ctz 64 (x0 >>> q) := by rw [hy]; rfl
        obtain ⟨a, ha⟩ : ∃ a, a = q + 64 := ⟨_, rfl⟩
        have s1 : IntKind.i64.wrap ((q : Int) + ((64 : Nat) : Int)) = (a : Int) := by
          rw [ha]
          exact (IntWalk.i64_in _ (by omega)).trans (by omega)
        have s2 : decide ((64 : Int) ≤ (a : Int)) = true := decide_eq_true (by omega)
        have s4 : IntKind.i64.wrap ((q : Int) + 64) = (a : Int) := s1
        have hn := runs_none x0 q hy
        have ez := Lib.hid hc64
        clear hc64 ha s1
        gi_wp2_with (refine ⟨trivial, (fun h => (by cases h)), ?_⟩; gi_at_call 19; (with_reducible refine (callsIn_wide.2 (tz_shr x0 q 64 hx0 ez.out _ hTr)).mono ?_); rintro e w' ⟨rfl, rfl⟩)
        refine bodyPost_ret (results_none rfl _ _ _) rfl ?_
        exact ⟨⟨_, rfl⟩, .inl ⟨pre, by rw [hx, hn]; simp, hJs⟩⟩
      · obtain ⟨g1, g2, g3, g4, g5⟩ := run_next x0 q hx0 hz hS hy
        obtain ⟨z, hz1⟩ : ∃ z, z = Lib.ctz 64 (x0 >>> q) := ⟨_, rfl⟩
        rw [← hz1] at g1 g2 g3 g4 g5
        obtain ⟨a, ha⟩ : ∃ a, a = q + z := ⟨_, rfl⟩
        rw [← ha] at g1 g2 g3 g4 g5
        obtain ⟨m, hm⟩ : ∃ m, m = Lib.ctz 64 (18446744073709551615 - x0 >>> a) := ⟨_, rfl⟩
        rw [← hm] at g2 g3 g4 g5
        have s1 : IntKind.i64.wrap ((q : Int) + (z : Int)) = (a : Int) := by
          rw [ha]
          exact (IntWalk.i64_in _ (by omega)).trans (by omega)
        have s2 : decide ((64 : Int) ≤ (a : Int)) = false := decide_eq_false (by omega)
        have ez := Lib.hid hz1
        have em := Lib.hid hm
        have hlen : pre.length < (runs x0 64 0).length := by rw [hx, g4]; simp
        obtain ⟨fn, tmps, assign, body, hyy, hR⟩ := hY pre (a, m) wr hJs hlen
        have s3 : IntKind.i64.wrap ((a : Int) + (m : Int)) = ((a + m : Nat) : Int) := (IntWalk.i64_in _ (by omega)).trans (by omega)
        have hs3 := Lib.hid s3
        have hqa := Lib.hid (show q ≤ a by omega)
        clear hz1 hm ha s3
        gi_wp2_with (first
          | (refine ⟨trivial, (fun h => (by cases h)), ?_⟩; gi_at_call 19; (with_reducible refine (callsIn_wide.2 (tz_shr x0 q z hx0 ez.out _ hTr)).mono ?_); rintro e w' ⟨rfl, rfl⟩)
          | (refine ⟨trivial, (fun h => (by cases h)), ?_⟩; gi_at_call 19; (with_reducible refine (callsIn_wide.2 (tz_not x0 a m hx0 em.out _ hTr)).mono ?_); rintro e w' ⟨rfl, rfl⟩))
        refine ⟨fun h => (by cases h), ?_⟩
        refine hR.mono ?_
        rintro e W3 (⟨rfl, hJ3, hk3⟩ | ⟨rfl, hJx3⟩)
        · have hT3 := hTr.below hn₀ hk3
          have hc3 := (hk3.cell (p := ⟨Bn, 0, none⟩) hBnn).trans hcell
          have hq3 := hs3.out
          gi_wp2
          go_roundw
          case rel => exact ⟨pre ++ [(a, m)], a + m, rfl, g3, g5, by rw [hx, g4]; simp, hc3, hT3, hJ3⟩
          case measure =>
            show (64 - ((a + m : Nat) : Int)).toNat < (64 - (q : Int)).toNat
            have hza := hqa.out
            omega
        · gi_wp2
          refine bodyPost_ret (results_none rfl _ _ _) rfl ?_
          exact ⟨⟨_, rfl⟩, .inr ⟨pre ++ [(a, m)], ⟨runs x0 (64 - (a + m)) (a + m), by rw [hx, g4]; simp⟩, hJx3⟩⟩
    · have hb : decide ((q : Int) < 64) = false := decide_eq_false (by omega)
      obtain rfl : q = 64 := by omega
      gi_wp2
      go_end0
      exact ⟨⟨_, rfl⟩, .inl ⟨pre, by rw [hx]; simp [runs], hJs⟩⟩
/-- What the iterator promises every range over it. -/
theorem runs_stops (n : Nat) (Bn n₀ : Nat) (hn₀ : 0 < n₀) (x0 : Nat) (hx0 : x0 < 18446744073709551616) (w : World) (hBnn : Bn < n₀) (hle : n₀ ≤ w.heap.size)
    (hc : w.cell? ⟨Bn, 0, none⟩ = some (.int .u64 (x0 : Int))) (hT : TzTab w) :
    SeqStopsK Fence.wide n Tryd.prog 20 #[.pointer (some ⟨Bn, 0, none⟩)] (fun i : Nat × Nat => #[Value.int .i64 (i.1 : Int), Value.int .i64 (i.2 : Int)]) (Below n₀) (fun ys => ys = runs x0 64 0) (fun pre => pre <+: runs x0 64 0) (runs x0 64 0).length w := fun l J Jx W hW _ _ hY h0 =>
  runs1_in Fence.wide rfl n l Bn n₀ hn₀ hBnn x0 hx0 J Jx hY W ((hW.cell (p := ⟨Bn, 0, none⟩) (Nat.lt_of_lt_of_le hBnn hle)).trans hc) (hT.below (Nat.lt_of_lt_of_le hn₀ hle) hW) h0
/-- words.Runs: a function over a new cell that holds the word. -/
theorem runsf_calls (x : Int) (w : World) :
    Calls Tryd.prog 11 #[.int .u64 x] w fun e w' => e = .returned (.func (.func 20) #[] #[.pointer (some ⟨w.heap.size, 0, none⟩)]) ∧ w' = w.alloc (.cells #[.int .u64 x] 22) := by
  go_enter Tryd.func11, Tryd.ntmps11
  go_wp2
  go_ret
  exact ⟨rfl, rfl⟩
end Go.Proofs.YtjjnmpidlkjeiaaDoor
