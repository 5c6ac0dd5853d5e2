/- words.Each: the function that it makes gives the places of the word's set bits, rising, one a round, for every loop body that keeps what lay below a block behind the table's. -/
import Derived.RangeFuncNested
import Derived.RangeFuncBound
import Derived.RangeFuncCalls
import Derived.RangeFuncLeaves
import Derived.Shelf.Abstract
import Derived.Shelf.RegionOpen
import Derived.WalkKit
import Derived.OwnWalkIn
import Derived.TacticsInMore
import Derived.LoopNIn
import Derived.LoopIn
import Derived.Test.YtahmpmlbonpabaaDoorTz
import Derived.Test.YtahmpmlbonpabaaDoorPlaces
import Derived.Test.YtahmpmlbonpabaaDoorU64
set_option linter.unusedVariables false
namespace Go.Proofs.YtahmpmlbonpabaaDoor
open Go.RowKit Go.Shelf
attribute [local go_sem] Oper.semAt_some

theorem TzTab.below {n : Nat} {w w' : World} (h : TzTab w) (hn : 0 < n) (hb : Below n w w') : TzTab w' :=
  fun j hj => (hb.cell (p := ⟨0, j, none⟩) hn).trans (h j hj)

theorem and_pred (x : Nat) (h0 : x ≠ 0) (h : x < 18446744073709551616) : bits .and .u64 (x : Int) ((x : Int) - 1) = ((x &&& (x - 1) : Nat) : Int) := by
  have e : ((x : Int) - 1) = ((x - 1 : Nat) : Int) := by omega
  rw [e, bits_and_u64_nat x (x - 1) h (by omega)]

set_option maxHeartbeats 1000000 in
theorem each1_in (F : Fence) (hw : F = Fence.wide) (n : Nat) (l Bn n₀ : Nat) (hn₀ : 0 < n₀) (x0 : Nat) (hx0 : x0 < 18446744073709551616) (J Jx : List Nat → World → Prop)
    (hY : ∀ (pre : List Nat) (x : Nat) (W : World), J pre W → pre.length < (places x0).length → YieldAt F (n - 1) Tryd.prog l #[.int .i64 (x : Int)] W fun e W' =>
      (e = .returned (.bool true) ∧ J (pre ++ [x]) W' ∧ Below n₀ W W') ∨ (e = .returned (.bool false) ∧ Jx (pre ++ [x]) W'))
    (W : World) (hBn : W.cell? ⟨Bn, 0, none⟩ = some (.int .u64 (x0 : Int))) (hT : TzTab W) (h0 : J [] W) :
    CallsIn F n Tryd.prog 66 #[.func (.yield l) #[] #[], .pointer (some ⟨Bn, 0, none⟩)] W fun e W' => (∃ v, e = .returned v) ∧
      ((∃ ys, ys = places x0 ∧ J ys W') ∨ (∃ pre, pre <+: places x0 ∧ Jx pre W')) := by
  subst hw
  refine callsIn_of_wp Tryd.func66 rfl trivial ?_ rfl
  simp only [Tryd.ntmps66, List.size_toArray, List.length_cons, List.length_nil, Nat.reduceAdd, Nat.reduceSub, Array.replicate_succ, Array.replicate_zero, List.push_toArray, List.append_toArray, List.nil_append, List.cons_append]
  gi_wp2
  gi_loopw [3] (fun p wr => ∃ (pre : List Nat) (q : Nat), p = .int .u64 (q : Int) ∧ q < 18446744073709551616 ∧ places x0 = pre ++ places q ∧ TzTab wr ∧ J pre wr)
    (fun p _ => (places (intOf p).toNat).length)
  case atStart =>
    exact ⟨[], x0, rfl, hx0, rfl, hT, h0⟩
  case round =>
    obtain ⟨pre, q, rfl, hq, hx, hTr, hJs⟩ := hrel
    by_cases hz : q = 0
    · subst hz
      have hb : (((0 : Nat) : Int) != 0) = false := by decide
      have hs : pre = places x0 := by rw [hx, places_zero]; simp
      gi_wp2
      go_end0
      exact ⟨⟨_, rfl⟩, .inl ⟨pre, hs, hJs⟩⟩
    · have hc := places_cons q hz hq
      have hb : ((q : Int) != 0) = true := by simp; omega
      have hand := and_pred q hz hq
      have hlen : pre.length < (places x0).length := by rw [hx, hc]; simp
      obtain ⟨fn, tmps, assign, body, hy, hR⟩ := hY pre (Lib.ctz 64 q) wr hJs hlen
      have hne : ((q &&& (q - 1) : Nat) : Int) = ((q &&& (q - 1) : Nat) : Int) := rfl
      clear hne
      gi_wp2_with (refine ⟨trivial, (fun h => (by cases h)), ?_⟩; gi_at_call 67; refine (callsIn_wide.2 (tz_calls q hq _ hTr)).mono ?_; rintro e w' ⟨rfl, rfl⟩)
      refine ⟨fun h => (by cases h), ?_⟩
      refine hR.mono ?_
      rintro e W3 (⟨rfl, hJ3, hk3⟩ | ⟨rfl, hJx3⟩)
      · have hT3 := hTr.below hn₀ hk3
        gi_wp2
        go_roundw
        case rel => exact ⟨pre ++ [Lib.ctz 64 q], q &&& (q - 1), rfl, Nat.lt_of_le_of_lt Nat.and_le_left hq, by rw [hx, hc]; simp, hT3, hJ3⟩
        case measure =>
          show (places (q &&& (q - 1))).length < (places q).length
          rw [hc]
          simp
      · gi_wp2
        refine bodyPost_ret (results_none rfl _ _ _) rfl ?_
        exact ⟨⟨_, rfl⟩, .inr ⟨pre ++ [Lib.ctz 64 q], ⟨places (q &&& (q - 1)), by rw [hx, hc]; simp⟩, hJx3⟩⟩
/-- What the iterator promises every range over it. -/
theorem each_stops (n : Nat) (Bn n₀ : Nat) (hn₀ : 0 < n₀) (x0 : Nat) (hx0 : x0 < 18446744073709551616) (w : World) (hBn : Bn < w.heap.size) (hle : n₀ ≤ w.heap.size)
    (hc : w.cell? ⟨Bn, 0, none⟩ = some (.int .u64 (x0 : Int))) (hT : TzTab w) :
    SeqStopsK Fence.wide n Tryd.prog 66 #[.pointer (some ⟨Bn, 0, none⟩)] (fun i : Nat => #[Value.int .i64 (i : Int)]) (Below n₀) (fun ys => ys = places x0) (fun pre => pre <+: places x0) (places x0).length w := fun l J Jx W hW _ _ hY h0 =>
  each1_in Fence.wide rfl n l Bn n₀ hn₀ x0 hx0 J Jx hY W ((hW.cell (p := ⟨Bn, 0, none⟩) hBn).trans hc) (hT.below (Nat.lt_of_lt_of_le hn₀ hle) hW) h0

/-- words.Each: a function over a new cell that holds the word. -/
theorem each_calls (x : Int) (w : World) :
    Calls Tryd.prog 59 #[.int .u64 x] w fun e w' => e = .returned (.func (.func 66) #[] #[.pointer (some ⟨w.heap.size, 0, none⟩)]) ∧ w' = w.alloc (.cells #[.int .u64 x] 43) := by
  go_enter Tryd.func59, Tryd.ntmps59
  go_wp2
  go_ret
  exact ⟨rfl, rfl⟩
end Go.Proofs.YtahmpmlbonpabaaDoor
