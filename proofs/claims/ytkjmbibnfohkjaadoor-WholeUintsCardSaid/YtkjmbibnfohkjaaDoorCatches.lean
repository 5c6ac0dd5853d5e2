/- The deferred closures of whole.read: where put has given up, and where it has not. Printed by genread.py. -/
import Derived.Test.YtkjmbibnfohkjaaDoorShelf
import Derived.Test.YtkjmbibnfohkjaaDoorWMore
import Derived.Defers
import Derived.Recover
import Derived.Laws.Pointers
import Derived.IntWalk
namespace Go.Proofs.YtkjmbibnfohkjaaDoor
open Go.Shelf Go.RowKit Go.Lib
set_option linter.unusedVariables false
set_option linter.unusedSimpArgs false
set_option maxRecDepth 100000 in
theorem assert_over (w : World) : (Instr.typeAssert (.iface 101 (.agg #[])) 20 101 true).run Tryd.prog w = .ok (.tuple #[.agg #[], .bool true]) w := by
  first | rfl | (simp [Instr.typeAssert, go_sem]; done)
set_option maxRecDepth 100000 in
theorem assert_nil (w : World) : (Instr.typeAssert .nilIface 20 101 true).run Tryd.prog w = .ok (.tuple #[.agg #[], .bool false]) w := by
  first | rfl | (simp [Instr.typeAssert, go_sem]; done)
set_option maxRecDepth 10000 in
theorem catch_int64 (N : Nat) (x y : Int) (w : World) (hlt : N + 1 < w.heap.size) (hc : w.cell? ⟨N, 0, none⟩ = some (.int .i64 x)) (hz : w.frozen? ⟨N, 0, none⟩ = false) (hc2 : w.cell? ⟨N + 1, 0, none⟩ = some (.int .i64 y)) (hz2 : w.frozen? ⟨N + 1, 0, none⟩ = false) :
    CallsD Tryd.prog 77 #[.pointer (some ⟨N, 0, none⟩), .pointer (some ⟨N + 1, 0, none⟩)] (.panicking [{ v := .iface 101 (.agg #[]), recovered := false }]) w fun e u' w' =>
      e = .returned (.tuple #[]) ∧ u' = .panicking [{ v := .iface 101 (.agg #[]), recovered := true }] ∧ Below N w w' ∧ w'.cell? ⟨N, 0, none⟩ = some (.int .i64 0) ∧ w'.cell? ⟨N + 1, 0, none⟩ = some (.int .i64 121) := by
  refine callsD_of_wpS Tryd.func77 rfl fun c₀ cs hu => ?_
  have ha := assert_over
  simp only [Tryd.ntmps77, List.size_toArray, List.length_cons, List.length_nil, Nat.reduceAdd, Nat.reduceSub, Array.replicate_succ, Array.replicate_zero, List.push_toArray, List.append_toArray, List.nil_append, List.cons_append]
  apply wpS_seq
  apply wpS_region
  simp [wpOpsS, go_sem, recoverD, hu, Exit.thenS, ha]
  have hB : Below w.heap.size w (w.alloc (.cells #[] 101)) := (Below.refl _ w).alloc (Nat.le_refl _) _
  have k1 := (hB.cell (p := ⟨N, 0, none⟩) (by show N < _; omega)).trans hc
  have k2 := (hB.frozen (p := ⟨N, 0, none⟩) (by show N < _; omega)).trans hz
  have k3 := (hB.cell (p := ⟨N + 1, 0, none⟩) (by show N + 1 < _; omega)).trans hc2
  have k4 := (hB.frozen (p := ⟨N + 1, 0, none⟩) (by show N + 1 < _; omega)).trans hz2
  have hB' : Below N w (w.alloc (.cells #[] 101)) := hB.mono (by omega)
  clear hc hz hc2 hz2 hB
  generalize w.alloc (.cells #[] 101) = W at *
  apply wpS_seq
  apply wpS_region
  simp [wpOpsS, go_sem, Exit.thenS]
  refine wpS_cond (t := true) (by simp [Act.eval]) ?_
  simp only [if_true]
  apply wpS_region
  have k5 : (W.setCell ⟨N, 0, none⟩ (.int .i64 0)).cell? ⟨N + 1, 0, none⟩ = some (.int .i64 y) := (World.cell?_setCell_other _ _ _ _ (by simp)).trans k3
  simp [wpOpsS, go_sem, k1, k2, k4, k5, bodyPostS, results, Tryd.results77]
  exact (hB'.setCell (p := ⟨N, 0, none⟩) (Nat.le_refl _) _).setCell (p := ⟨N + 1, 0, none⟩) (Nat.le_succ _) _
set_option maxRecDepth 10000 in
theorem idle_int64 (p q : Addr) (w : World) :
    CallsD Tryd.prog 77 #[.pointer (some p), .pointer (some q)] .returning w fun e u' w' => e = .returned (.tuple #[]) ∧ u' = .returning ∧ Below w.heap.size w w' := by
  refine callsD_of_wpS Tryd.func77 rfl fun c₀ cs hu => ?_
  have ha := assert_nil
  simp only [Tryd.ntmps77, List.size_toArray, List.length_cons, List.length_nil, Nat.reduceAdd, Nat.reduceSub, Array.replicate_succ, Array.replicate_zero, List.push_toArray, List.append_toArray, List.nil_append, List.cons_append]
  apply wpS_seq
  apply wpS_region
  simp [wpOpsS, go_sem, recoverD, hu, Exit.thenS, ha]
  apply wpS_seq
  apply wpS_region
  simp [wpOpsS, go_sem, Exit.thenS]
  refine wpS_cond (t := false) (by simp [Act.eval]) ?_
  simp only [Bool.false_eq_true, if_false]
  refine wpS_of_wp (wp_skip ?_)
  have hB : Below w.heap.size w (w.alloc (.cells #[] 101)) := (Below.refl _ w).alloc (Nat.le_refl _) _
  cases c₀
  simp_all [bodyPostS, results, Tryd.results77]
set_option maxRecDepth 10000 in
theorem catch_int (N : Nat) (x y : Int) (w : World) (hlt : N + 1 < w.heap.size) (hc : w.cell? ⟨N, 0, none⟩ = some (.int .i64 x)) (hz : w.frozen? ⟨N, 0, none⟩ = false) (hc2 : w.cell? ⟨N + 1, 0, none⟩ = some (.int .i64 y)) (hz2 : w.frozen? ⟨N + 1, 0, none⟩ = false) :
    CallsD Tryd.prog 92 #[.pointer (some ⟨N, 0, none⟩), .pointer (some ⟨N + 1, 0, none⟩)] (.panicking [{ v := .iface 101 (.agg #[]), recovered := false }]) w fun e u' w' =>
      e = .returned (.tuple #[]) ∧ u' = .panicking [{ v := .iface 101 (.agg #[]), recovered := true }] ∧ Below N w w' ∧ w'.cell? ⟨N, 0, none⟩ = some (.int .i64 0) ∧ w'.cell? ⟨N + 1, 0, none⟩ = some (.int .i64 121) := by
  refine callsD_of_wpS Tryd.func92 rfl fun c₀ cs hu => ?_
  have ha := assert_over
  simp only [Tryd.ntmps92, List.size_toArray, List.length_cons, List.length_nil, Nat.reduceAdd, Nat.reduceSub, Array.replicate_succ, Array.replicate_zero, List.push_toArray, List.append_toArray, List.nil_append, List.cons_append]
  apply wpS_seq
  apply wpS_region
  simp [wpOpsS, go_sem, recoverD, hu, Exit.thenS, ha]
  have hB : Below w.heap.size w (w.alloc (.cells #[] 101)) := (Below.refl _ w).alloc (Nat.le_refl _) _
  have k1 := (hB.cell (p := ⟨N, 0, none⟩) (by show N < _; omega)).trans hc
  have k2 := (hB.frozen (p := ⟨N, 0, none⟩) (by show N < _; omega)).trans hz
  have k3 := (hB.cell (p := ⟨N + 1, 0, none⟩) (by show N + 1 < _; omega)).trans hc2
  have k4 := (hB.frozen (p := ⟨N + 1, 0, none⟩) (by show N + 1 < _; omega)).trans hz2
  have hB' : Below N w (w.alloc (.cells #[] 101)) := hB.mono (by omega)
  clear hc hz hc2 hz2 hB
  generalize w.alloc (.cells #[] 101) = W at *
  apply wpS_seq
  apply wpS_region
  simp [wpOpsS, go_sem, Exit.thenS]
  refine wpS_cond (t := true) (by simp [Act.eval]) ?_
  simp only [if_true]
  apply wpS_region
  have k5 : (W.setCell ⟨N, 0, none⟩ (.int .i64 0)).cell? ⟨N + 1, 0, none⟩ = some (.int .i64 y) := (World.cell?_setCell_other _ _ _ _ (by simp)).trans k3
  simp [wpOpsS, go_sem, k1, k2, k4, k5, bodyPostS, results, Tryd.results92]
  exact (hB'.setCell (p := ⟨N, 0, none⟩) (Nat.le_refl _) _).setCell (p := ⟨N + 1, 0, none⟩) (Nat.le_succ _) _
set_option maxRecDepth 10000 in
theorem idle_int (p q : Addr) (w : World) :
    CallsD Tryd.prog 92 #[.pointer (some p), .pointer (some q)] .returning w fun e u' w' => e = .returned (.tuple #[]) ∧ u' = .returning ∧ Below w.heap.size w w' := by
  refine callsD_of_wpS Tryd.func92 rfl fun c₀ cs hu => ?_
  have ha := assert_nil
  simp only [Tryd.ntmps92, List.size_toArray, List.length_cons, List.length_nil, Nat.reduceAdd, Nat.reduceSub, Array.replicate_succ, Array.replicate_zero, List.push_toArray, List.append_toArray, List.nil_append, List.cons_append]
  apply wpS_seq
  apply wpS_region
  simp [wpOpsS, go_sem, recoverD, hu, Exit.thenS, ha]
  apply wpS_seq
  apply wpS_region
  simp [wpOpsS, go_sem, Exit.thenS]
  refine wpS_cond (t := false) (by simp [Act.eval]) ?_
  simp only [Bool.false_eq_true, if_false]
  refine wpS_of_wp (wp_skip ?_)
  have hB : Below w.heap.size w (w.alloc (.cells #[] 101)) := (Below.refl _ w).alloc (Nat.le_refl _) _
  cases c₀
  simp_all [bodyPostS, results, Tryd.results92]
set_option maxRecDepth 10000 in
theorem catch_Wide (N : Nat) (x y : Int) (w : World) (hlt : N + 1 < w.heap.size) (hc : w.cell? ⟨N, 0, none⟩ = some (.int .i64 x)) (hz : w.frozen? ⟨N, 0, none⟩ = false) (hc2 : w.cell? ⟨N + 1, 0, none⟩ = some (.int .i64 y)) (hz2 : w.frozen? ⟨N + 1, 0, none⟩ = false) :
    CallsD Tryd.prog 94 #[.pointer (some ⟨N, 0, none⟩), .pointer (some ⟨N + 1, 0, none⟩)] (.panicking [{ v := .iface 101 (.agg #[]), recovered := false }]) w fun e u' w' =>
      e = .returned (.tuple #[]) ∧ u' = .panicking [{ v := .iface 101 (.agg #[]), recovered := true }] ∧ Below N w w' ∧ w'.cell? ⟨N, 0, none⟩ = some (.int .i64 0) ∧ w'.cell? ⟨N + 1, 0, none⟩ = some (.int .i64 121) := by
  refine callsD_of_wpS Tryd.func94 rfl fun c₀ cs hu => ?_
  have ha := assert_over
  simp only [Tryd.ntmps94, List.size_toArray, List.length_cons, List.length_nil, Nat.reduceAdd, Nat.reduceSub, Array.replicate_succ, Array.replicate_zero, List.push_toArray, List.append_toArray, List.nil_append, List.cons_append]
  apply wpS_seq
  apply wpS_region
  simp [wpOpsS, go_sem, recoverD, hu, Exit.thenS, ha]
  have hB : Below w.heap.size w (w.alloc (.cells #[] 101)) := (Below.refl _ w).alloc (Nat.le_refl _) _
  have k1 := (hB.cell (p := ⟨N, 0, none⟩) (by show N < _; omega)).trans hc
  have k2 := (hB.frozen (p := ⟨N, 0, none⟩) (by show N < _; omega)).trans hz
  have k3 := (hB.cell (p := ⟨N + 1, 0, none⟩) (by show N + 1 < _; omega)).trans hc2
  have k4 := (hB.frozen (p := ⟨N + 1, 0, none⟩) (by show N + 1 < _; omega)).trans hz2
  have hB' : Below N w (w.alloc (.cells #[] 101)) := hB.mono (by omega)
  clear hc hz hc2 hz2 hB
  generalize w.alloc (.cells #[] 101) = W at *
  apply wpS_seq
  apply wpS_region
  simp [wpOpsS, go_sem, Exit.thenS]
  refine wpS_cond (t := true) (by simp [Act.eval]) ?_
  simp only [if_true]
  apply wpS_region
  have k5 : (W.setCell ⟨N, 0, none⟩ (.int .i64 0)).cell? ⟨N + 1, 0, none⟩ = some (.int .i64 y) := (World.cell?_setCell_other _ _ _ _ (by simp)).trans k3
  simp [wpOpsS, go_sem, k1, k2, k4, k5, bodyPostS, results, Tryd.results94]
  exact (hB'.setCell (p := ⟨N, 0, none⟩) (Nat.le_refl _) _).setCell (p := ⟨N + 1, 0, none⟩) (Nat.le_succ _) _
set_option maxRecDepth 10000 in
theorem idle_Wide (p q : Addr) (w : World) :
    CallsD Tryd.prog 94 #[.pointer (some p), .pointer (some q)] .returning w fun e u' w' => e = .returned (.tuple #[]) ∧ u' = .returning ∧ Below w.heap.size w w' := by
  refine callsD_of_wpS Tryd.func94 rfl fun c₀ cs hu => ?_
  have ha := assert_nil
  simp only [Tryd.ntmps94, List.size_toArray, List.length_cons, List.length_nil, Nat.reduceAdd, Nat.reduceSub, Array.replicate_succ, Array.replicate_zero, List.push_toArray, List.append_toArray, List.nil_append, List.cons_append]
  apply wpS_seq
  apply wpS_region
  simp [wpOpsS, go_sem, recoverD, hu, Exit.thenS, ha]
  apply wpS_seq
  apply wpS_region
  simp [wpOpsS, go_sem, Exit.thenS]
  refine wpS_cond (t := false) (by simp [Act.eval]) ?_
  simp only [Bool.false_eq_true, if_false]
  refine wpS_of_wp (wp_skip ?_)
  have hB : Below w.heap.size w (w.alloc (.cells #[] 101)) := (Below.refl _ w).alloc (Nat.le_refl _) _
  cases c₀
  simp_all [bodyPostS, results, Tryd.results94]
set_option maxRecDepth 10000 in
theorem catch_int32 (N : Nat) (x y : Int) (w : World) (hlt : N + 1 < w.heap.size) (hc : w.cell? ⟨N, 0, none⟩ = some (.int .i32 x)) (hz : w.frozen? ⟨N, 0, none⟩ = false) (hc2 : w.cell? ⟨N + 1, 0, none⟩ = some (.int .i64 y)) (hz2 : w.frozen? ⟨N + 1, 0, none⟩ = false) :
    CallsD Tryd.prog 75 #[.pointer (some ⟨N, 0, none⟩), .pointer (some ⟨N + 1, 0, none⟩)] (.panicking [{ v := .iface 101 (.agg #[]), recovered := false }]) w fun e u' w' =>
      e = .returned (.tuple #[]) ∧ u' = .panicking [{ v := .iface 101 (.agg #[]), recovered := true }] ∧ Below N w w' ∧ w'.cell? ⟨N, 0, none⟩ = some (.int .i32 0) ∧ w'.cell? ⟨N + 1, 0, none⟩ = some (.int .i64 121) := by
  refine callsD_of_wpS Tryd.func75 rfl fun c₀ cs hu => ?_
  have ha := assert_over
  simp only [Tryd.ntmps75, List.size_toArray, List.length_cons, List.length_nil, Nat.reduceAdd, Nat.reduceSub, Array.replicate_succ, Array.replicate_zero, List.push_toArray, List.append_toArray, List.nil_append, List.cons_append]
  apply wpS_seq
  apply wpS_region
  simp [wpOpsS, go_sem, recoverD, hu, Exit.thenS, ha]
  have hB : Below w.heap.size w (w.alloc (.cells #[] 101)) := (Below.refl _ w).alloc (Nat.le_refl _) _
  have k1 := (hB.cell (p := ⟨N, 0, none⟩) (by show N < _; omega)).trans hc
  have k2 := (hB.frozen (p := ⟨N, 0, none⟩) (by show N < _; omega)).trans hz
  have k3 := (hB.cell (p := ⟨N + 1, 0, none⟩) (by show N + 1 < _; omega)).trans hc2
  have k4 := (hB.frozen (p := ⟨N + 1, 0, none⟩) (by show N + 1 < _; omega)).trans hz2
  have hB' : Below N w (w.alloc (.cells #[] 101)) := hB.mono (by omega)
  clear hc hz hc2 hz2 hB
  generalize w.alloc (.cells #[] 101) = W at *
  apply wpS_seq
  apply wpS_region
  simp [wpOpsS, go_sem, Exit.thenS]
  refine wpS_cond (t := true) (by simp [Act.eval]) ?_
  simp only [if_true]
  apply wpS_region
  have k5 : (W.setCell ⟨N, 0, none⟩ (.int .i32 0)).cell? ⟨N + 1, 0, none⟩ = some (.int .i64 y) := (World.cell?_setCell_other _ _ _ _ (by simp)).trans k3
  simp [wpOpsS, go_sem, k1, k2, k4, k5, bodyPostS, results, Tryd.results75]
  exact (hB'.setCell (p := ⟨N, 0, none⟩) (Nat.le_refl _) _).setCell (p := ⟨N + 1, 0, none⟩) (Nat.le_succ _) _
set_option maxRecDepth 10000 in
theorem idle_int32 (p q : Addr) (w : World) :
    CallsD Tryd.prog 75 #[.pointer (some p), .pointer (some q)] .returning w fun e u' w' => e = .returned (.tuple #[]) ∧ u' = .returning ∧ Below w.heap.size w w' := by
  refine callsD_of_wpS Tryd.func75 rfl fun c₀ cs hu => ?_
  have ha := assert_nil
  simp only [Tryd.ntmps75, List.size_toArray, List.length_cons, List.length_nil, Nat.reduceAdd, Nat.reduceSub, Array.replicate_succ, Array.replicate_zero, List.push_toArray, List.append_toArray, List.nil_append, List.cons_append]
  apply wpS_seq
  apply wpS_region
  simp [wpOpsS, go_sem, recoverD, hu, Exit.thenS, ha]
  apply wpS_seq
  apply wpS_region
  simp [wpOpsS, go_sem, Exit.thenS]
  refine wpS_cond (t := false) (by simp [Act.eval]) ?_
  simp only [Bool.false_eq_true, if_false]
  refine wpS_of_wp (wp_skip ?_)
  have hB : Below w.heap.size w (w.alloc (.cells #[] 101)) := (Below.refl _ w).alloc (Nat.le_refl _) _
  cases c₀
  simp_all [bodyPostS, results, Tryd.results75]
set_option maxRecDepth 10000 in
theorem catch_int16 (N : Nat) (x y : Int) (w : World) (hlt : N + 1 < w.heap.size) (hc : w.cell? ⟨N, 0, none⟩ = some (.int .i16 x)) (hz : w.frozen? ⟨N, 0, none⟩ = false) (hc2 : w.cell? ⟨N + 1, 0, none⟩ = some (.int .i64 y)) (hz2 : w.frozen? ⟨N + 1, 0, none⟩ = false) :
    CallsD Tryd.prog 73 #[.pointer (some ⟨N, 0, none⟩), .pointer (some ⟨N + 1, 0, none⟩)] (.panicking [{ v := .iface 101 (.agg #[]), recovered := false }]) w fun e u' w' =>
      e = .returned (.tuple #[]) ∧ u' = .panicking [{ v := .iface 101 (.agg #[]), recovered := true }] ∧ Below N w w' ∧ w'.cell? ⟨N, 0, none⟩ = some (.int .i16 0) ∧ w'.cell? ⟨N + 1, 0, none⟩ = some (.int .i64 121) := by
  refine callsD_of_wpS Tryd.func73 rfl fun c₀ cs hu => ?_
  have ha := assert_over
  simp only [Tryd.ntmps73, List.size_toArray, List.length_cons, List.length_nil, Nat.reduceAdd, Nat.reduceSub, Array.replicate_succ, Array.replicate_zero, List.push_toArray, List.append_toArray, List.nil_append, List.cons_append]
  apply wpS_seq
  apply wpS_region
  simp [wpOpsS, go_sem, recoverD, hu, Exit.thenS, ha]
  have hB : Below w.heap.size w (w.alloc (.cells #[] 101)) := (Below.refl _ w).alloc (Nat.le_refl _) _
  have k1 := (hB.cell (p := ⟨N, 0, none⟩) (by show N < _; omega)).trans hc
  have k2 := (hB.frozen (p := ⟨N, 0, none⟩) (by show N < _; omega)).trans hz
  have k3 := (hB.cell (p := ⟨N + 1, 0, none⟩) (by show N + 1 < _; omega)).trans hc2
  have k4 := (hB.frozen (p := ⟨N + 1, 0, none⟩) (by show N + 1 < _; omega)).trans hz2
  have hB' : Below N w (w.alloc (.cells #[] 101)) := hB.mono (by omega)
  clear hc hz hc2 hz2 hB
  generalize w.alloc (.cells #[] 101) = W at *
  apply wpS_seq
  apply wpS_region
  simp [wpOpsS, go_sem, Exit.thenS]
  refine wpS_cond (t := true) (by simp [Act.eval]) ?_
  simp only [if_true]
  apply wpS_region
  have k5 : (W.setCell ⟨N, 0, none⟩ (.int .i16 0)).cell? ⟨N + 1, 0, none⟩ = some (.int .i64 y) := (World.cell?_setCell_other _ _ _ _ (by simp)).trans k3
  simp [wpOpsS, go_sem, k1, k2, k4, k5, bodyPostS, results, Tryd.results73]
  exact (hB'.setCell (p := ⟨N, 0, none⟩) (Nat.le_refl _) _).setCell (p := ⟨N + 1, 0, none⟩) (Nat.le_succ _) _
set_option maxRecDepth 10000 in
theorem idle_int16 (p q : Addr) (w : World) :
    CallsD Tryd.prog 73 #[.pointer (some p), .pointer (some q)] .returning w fun e u' w' => e = .returned (.tuple #[]) ∧ u' = .returning ∧ Below w.heap.size w w' := by
  refine callsD_of_wpS Tryd.func73 rfl fun c₀ cs hu => ?_
  have ha := assert_nil
  simp only [Tryd.ntmps73, List.size_toArray, List.length_cons, List.length_nil, Nat.reduceAdd, Nat.reduceSub, Array.replicate_succ, Array.replicate_zero, List.push_toArray, List.append_toArray, List.nil_append, List.cons_append]
  apply wpS_seq
  apply wpS_region
  simp [wpOpsS, go_sem, recoverD, hu, Exit.thenS, ha]
  apply wpS_seq
  apply wpS_region
  simp [wpOpsS, go_sem, Exit.thenS]
  refine wpS_cond (t := false) (by simp [Act.eval]) ?_
  simp only [Bool.false_eq_true, if_false]
  refine wpS_of_wp (wp_skip ?_)
  have hB : Below w.heap.size w (w.alloc (.cells #[] 101)) := (Below.refl _ w).alloc (Nat.le_refl _) _
  cases c₀
  simp_all [bodyPostS, results, Tryd.results73]
set_option maxRecDepth 10000 in
theorem catch_int8 (N : Nat) (x y : Int) (w : World) (hlt : N + 1 < w.heap.size) (hc : w.cell? ⟨N, 0, none⟩ = some (.int .i8 x)) (hz : w.frozen? ⟨N, 0, none⟩ = false) (hc2 : w.cell? ⟨N + 1, 0, none⟩ = some (.int .i64 y)) (hz2 : w.frozen? ⟨N + 1, 0, none⟩ = false) :
    CallsD Tryd.prog 70 #[.pointer (some ⟨N, 0, none⟩), .pointer (some ⟨N + 1, 0, none⟩)] (.panicking [{ v := .iface 101 (.agg #[]), recovered := false }]) w fun e u' w' =>
      e = .returned (.tuple #[]) ∧ u' = .panicking [{ v := .iface 101 (.agg #[]), recovered := true }] ∧ Below N w w' ∧ w'.cell? ⟨N, 0, none⟩ = some (.int .i8 0) ∧ w'.cell? ⟨N + 1, 0, none⟩ = some (.int .i64 121) := by
  refine callsD_of_wpS Tryd.func70 rfl fun c₀ cs hu => ?_
  have ha := assert_over
  simp only [Tryd.ntmps70, List.size_toArray, List.length_cons, List.length_nil, Nat.reduceAdd, Nat.reduceSub, Array.replicate_succ, Array.replicate_zero, List.push_toArray, List.append_toArray, List.nil_append, List.cons_append]
  apply wpS_seq
  apply wpS_region
  simp [wpOpsS, go_sem, recoverD, hu, Exit.thenS, ha]
  have hB : Below w.heap.size w (w.alloc (.cells #[] 101)) := (Below.refl _ w).alloc (Nat.le_refl _) _
  have k1 := (hB.cell (p := ⟨N, 0, none⟩) (by show N < _; omega)).trans hc
  have k2 := (hB.frozen (p := ⟨N, 0, none⟩) (by show N < _; omega)).trans hz
  have k3 := (hB.cell (p := ⟨N + 1, 0, none⟩) (by show N + 1 < _; omega)).trans hc2
  have k4 := (hB.frozen (p := ⟨N + 1, 0, none⟩) (by show N + 1 < _; omega)).trans hz2
  have hB' : Below N w (w.alloc (.cells #[] 101)) := hB.mono (by omega)
  clear hc hz hc2 hz2 hB
  generalize w.alloc (.cells #[] 101) = W at *
  apply wpS_seq
  apply wpS_region
  simp [wpOpsS, go_sem, Exit.thenS]
  refine wpS_cond (t := true) (by simp [Act.eval]) ?_
  simp only [if_true]
  apply wpS_region
  have k5 : (W.setCell ⟨N, 0, none⟩ (.int .i8 0)).cell? ⟨N + 1, 0, none⟩ = some (.int .i64 y) := (World.cell?_setCell_other _ _ _ _ (by simp)).trans k3
  simp [wpOpsS, go_sem, k1, k2, k4, k5, bodyPostS, results, Tryd.results70]
  exact (hB'.setCell (p := ⟨N, 0, none⟩) (Nat.le_refl _) _).setCell (p := ⟨N + 1, 0, none⟩) (Nat.le_succ _) _
set_option maxRecDepth 10000 in
theorem idle_int8 (p q : Addr) (w : World) :
    CallsD Tryd.prog 70 #[.pointer (some p), .pointer (some q)] .returning w fun e u' w' => e = .returned (.tuple #[]) ∧ u' = .returning ∧ Below w.heap.size w w' := by
  refine callsD_of_wpS Tryd.func70 rfl fun c₀ cs hu => ?_
  have ha := assert_nil
  simp only [Tryd.ntmps70, List.size_toArray, List.length_cons, List.length_nil, Nat.reduceAdd, Nat.reduceSub, Array.replicate_succ, Array.replicate_zero, List.push_toArray, List.append_toArray, List.nil_append, List.cons_append]
  apply wpS_seq
  apply wpS_region
  simp [wpOpsS, go_sem, recoverD, hu, Exit.thenS, ha]
  apply wpS_seq
  apply wpS_region
  simp [wpOpsS, go_sem, Exit.thenS]
  refine wpS_cond (t := false) (by simp [Act.eval]) ?_
  simp only [Bool.false_eq_true, if_false]
  refine wpS_of_wp (wp_skip ?_)
  have hB : Below w.heap.size w (w.alloc (.cells #[] 101)) := (Below.refl _ w).alloc (Nat.le_refl _) _
  cases c₀
  simp_all [bodyPostS, results, Tryd.results70]
set_option maxRecDepth 10000 in
theorem catch_Small (N : Nat) (x y : Int) (w : World) (hlt : N + 1 < w.heap.size) (hc : w.cell? ⟨N, 0, none⟩ = some (.int .i8 x)) (hz : w.frozen? ⟨N, 0, none⟩ = false) (hc2 : w.cell? ⟨N + 1, 0, none⟩ = some (.int .i64 y)) (hz2 : w.frozen? ⟨N + 1, 0, none⟩ = false) :
    CallsD Tryd.prog 90 #[.pointer (some ⟨N, 0, none⟩), .pointer (some ⟨N + 1, 0, none⟩)] (.panicking [{ v := .iface 101 (.agg #[]), recovered := false }]) w fun e u' w' =>
      e = .returned (.tuple #[]) ∧ u' = .panicking [{ v := .iface 101 (.agg #[]), recovered := true }] ∧ Below N w w' ∧ w'.cell? ⟨N, 0, none⟩ = some (.int .i8 0) ∧ w'.cell? ⟨N + 1, 0, none⟩ = some (.int .i64 121) := by
  refine callsD_of_wpS Tryd.func90 rfl fun c₀ cs hu => ?_
  have ha := assert_over
  simp only [Tryd.ntmps90, List.size_toArray, List.length_cons, List.length_nil, Nat.reduceAdd, Nat.reduceSub, Array.replicate_succ, Array.replicate_zero, List.push_toArray, List.append_toArray, List.nil_append, List.cons_append]
  apply wpS_seq
  apply wpS_region
  simp [wpOpsS, go_sem, recoverD, hu, Exit.thenS, ha]
  have hB : Below w.heap.size w (w.alloc (.cells #[] 101)) := (Below.refl _ w).alloc (Nat.le_refl _) _
  have k1 := (hB.cell (p := ⟨N, 0, none⟩) (by show N < _; omega)).trans hc
  have k2 := (hB.frozen (p := ⟨N, 0, none⟩) (by show N < _; omega)).trans hz
  have k3 := (hB.cell (p := ⟨N + 1, 0, none⟩) (by show N + 1 < _; omega)).trans hc2
  have k4 := (hB.frozen (p := ⟨N + 1, 0, none⟩) (by show N + 1 < _; omega)).trans hz2
  have hB' : Below N w (w.alloc (.cells #[] 101)) := hB.mono (by omega)
  clear hc hz hc2 hz2 hB
  generalize w.alloc (.cells #[] 101) = W at *
  apply wpS_seq
  apply wpS_region
  simp [wpOpsS, go_sem, Exit.thenS]
  refine wpS_cond (t := true) (by simp [Act.eval]) ?_
  simp only [if_true]
  apply wpS_region
  have k5 : (W.setCell ⟨N, 0, none⟩ (.int .i8 0)).cell? ⟨N + 1, 0, none⟩ = some (.int .i64 y) := (World.cell?_setCell_other _ _ _ _ (by simp)).trans k3
  simp [wpOpsS, go_sem, k1, k2, k4, k5, bodyPostS, results, Tryd.results90]
  exact (hB'.setCell (p := ⟨N, 0, none⟩) (Nat.le_refl _) _).setCell (p := ⟨N + 1, 0, none⟩) (Nat.le_succ _) _
set_option maxRecDepth 10000 in
theorem idle_Small (p q : Addr) (w : World) :
    CallsD Tryd.prog 90 #[.pointer (some p), .pointer (some q)] .returning w fun e u' w' => e = .returned (.tuple #[]) ∧ u' = .returning ∧ Below w.heap.size w w' := by
  refine callsD_of_wpS Tryd.func90 rfl fun c₀ cs hu => ?_
  have ha := assert_nil
  simp only [Tryd.ntmps90, List.size_toArray, List.length_cons, List.length_nil, Nat.reduceAdd, Nat.reduceSub, Array.replicate_succ, Array.replicate_zero, List.push_toArray, List.append_toArray, List.nil_append, List.cons_append]
  apply wpS_seq
  apply wpS_region
  simp [wpOpsS, go_sem, recoverD, hu, Exit.thenS, ha]
  apply wpS_seq
  apply wpS_region
  simp [wpOpsS, go_sem, Exit.thenS]
  refine wpS_cond (t := false) (by simp [Act.eval]) ?_
  simp only [Bool.false_eq_true, if_false]
  refine wpS_of_wp (wp_skip ?_)
  have hB : Below w.heap.size w (w.alloc (.cells #[] 101)) := (Below.refl _ w).alloc (Nat.le_refl _) _
  cases c₀
  simp_all [bodyPostS, results, Tryd.results90]
set_option maxRecDepth 10000 in
theorem catch_uint64 (N : Nat) (x y : Int) (w : World) (hlt : N + 1 < w.heap.size) (hc : w.cell? ⟨N, 0, none⟩ = some (.int .u64 x)) (hz : w.frozen? ⟨N, 0, none⟩ = false) (hc2 : w.cell? ⟨N + 1, 0, none⟩ = some (.int .i64 y)) (hz2 : w.frozen? ⟨N + 1, 0, none⟩ = false) :
    CallsD Tryd.prog 85 #[.pointer (some ⟨N, 0, none⟩), .pointer (some ⟨N + 1, 0, none⟩)] (.panicking [{ v := .iface 101 (.agg #[]), recovered := false }]) w fun e u' w' =>
      e = .returned (.tuple #[]) ∧ u' = .panicking [{ v := .iface 101 (.agg #[]), recovered := true }] ∧ Below N w w' ∧ w'.cell? ⟨N, 0, none⟩ = some (.int .u64 0) ∧ w'.cell? ⟨N + 1, 0, none⟩ = some (.int .i64 121) := by
  refine callsD_of_wpS Tryd.func85 rfl fun c₀ cs hu => ?_
  have ha := assert_over
  simp only [Tryd.ntmps85, List.size_toArray, List.length_cons, List.length_nil, Nat.reduceAdd, Nat.reduceSub, Array.replicate_succ, Array.replicate_zero, List.push_toArray, List.append_toArray, List.nil_append, List.cons_append]
  apply wpS_seq
  apply wpS_region
  simp [wpOpsS, go_sem, recoverD, hu, Exit.thenS, ha]
  have hB : Below w.heap.size w (w.alloc (.cells #[] 101)) := (Below.refl _ w).alloc (Nat.le_refl _) _
  have k1 := (hB.cell (p := ⟨N, 0, none⟩) (by show N < _; omega)).trans hc
  have k2 := (hB.frozen (p := ⟨N, 0, none⟩) (by show N < _; omega)).trans hz
  have k3 := (hB.cell (p := ⟨N + 1, 0, none⟩) (by show N + 1 < _; omega)).trans hc2
  have k4 := (hB.frozen (p := ⟨N + 1, 0, none⟩) (by show N + 1 < _; omega)).trans hz2
  have hB' : Below N w (w.alloc (.cells #[] 101)) := hB.mono (by omega)
  clear hc hz hc2 hz2 hB
  generalize w.alloc (.cells #[] 101) = W at *
  apply wpS_seq
  apply wpS_region
  simp [wpOpsS, go_sem, Exit.thenS]
  refine wpS_cond (t := true) (by simp [Act.eval]) ?_
  simp only [if_true]
  apply wpS_region
  have k5 : (W.setCell ⟨N, 0, none⟩ (.int .u64 0)).cell? ⟨N + 1, 0, none⟩ = some (.int .i64 y) := (World.cell?_setCell_other _ _ _ _ (by simp)).trans k3
  simp [wpOpsS, go_sem, k1, k2, k4, k5, bodyPostS, results, Tryd.results85]
  exact (hB'.setCell (p := ⟨N, 0, none⟩) (Nat.le_refl _) _).setCell (p := ⟨N + 1, 0, none⟩) (Nat.le_succ _) _
set_option maxRecDepth 10000 in
theorem idle_uint64 (p q : Addr) (w : World) :
    CallsD Tryd.prog 85 #[.pointer (some p), .pointer (some q)] .returning w fun e u' w' => e = .returned (.tuple #[]) ∧ u' = .returning ∧ Below w.heap.size w w' := by
  refine callsD_of_wpS Tryd.func85 rfl fun c₀ cs hu => ?_
  have ha := assert_nil
  simp only [Tryd.ntmps85, List.size_toArray, List.length_cons, List.length_nil, Nat.reduceAdd, Nat.reduceSub, Array.replicate_succ, Array.replicate_zero, List.push_toArray, List.append_toArray, List.nil_append, List.cons_append]
  apply wpS_seq
  apply wpS_region
  simp [wpOpsS, go_sem, recoverD, hu, Exit.thenS, ha]
  apply wpS_seq
  apply wpS_region
  simp [wpOpsS, go_sem, Exit.thenS]
  refine wpS_cond (t := false) (by simp [Act.eval]) ?_
  simp only [Bool.false_eq_true, if_false]
  refine wpS_of_wp (wp_skip ?_)
  have hB : Below w.heap.size w (w.alloc (.cells #[] 101)) := (Below.refl _ w).alloc (Nat.le_refl _) _
  cases c₀
  simp_all [bodyPostS, results, Tryd.results85]
set_option maxRecDepth 10000 in
theorem catch_uint (N : Nat) (x y : Int) (w : World) (hlt : N + 1 < w.heap.size) (hc : w.cell? ⟨N, 0, none⟩ = some (.int .u64 x)) (hz : w.frozen? ⟨N, 0, none⟩ = false) (hc2 : w.cell? ⟨N + 1, 0, none⟩ = some (.int .i64 y)) (hz2 : w.frozen? ⟨N + 1, 0, none⟩ = false) :
    CallsD Tryd.prog 98 #[.pointer (some ⟨N, 0, none⟩), .pointer (some ⟨N + 1, 0, none⟩)] (.panicking [{ v := .iface 101 (.agg #[]), recovered := false }]) w fun e u' w' =>
      e = .returned (.tuple #[]) ∧ u' = .panicking [{ v := .iface 101 (.agg #[]), recovered := true }] ∧ Below N w w' ∧ w'.cell? ⟨N, 0, none⟩ = some (.int .u64 0) ∧ w'.cell? ⟨N + 1, 0, none⟩ = some (.int .i64 121) := by
  refine callsD_of_wpS Tryd.func98 rfl fun c₀ cs hu => ?_
  have ha := assert_over
  simp only [Tryd.ntmps98, List.size_toArray, List.length_cons, List.length_nil, Nat.reduceAdd, Nat.reduceSub, Array.replicate_succ, Array.replicate_zero, List.push_toArray, List.append_toArray, List.nil_append, List.cons_append]
  apply wpS_seq
  apply wpS_region
  simp [wpOpsS, go_sem, recoverD, hu, Exit.thenS, ha]
  have hB : Below w.heap.size w (w.alloc (.cells #[] 101)) := (Below.refl _ w).alloc (Nat.le_refl _) _
  have k1 := (hB.cell (p := ⟨N, 0, none⟩) (by show N < _; omega)).trans hc
  have k2 := (hB.frozen (p := ⟨N, 0, none⟩) (by show N < _; omega)).trans hz
  have k3 := (hB.cell (p := ⟨N + 1, 0, none⟩) (by show N + 1 < _; omega)).trans hc2
  have k4 := (hB.frozen (p := ⟨N + 1, 0, none⟩) (by show N + 1 < _; omega)).trans hz2
  have hB' : Below N w (w.alloc (.cells #[] 101)) := hB.mono (by omega)
  clear hc hz hc2 hz2 hB
  generalize w.alloc (.cells #[] 101) = W at *
  apply wpS_seq
  apply wpS_region
  simp [wpOpsS, go_sem, Exit.thenS]
  refine wpS_cond (t := true) (by simp [Act.eval]) ?_
  simp only [if_true]
  apply wpS_region
  have k5 : (W.setCell ⟨N, 0, none⟩ (.int .u64 0)).cell? ⟨N + 1, 0, none⟩ = some (.int .i64 y) := (World.cell?_setCell_other _ _ _ _ (by simp)).trans k3
  simp [wpOpsS, go_sem, k1, k2, k4, k5, bodyPostS, results, Tryd.results98]
  exact (hB'.setCell (p := ⟨N, 0, none⟩) (Nat.le_refl _) _).setCell (p := ⟨N + 1, 0, none⟩) (Nat.le_succ _) _
set_option maxRecDepth 10000 in
theorem idle_uint (p q : Addr) (w : World) :
    CallsD Tryd.prog 98 #[.pointer (some p), .pointer (some q)] .returning w fun e u' w' => e = .returned (.tuple #[]) ∧ u' = .returning ∧ Below w.heap.size w w' := by
  refine callsD_of_wpS Tryd.func98 rfl fun c₀ cs hu => ?_
  have ha := assert_nil
  simp only [Tryd.ntmps98, List.size_toArray, List.length_cons, List.length_nil, Nat.reduceAdd, Nat.reduceSub, Array.replicate_succ, Array.replicate_zero, List.push_toArray, List.append_toArray, List.nil_append, List.cons_append]
  apply wpS_seq
  apply wpS_region
  simp [wpOpsS, go_sem, recoverD, hu, Exit.thenS, ha]
  apply wpS_seq
  apply wpS_region
  simp [wpOpsS, go_sem, Exit.thenS]
  refine wpS_cond (t := false) (by simp [Act.eval]) ?_
  simp only [Bool.false_eq_true, if_false]
  refine wpS_of_wp (wp_skip ?_)
  have hB : Below w.heap.size w (w.alloc (.cells #[] 101)) := (Below.refl _ w).alloc (Nat.le_refl _) _
  cases c₀
  simp_all [bodyPostS, results, Tryd.results98]
set_option maxRecDepth 10000 in
theorem catch_Long (N : Nat) (x y : Int) (w : World) (hlt : N + 1 < w.heap.size) (hc : w.cell? ⟨N, 0, none⟩ = some (.int .u64 x)) (hz : w.frozen? ⟨N, 0, none⟩ = false) (hc2 : w.cell? ⟨N + 1, 0, none⟩ = some (.int .i64 y)) (hz2 : w.frozen? ⟨N + 1, 0, none⟩ = false) :
    CallsD Tryd.prog 100 #[.pointer (some ⟨N, 0, none⟩), .pointer (some ⟨N + 1, 0, none⟩)] (.panicking [{ v := .iface 101 (.agg #[]), recovered := false }]) w fun e u' w' =>
      e = .returned (.tuple #[]) ∧ u' = .panicking [{ v := .iface 101 (.agg #[]), recovered := true }] ∧ Below N w w' ∧ w'.cell? ⟨N, 0, none⟩ = some (.int .u64 0) ∧ w'.cell? ⟨N + 1, 0, none⟩ = some (.int .i64 121) := by
  refine callsD_of_wpS Tryd.func100 rfl fun c₀ cs hu => ?_
  have ha := assert_over
  simp only [Tryd.ntmps100, List.size_toArray, List.length_cons, List.length_nil, Nat.reduceAdd, Nat.reduceSub, Array.replicate_succ, Array.replicate_zero, List.push_toArray, List.append_toArray, List.nil_append, List.cons_append]
  apply wpS_seq
  apply wpS_region
  simp [wpOpsS, go_sem, recoverD, hu, Exit.thenS, ha]
  have hB : Below w.heap.size w (w.alloc (.cells #[] 101)) := (Below.refl _ w).alloc (Nat.le_refl _) _
  have k1 := (hB.cell (p := ⟨N, 0, none⟩) (by show N < _; omega)).trans hc
  have k2 := (hB.frozen (p := ⟨N, 0, none⟩) (by show N < _; omega)).trans hz
  have k3 := (hB.cell (p := ⟨N + 1, 0, none⟩) (by show N + 1 < _; omega)).trans hc2
  have k4 := (hB.frozen (p := ⟨N + 1, 0, none⟩) (by show N + 1 < _; omega)).trans hz2
  have hB' : Below N w (w.alloc (.cells #[] 101)) := hB.mono (by omega)
  clear hc hz hc2 hz2 hB
  generalize w.alloc (.cells #[] 101) = W at *
  apply wpS_seq
  apply wpS_region
  simp [wpOpsS, go_sem, Exit.thenS]
  refine wpS_cond (t := true) (by simp [Act.eval]) ?_
  simp only [if_true]
  apply wpS_region
  have k5 : (W.setCell ⟨N, 0, none⟩ (.int .u64 0)).cell? ⟨N + 1, 0, none⟩ = some (.int .i64 y) := (World.cell?_setCell_other _ _ _ _ (by simp)).trans k3
  simp [wpOpsS, go_sem, k1, k2, k4, k5, bodyPostS, results, Tryd.results100]
  exact (hB'.setCell (p := ⟨N, 0, none⟩) (Nat.le_refl _) _).setCell (p := ⟨N + 1, 0, none⟩) (Nat.le_succ _) _
set_option maxRecDepth 10000 in
theorem idle_Long (p q : Addr) (w : World) :
    CallsD Tryd.prog 100 #[.pointer (some p), .pointer (some q)] .returning w fun e u' w' => e = .returned (.tuple #[]) ∧ u' = .returning ∧ Below w.heap.size w w' := by
  refine callsD_of_wpS Tryd.func100 rfl fun c₀ cs hu => ?_
  have ha := assert_nil
  simp only [Tryd.ntmps100, List.size_toArray, List.length_cons, List.length_nil, Nat.reduceAdd, Nat.reduceSub, Array.replicate_succ, Array.replicate_zero, List.push_toArray, List.append_toArray, List.nil_append, List.cons_append]
  apply wpS_seq
  apply wpS_region
  simp [wpOpsS, go_sem, recoverD, hu, Exit.thenS, ha]
  apply wpS_seq
  apply wpS_region
  simp [wpOpsS, go_sem, Exit.thenS]
  refine wpS_cond (t := false) (by simp [Act.eval]) ?_
  simp only [Bool.false_eq_true, if_false]
  refine wpS_of_wp (wp_skip ?_)
  have hB : Below w.heap.size w (w.alloc (.cells #[] 101)) := (Below.refl _ w).alloc (Nat.le_refl _) _
  cases c₀
  simp_all [bodyPostS, results, Tryd.results100]
set_option maxRecDepth 10000 in
theorem catch_uint32 (N : Nat) (x y : Int) (w : World) (hlt : N + 1 < w.heap.size) (hc : w.cell? ⟨N, 0, none⟩ = some (.int .u32 x)) (hz : w.frozen? ⟨N, 0, none⟩ = false) (hc2 : w.cell? ⟨N + 1, 0, none⟩ = some (.int .i64 y)) (hz2 : w.frozen? ⟨N + 1, 0, none⟩ = false) :
    CallsD Tryd.prog 83 #[.pointer (some ⟨N, 0, none⟩), .pointer (some ⟨N + 1, 0, none⟩)] (.panicking [{ v := .iface 101 (.agg #[]), recovered := false }]) w fun e u' w' =>
      e = .returned (.tuple #[]) ∧ u' = .panicking [{ v := .iface 101 (.agg #[]), recovered := true }] ∧ Below N w w' ∧ w'.cell? ⟨N, 0, none⟩ = some (.int .u32 0) ∧ w'.cell? ⟨N + 1, 0, none⟩ = some (.int .i64 121) := by
  refine callsD_of_wpS Tryd.func83 rfl fun c₀ cs hu => ?_
  have ha := assert_over
  simp only [Tryd.ntmps83, List.size_toArray, List.length_cons, List.length_nil, Nat.reduceAdd, Nat.reduceSub, Array.replicate_succ, Array.replicate_zero, List.push_toArray, List.append_toArray, List.nil_append, List.cons_append]
  apply wpS_seq
  apply wpS_region
  simp [wpOpsS, go_sem, recoverD, hu, Exit.thenS, ha]
  have hB : Below w.heap.size w (w.alloc (.cells #[] 101)) := (Below.refl _ w).alloc (Nat.le_refl _) _
  have k1 := (hB.cell (p := ⟨N, 0, none⟩) (by show N < _; omega)).trans hc
  have k2 := (hB.frozen (p := ⟨N, 0, none⟩) (by show N < _; omega)).trans hz
  have k3 := (hB.cell (p := ⟨N + 1, 0, none⟩) (by show N + 1 < _; omega)).trans hc2
  have k4 := (hB.frozen (p := ⟨N + 1, 0, none⟩) (by show N + 1 < _; omega)).trans hz2
  have hB' : Below N w (w.alloc (.cells #[] 101)) := hB.mono (by omega)
  clear hc hz hc2 hz2 hB
  generalize w.alloc (.cells #[] 101) = W at *
  apply wpS_seq
  apply wpS_region
  simp [wpOpsS, go_sem, Exit.thenS]
  refine wpS_cond (t := true) (by simp [Act.eval]) ?_
  simp only [if_true]
  apply wpS_region
  have k5 : (W.setCell ⟨N, 0, none⟩ (.int .u32 0)).cell? ⟨N + 1, 0, none⟩ = some (.int .i64 y) := (World.cell?_setCell_other _ _ _ _ (by simp)).trans k3
  simp [wpOpsS, go_sem, k1, k2, k4, k5, bodyPostS, results, Tryd.results83]
  exact (hB'.setCell (p := ⟨N, 0, none⟩) (Nat.le_refl _) _).setCell (p := ⟨N + 1, 0, none⟩) (Nat.le_succ _) _
set_option maxRecDepth 10000 in
theorem idle_uint32 (p q : Addr) (w : World) :
    CallsD Tryd.prog 83 #[.pointer (some p), .pointer (some q)] .returning w fun e u' w' => e = .returned (.tuple #[]) ∧ u' = .returning ∧ Below w.heap.size w w' := by
  refine callsD_of_wpS Tryd.func83 rfl fun c₀ cs hu => ?_
  have ha := assert_nil
  simp only [Tryd.ntmps83, List.size_toArray, List.length_cons, List.length_nil, Nat.reduceAdd, Nat.reduceSub, Array.replicate_succ, Array.replicate_zero, List.push_toArray, List.append_toArray, List.nil_append, List.cons_append]
  apply wpS_seq
  apply wpS_region
  simp [wpOpsS, go_sem, recoverD, hu, Exit.thenS, ha]
  apply wpS_seq
  apply wpS_region
  simp [wpOpsS, go_sem, Exit.thenS]
  refine wpS_cond (t := false) (by simp [Act.eval]) ?_
  simp only [Bool.false_eq_true, if_false]
  refine wpS_of_wp (wp_skip ?_)
  have hB : Below w.heap.size w (w.alloc (.cells #[] 101)) := (Below.refl _ w).alloc (Nat.le_refl _) _
  cases c₀
  simp_all [bodyPostS, results, Tryd.results83]
set_option maxRecDepth 10000 in
theorem catch_uint16 (N : Nat) (x y : Int) (w : World) (hlt : N + 1 < w.heap.size) (hc : w.cell? ⟨N, 0, none⟩ = some (.int .u16 x)) (hz : w.frozen? ⟨N, 0, none⟩ = false) (hc2 : w.cell? ⟨N + 1, 0, none⟩ = some (.int .i64 y)) (hz2 : w.frozen? ⟨N + 1, 0, none⟩ = false) :
    CallsD Tryd.prog 81 #[.pointer (some ⟨N, 0, none⟩), .pointer (some ⟨N + 1, 0, none⟩)] (.panicking [{ v := .iface 101 (.agg #[]), recovered := false }]) w fun e u' w' =>
      e = .returned (.tuple #[]) ∧ u' = .panicking [{ v := .iface 101 (.agg #[]), recovered := true }] ∧ Below N w w' ∧ w'.cell? ⟨N, 0, none⟩ = some (.int .u16 0) ∧ w'.cell? ⟨N + 1, 0, none⟩ = some (.int .i64 121) := by
  refine callsD_of_wpS Tryd.func81 rfl fun c₀ cs hu => ?_
  have ha := assert_over
  simp only [Tryd.ntmps81, List.size_toArray, List.length_cons, List.length_nil, Nat.reduceAdd, Nat.reduceSub, Array.replicate_succ, Array.replicate_zero, List.push_toArray, List.append_toArray, List.nil_append, List.cons_append]
  apply wpS_seq
  apply wpS_region
  simp [wpOpsS, go_sem, recoverD, hu, Exit.thenS, ha]
  have hB : Below w.heap.size w (w.alloc (.cells #[] 101)) := (Below.refl _ w).alloc (Nat.le_refl _) _
  have k1 := (hB.cell (p := ⟨N, 0, none⟩) (by show N < _; omega)).trans hc
  have k2 := (hB.frozen (p := ⟨N, 0, none⟩) (by show N < _; omega)).trans hz
  have k3 := (hB.cell (p := ⟨N + 1, 0, none⟩) (by show N + 1 < _; omega)).trans hc2
  have k4 := (hB.frozen (p := ⟨N + 1, 0, none⟩) (by show N + 1 < _; omega)).trans hz2
  have hB' : Below N w (w.alloc (.cells #[] 101)) := hB.mono (by omega)
  clear hc hz hc2 hz2 hB
  generalize w.alloc (.cells #[] 101) = W at *
  apply wpS_seq
  apply wpS_region
  simp [wpOpsS, go_sem, Exit.thenS]
  refine wpS_cond (t := true) (by simp [Act.eval]) ?_
  simp only [if_true]
  apply wpS_region
  have k5 : (W.setCell ⟨N, 0, none⟩ (.int .u16 0)).cell? ⟨N + 1, 0, none⟩ = some (.int .i64 y) := (World.cell?_setCell_other _ _ _ _ (by simp)).trans k3
  simp [wpOpsS, go_sem, k1, k2, k4, k5, bodyPostS, results, Tryd.results81]
  exact (hB'.setCell (p := ⟨N, 0, none⟩) (Nat.le_refl _) _).setCell (p := ⟨N + 1, 0, none⟩) (Nat.le_succ _) _
set_option maxRecDepth 10000 in
theorem idle_uint16 (p q : Addr) (w : World) :
    CallsD Tryd.prog 81 #[.pointer (some p), .pointer (some q)] .returning w fun e u' w' => e = .returned (.tuple #[]) ∧ u' = .returning ∧ Below w.heap.size w w' := by
  refine callsD_of_wpS Tryd.func81 rfl fun c₀ cs hu => ?_
  have ha := assert_nil
  simp only [Tryd.ntmps81, List.size_toArray, List.length_cons, List.length_nil, Nat.reduceAdd, Nat.reduceSub, Array.replicate_succ, Array.replicate_zero, List.push_toArray, List.append_toArray, List.nil_append, List.cons_append]
  apply wpS_seq
  apply wpS_region
  simp [wpOpsS, go_sem, recoverD, hu, Exit.thenS, ha]
  apply wpS_seq
  apply wpS_region
  simp [wpOpsS, go_sem, Exit.thenS]
  refine wpS_cond (t := false) (by simp [Act.eval]) ?_
  simp only [Bool.false_eq_true, if_false]
  refine wpS_of_wp (wp_skip ?_)
  have hB : Below w.heap.size w (w.alloc (.cells #[] 101)) := (Below.refl _ w).alloc (Nat.le_refl _) _
  cases c₀
  simp_all [bodyPostS, results, Tryd.results81]
set_option maxRecDepth 10000 in
theorem catch_uint8 (N : Nat) (x y : Int) (w : World) (hlt : N + 1 < w.heap.size) (hc : w.cell? ⟨N, 0, none⟩ = some (.int .u8 x)) (hz : w.frozen? ⟨N, 0, none⟩ = false) (hc2 : w.cell? ⟨N + 1, 0, none⟩ = some (.int .i64 y)) (hz2 : w.frozen? ⟨N + 1, 0, none⟩ = false) :
    CallsD Tryd.prog 79 #[.pointer (some ⟨N, 0, none⟩), .pointer (some ⟨N + 1, 0, none⟩)] (.panicking [{ v := .iface 101 (.agg #[]), recovered := false }]) w fun e u' w' =>
      e = .returned (.tuple #[]) ∧ u' = .panicking [{ v := .iface 101 (.agg #[]), recovered := true }] ∧ Below N w w' ∧ w'.cell? ⟨N, 0, none⟩ = some (.int .u8 0) ∧ w'.cell? ⟨N + 1, 0, none⟩ = some (.int .i64 121) := by
  refine callsD_of_wpS Tryd.func79 rfl fun c₀ cs hu => ?_
  have ha := assert_over
  simp only [Tryd.ntmps79, List.size_toArray, List.length_cons, List.length_nil, Nat.reduceAdd, Nat.reduceSub, Array.replicate_succ, Array.replicate_zero, List.push_toArray, List.append_toArray, List.nil_append, List.cons_append]
  apply wpS_seq
  apply wpS_region
  simp [wpOpsS, go_sem, recoverD, hu, Exit.thenS, ha]
  have hB : Below w.heap.size w (w.alloc (.cells #[] 101)) := (Below.refl _ w).alloc (Nat.le_refl _) _
  have k1 := (hB.cell (p := ⟨N, 0, none⟩) (by show N < _; omega)).trans hc
  have k2 := (hB.frozen (p := ⟨N, 0, none⟩) (by show N < _; omega)).trans hz
  have k3 := (hB.cell (p := ⟨N + 1, 0, none⟩) (by show N + 1 < _; omega)).trans hc2
  have k4 := (hB.frozen (p := ⟨N + 1, 0, none⟩) (by show N + 1 < _; omega)).trans hz2
  have hB' : Below N w (w.alloc (.cells #[] 101)) := hB.mono (by omega)
  clear hc hz hc2 hz2 hB
  generalize w.alloc (.cells #[] 101) = W at *
  apply wpS_seq
  apply wpS_region
  simp [wpOpsS, go_sem, Exit.thenS]
  refine wpS_cond (t := true) (by simp [Act.eval]) ?_
  simp only [if_true]
  apply wpS_region
  have k5 : (W.setCell ⟨N, 0, none⟩ (.int .u8 0)).cell? ⟨N + 1, 0, none⟩ = some (.int .i64 y) := (World.cell?_setCell_other _ _ _ _ (by simp)).trans k3
  simp [wpOpsS, go_sem, k1, k2, k4, k5, bodyPostS, results, Tryd.results79]
  exact (hB'.setCell (p := ⟨N, 0, none⟩) (Nat.le_refl _) _).setCell (p := ⟨N + 1, 0, none⟩) (Nat.le_succ _) _
set_option maxRecDepth 10000 in
theorem idle_uint8 (p q : Addr) (w : World) :
    CallsD Tryd.prog 79 #[.pointer (some p), .pointer (some q)] .returning w fun e u' w' => e = .returned (.tuple #[]) ∧ u' = .returning ∧ Below w.heap.size w w' := by
  refine callsD_of_wpS Tryd.func79 rfl fun c₀ cs hu => ?_
  have ha := assert_nil
  simp only [Tryd.ntmps79, List.size_toArray, List.length_cons, List.length_nil, Nat.reduceAdd, Nat.reduceSub, Array.replicate_succ, Array.replicate_zero, List.push_toArray, List.append_toArray, List.nil_append, List.cons_append]
  apply wpS_seq
  apply wpS_region
  simp [wpOpsS, go_sem, recoverD, hu, Exit.thenS, ha]
  apply wpS_seq
  apply wpS_region
  simp [wpOpsS, go_sem, Exit.thenS]
  refine wpS_cond (t := false) (by simp [Act.eval]) ?_
  simp only [Bool.false_eq_true, if_false]
  refine wpS_of_wp (wp_skip ?_)
  have hB : Below w.heap.size w (w.alloc (.cells #[] 101)) := (Below.refl _ w).alloc (Nat.le_refl _) _
  cases c₀
  simp_all [bodyPostS, results, Tryd.results79]
set_option maxRecDepth 10000 in
theorem catch_Byte (N : Nat) (x y : Int) (w : World) (hlt : N + 1 < w.heap.size) (hc : w.cell? ⟨N, 0, none⟩ = some (.int .u8 x)) (hz : w.frozen? ⟨N, 0, none⟩ = false) (hc2 : w.cell? ⟨N + 1, 0, none⟩ = some (.int .i64 y)) (hz2 : w.frozen? ⟨N + 1, 0, none⟩ = false) :
    CallsD Tryd.prog 96 #[.pointer (some ⟨N, 0, none⟩), .pointer (some ⟨N + 1, 0, none⟩)] (.panicking [{ v := .iface 101 (.agg #[]), recovered := false }]) w fun e u' w' =>
      e = .returned (.tuple #[]) ∧ u' = .panicking [{ v := .iface 101 (.agg #[]), recovered := true }] ∧ Below N w w' ∧ w'.cell? ⟨N, 0, none⟩ = some (.int .u8 0) ∧ w'.cell? ⟨N + 1, 0, none⟩ = some (.int .i64 121) := by
  refine callsD_of_wpS Tryd.func96 rfl fun c₀ cs hu => ?_
  have ha := assert_over
  simp only [Tryd.ntmps96, List.size_toArray, List.length_cons, List.length_nil, Nat.reduceAdd, Nat.reduceSub, Array.replicate_succ, Array.replicate_zero, List.push_toArray, List.append_toArray, List.nil_append, List.cons_append]
  apply wpS_seq
  apply wpS_region
  simp [wpOpsS, go_sem, recoverD, hu, Exit.thenS, ha]
  have hB : Below w.heap.size w (w.alloc (.cells #[] 101)) := (Below.refl _ w).alloc (Nat.le_refl _) _
  have k1 := (hB.cell (p := ⟨N, 0, none⟩) (by show N < _; omega)).trans hc
  have k2 := (hB.frozen (p := ⟨N, 0, none⟩) (by show N < _; omega)).trans hz
  have k3 := (hB.cell (p := ⟨N + 1, 0, none⟩) (by show N + 1 < _; omega)).trans hc2
  have k4 := (hB.frozen (p := ⟨N + 1, 0, none⟩) (by show N + 1 < _; omega)).trans hz2
  have hB' : Below N w (w.alloc (.cells #[] 101)) := hB.mono (by omega)
  clear hc hz hc2 hz2 hB
  generalize w.alloc (.cells #[] 101) = W at *
  apply wpS_seq
  apply wpS_region
  simp [wpOpsS, go_sem, Exit.thenS]
  refine wpS_cond (t := true) (by simp [Act.eval]) ?_
  simp only [if_true]
  apply wpS_region
  have k5 : (W.setCell ⟨N, 0, none⟩ (.int .u8 0)).cell? ⟨N + 1, 0, none⟩ = some (.int .i64 y) := (World.cell?_setCell_other _ _ _ _ (by simp)).trans k3
  simp [wpOpsS, go_sem, k1, k2, k4, k5, bodyPostS, results, Tryd.results96]
  exact (hB'.setCell (p := ⟨N, 0, none⟩) (Nat.le_refl _) _).setCell (p := ⟨N + 1, 0, none⟩) (Nat.le_succ _) _
set_option maxRecDepth 10000 in
theorem idle_Byte (p q : Addr) (w : World) :
    CallsD Tryd.prog 96 #[.pointer (some p), .pointer (some q)] .returning w fun e u' w' => e = .returned (.tuple #[]) ∧ u' = .returning ∧ Below w.heap.size w w' := by
  refine callsD_of_wpS Tryd.func96 rfl fun c₀ cs hu => ?_
  have ha := assert_nil
  simp only [Tryd.ntmps96, List.size_toArray, List.length_cons, List.length_nil, Nat.reduceAdd, Nat.reduceSub, Array.replicate_succ, Array.replicate_zero, List.push_toArray, List.append_toArray, List.nil_append, List.cons_append]
  apply wpS_seq
  apply wpS_region
  simp [wpOpsS, go_sem, recoverD, hu, Exit.thenS, ha]
  apply wpS_seq
  apply wpS_region
  simp [wpOpsS, go_sem, Exit.thenS]
  refine wpS_cond (t := false) (by simp [Act.eval]) ?_
  simp only [Bool.false_eq_true, if_false]
  refine wpS_of_wp (wp_skip ?_)
  have hB : Below w.heap.size w (w.alloc (.cells #[] 101)) := (Below.refl _ w).alloc (Nat.le_refl _) _
  cases c₀
  simp_all [bodyPostS, results, Tryd.results96]
open Go.Proofs.YtkjmbibnfohkjaaDoorW Go.Proofs.YtkjmbibnfohkjaaDoorW.PrintWords
theorem alloc_at (w : World) (o : Obj) : (w.alloc o).heap[w.heap.size]? = some o := by
  show (w.heap.push o)[w.heap.size]? = some o
  rw [Array.getElem?_push_size]
/-- The results' variables, written over. -/
theorem two_set {w : World} {g : Nat} {a b : Value} {t u : TypeId} (h0 : w.heap[g]? = some (.cells #[a] t (0, 0))) (h1 : w.heap[g + 1]? = some (.cells #[b] u (0, 0))) (a' b' : Value) :
    ((w.setCell ⟨g, 0, none⟩ a').setCell ⟨g + 1, 0, none⟩ b').heap[g]? = some (.cells #[a'] t (0, 0)) ∧ ((w.setCell ⟨g, 0, none⟩ a').setCell ⟨g + 1, 0, none⟩ b').heap[g + 1]? = some (.cells #[b'] u (0, 0)) :=
  ⟨blk_far (blk_set h0 0 a') (by show g ≠ g + 1; omega) _, blk_set (blk_far h1 (by show g + 1 ≠ g; omega) _) 0 b'⟩
/-- Cells of two variables, whatever is laid behind them. -/
theorem cells_behind {w : World} {g : Nat} {v : Value} {t : TypeId} (h : w.heap[g]? = some (.cells #[v] t (0, 0))) (o : Obj) : (w.alloc o).cell? ⟨g, 0, none⟩ = some v ∧ (w.alloc o).frozen? ⟨g, 0, none⟩ = false :=
  ⟨(blk_cell (blk_alloc h o) 0).trans rfl, blk_frozen (blk_alloc h o) 0⟩
/-- The two new variables of the results. -/
theorem two_new (w : World) (a b : Value) (t u : TypeId) : ((w.alloc (.cells #[a] t)).alloc (.cells #[b] u)).heap[w.heap.size]? = some (.cells #[a] t (0, 0)) ∧ ((w.alloc (.cells #[a] t)).alloc (.cells #[b] u)).heap[w.heap.size + 1]? = some (.cells #[b] u (0, 0)) ∧
    Below w.heap.size w ((w.alloc (.cells #[a] t)).alloc (.cells #[b] u)) ∧ ((w.alloc (.cells #[a] t)).alloc (.cells #[b] u)).heap.size = w.heap.size + 1 + 1 := by
  refine ⟨?_, ?_, ((Below.refl _ w).alloc (Nat.le_refl _) _).alloc (by simp) _, by simp⟩
  · exact (((Below.refl _ (w.alloc (.cells #[a] t))).alloc (Nat.le_refl _) _).block w.heap.size (by simp)).trans (alloc_at w _)
  · have := alloc_at (w.alloc (.cells #[a] t)) (.cells #[b] u)
    rw [World.size_alloc] at this
    exact this
end Go.Proofs.YtkjmbibnfohkjaaDoor
