/- decimal's reader: its block in memory, and what a digit and a byte out of a few come to. -/
import Derived.Test.YtkjmbibnfohkjaaDoorProg
import Derived.Test.YtkjmbibnfohkjaaDoorWMore
import Derived.Test.YtkjmbibnfohkjaaDoorDec
import Derived.Laws.Bits64b
import Derived.Below
import Derived.Deep.Draws
import Derived.Tactics
import Derived.WalkKit
import Derived.KernelRfl
import Derived.RowKit3
import Derived.Deep.QuietTactic
import Derived.BigQuiet
namespace Go.Proofs.YtkjmbibnfohkjaaDoor.Reader
open Go.RowKit Go.Proofs.YtkjmbibnfohkjaaDoorW.PrintWords Go.Proofs.YtkjmbibnfohkjaaDoorW.PrintLast Go.Proofs.YtkjmbibnfohkjaaDoorW.PrintMore Go.Proofs.YtkjmbibnfohkjaaDoor.Dec
set_option linter.unusedVariables false

/-- The reader's block. -/
def RB (w : World) (b : Nat) (s : ByteArray) (i : Int) (n : Bool) (v : Value) (d e : Int) : Prop :=
  w.heap[b]? = some (.cells #[.string s, .int .i64 i, .bool n, v, .int .i64 d, .int .i64 e] 114 (0, 0))
theorem RB.c0 {w : World} {b : Nat} {s : ByteArray} {i : Int} {n : Bool} {v : Value} {d e : Int} (h : RB w b s i n v d e) : w.cell? ⟨b, 0, none⟩ = some (.string s) := (blk_cell h 0).trans rfl
theorem RB.c1 {w : World} {b : Nat} {s : ByteArray} {i : Int} {n : Bool} {v : Value} {d e : Int} (h : RB w b s i n v d e) : w.cell? ⟨b, 1, none⟩ = some (.int .i64 i) := (blk_cell h 1).trans rfl
theorem RB.c2 {w : World} {b : Nat} {s : ByteArray} {i : Int} {n : Bool} {v : Value} {d e : Int} (h : RB w b s i n v d e) : w.cell? ⟨b, 2, none⟩ = some (.bool n) := (blk_cell h 2).trans rfl
theorem RB.c3 {w : World} {b : Nat} {s : ByteArray} {i : Int} {n : Bool} {v : Value} {d e : Int} (h : RB w b s i n v d e) : w.cell? ⟨b, 3, none⟩ = some v := (blk_cell h 3).trans rfl
theorem RB.c4 {w : World} {b : Nat} {s : ByteArray} {i : Int} {n : Bool} {v : Value} {d e : Int} (h : RB w b s i n v d e) : w.cell? ⟨b, 4, none⟩ = some (.int .i64 d) := (blk_cell h 4).trans rfl
theorem RB.c5 {w : World} {b : Nat} {s : ByteArray} {i : Int} {n : Bool} {v : Value} {d e : Int} (h : RB w b s i n v d e) : w.cell? ⟨b, 5, none⟩ = some (.int .i64 e) := (blk_cell h 5).trans rfl
theorem RB.fr {w : World} {b : Nat} {s : ByteArray} {i : Int} {n : Bool} {v : Value} {d e : Int} (h : RB w b s i n v d e) (j : Nat) : w.frozen? ⟨b, j, none⟩ = false := blk_frozen h j
theorem RB.lt {w : World} {b : Nat} {s : ByteArray} {i : Int} {n : Bool} {v : Value} {d e : Int} (h : RB w b s i n v d e) : b < w.heap.size := blk_lt h
theorem RB.set1 {w : World} {b : Nat} {s : ByteArray} {i : Int} {n : Bool} {v : Value} {d e : Int} (h : RB w b s i n v d e) (x : Int) : RB (w.setCell ⟨b, 1, none⟩ (.int .i64 x)) b s x n v d e := blk_set h 1 _
theorem RB.set2 {w : World} {b : Nat} {s : ByteArray} {i : Int} {n : Bool} {v : Value} {d e : Int} (h : RB w b s i n v d e) (x : Bool) : RB (w.setCell ⟨b, 2, none⟩ (.bool x)) b s i x v d e := blk_set h 2 _
theorem RB.set3 {w : World} {b : Nat} {s : ByteArray} {i : Int} {n : Bool} {v : Value} {d e : Int} (h : RB w b s i n v d e) (x : Value) : RB (w.setCell ⟨b, 3, none⟩ x) b s i n x d e := blk_set h 3 _
theorem RB.set4 {w : World} {b : Nat} {s : ByteArray} {i : Int} {n : Bool} {v : Value} {d e : Int} (h : RB w b s i n v d e) (x : Int) : RB (w.setCell ⟨b, 4, none⟩ (.int .i64 x)) b s i n v x e := blk_set h 4 _
theorem RB.set5 {w : World} {b : Nat} {s : ByteArray} {i : Int} {n : Bool} {v : Value} {d e : Int} (h : RB w b s i n v d e) (x : Int) : RB (w.setCell ⟨b, 5, none⟩ (.int .i64 x)) b s i n v d x := blk_set h 5 _
theorem RB.drew {w : World} {b : Nat} {s : ByteArray} {i : Int} {n : Bool} {v : Value} {d e : Int} (h : RB w b s i n v d e) : RB w.drew b s i n v d e := h
theorem heap_drewN (w : World) : ∀ k, (w.drewN k).heap = w.heap
  | 0 => rfl
  | k + 1 => by
    have := heap_drewN w k
    exact this
theorem RB.drewN {w : World} {b : Nat} {s : ByteArray} {i : Int} {n : Bool} {v : Value} {d e : Int} (h : RB w b s i n v d e) (k : Nat) : RB (w.drewN k) b s i n v d e := by
  unfold RB
  rw [heap_drewN]
  exact h

/-- What a method has done that may write the reader's block alone. -/
structure Only (b : Nat) (w w' : World) : Prop where
  keep : KeepBut w w' b none
  below : Below b w w'
  size : w'.heap.size = w.heap.size
theorem Only.refl (b : Nat) (w : World) : Only b w w := ⟨KeepBut.refl w b none, Below.refl b w, rfl⟩
theorem Only.drewN {b : Nat} {w w' : World} (h : Only b w w') (k : Nat) : Only b w (w'.drewN k) :=
  ⟨⟨by rw [heap_drewN]; exact h.keep.1, fun i hi hg hr => by rw [heap_drewN]; exact h.keep.2 i hi hg hr⟩, by
    induction k with
    | zero => exact h.below
    | succ k ih => exact ih.drew, by rw [heap_drewN]; exact h.size⟩
theorem Only.set {b : Nat} {w w' : World} (h : Only b w w') (j : Nat) (u : Value) : Only b w (w'.setCell ⟨b, j, none⟩ u) :=
  ⟨h.keep.set_ j u, h.below.setCell (Nat.le_refl b) u, by simpa [World.setCell] using h.size⟩

theorem dg_mod {c : Int} (h0 : 0 ≤ c) (h1 : c ≤ 255) : decide ((c - 48) % 256 ≤ 9) = isDig c := by
  unfold isDig
  rw [Bool.eq_iff_iff]
  simp
  omega

theorem bt_nat (s : ByteArray) (i : Nat) : ∀ h : i < s.size, ((s[i]'h).toNat : Int) = bt s (i : Int) := fun h => bt_at s (i : Int) (by simpa using h)
set_option maxHeartbeats 800000 in
set_option maxRecDepth 100000 in
theorem digit_yes (b : Nat) (s : ByteArray) (i : Nat) (n : Bool) (v : Value) (d e : Int) (w : World) (hs : s.size ≤ 1152921504606846976) (h : RB w b s i n v d e) (hd : dg s i = true) :
    Calls Tryd.prog 110 #[.pointer (some ⟨b, 0, none⟩)] w fun r w' => r = .returned (.tuple #[.int .u8 (bt s i), .bool true]) ∧ RB w' b s ((i : Int) + 1) n v d e ∧ Only b w w' := by
  have hl := dg_lt hd
  have hdig := dg_dig hd
  have HR := Aside0.mk h
  have c0 := h.c0
  have c1 := h.c1
  have f1 := h.fr 1
  clear h hd
  have hx := bt_nat s i
  have q0 : decide (((bt s (i : Int)) - 48) % 256 ≤ 9) = true := decide_eq_true (by omega)
  have q1 : decide (i < s.size) = true := decide_eq_true hl
  go_enter Tryd.func110, Tryd.ntmps110
  go_wp2
  repeat (go_quiet (fail); try go_wp2)
  go_ret2
  exact ⟨rfl, RB.drewN (RB.set1 (RB.drewN HR.out _) _) _, Only.drewN (Only.set (Only.drewN (Only.refl b w) _) 1 _) _⟩
set_option maxHeartbeats 800000 in
set_option maxRecDepth 100000 in
theorem digit_no (b : Nat) (s : ByteArray) (i : Nat) (n : Bool) (v : Value) (d e : Int) (w : World) (hs : s.size ≤ 1152921504606846976) (h : RB w b s i n v d e) (hd : dg s i = false) :
    Calls Tryd.prog 110 #[.pointer (some ⟨b, 0, none⟩)] w fun r w' => r = .returned (.tuple #[.int .u8 0, .bool false]) ∧ RB w' b s i n v d e ∧ Only b w w' := by
  have HR := Aside0.mk h
  have c0 := h.c0
  have c1 := h.c1
  have f1 := h.fr 1
  clear h
  by_cases hl : i < s.size
  · have hx := bt_nat s i
    have hr := bt_range s (i : Int)
    have q0 : decide (((bt s (i : Int)) - 48) % 256 ≤ 9) = false := by
      rw [dg_mod hr.1 hr.2]
      unfold dg at hd
      rw [decide_eq_true hl, Bool.true_and] at hd
      exact hd
    have q1 : decide (i < s.size) = true := decide_eq_true hl
    clear hd
    go_enter Tryd.func110, Tryd.ntmps110
    go_wp2
    repeat (go_quiet (fail); try go_wp2)
    go_ret2
    exact ⟨rfl, RB.drewN HR.out _, Only.drewN (Only.refl b w) _⟩
  · have q1 : decide (i < s.size) = false := decide_eq_false hl
    clear hd
    go_enter Tryd.func110, Tryd.ntmps110
    go_wp2
    repeat (go_quiet (fail); try go_wp2)
    go_ret2
    exact ⟨rfl, RB.drewN HR.out _, Only.drewN (Only.refl b w) _⟩
end Go.Proofs.YtkjmbibnfohkjaaDoor.Reader
