/- utf8.Bad: the walk; what it tells, byte by byte. Printed by wip/trie/genu8.py. -/
import Derived.Test.YthlneooboiphdaaProg
import Derived.Test.YthlneooboiphdaaWLast
import Derived.Test.YthlneooboiphdaaWMore
import Derived.WalkKit
import Derived.StillTailTactics
set_option linter.unusedVariables false
set_option linter.unusedSimpArgs false
namespace Go.Proofs.Ythlneooboiphdaa
open Go.RowKit Go.Proofs.YthlneooboiphdaaW.PrintWords Go.Proofs.YthlneooboiphdaaW.PrintLast Go.Proofs.YthlneooboiphdaaW.PrintMore

/-- What a first byte asks: how many more, and the next one's bounds. -/
def u8first (x : Int) : Option (Int × Int × Int) :=
  if x < 128 then some (0, 128, 191) else if x < 194 ∨ 244 < x then none else
  some (if 240 ≤ x then 3 else if 224 ≤ x then 2 else 1, if x = 224 then 160 else if x = 240 then 144 else 128, if x = 237 then 159 else if x = 244 then 143 else 191)
/-- The state of a Scan in its block. -/
structure U8At (w : World) (b : Nat) (want lo hi ch came : Int) (bad : Bool) : Prop where
  c0 : w.cell? ⟨b, 0, none⟩ = some (.int .i64 want)
  c1 : w.cell? ⟨b, 1, none⟩ = some (.int .u8 lo)
  c2 : w.cell? ⟨b, 2, none⟩ = some (.int .u8 hi)
  c3 : w.cell? ⟨b, 3, none⟩ = some (.int .i32 ch)
  c4 : w.cell? ⟨b, 4, none⟩ = some (.int .i64 came)
  c5 : w.cell? ⟨b, 5, none⟩ = some (.bool bad)
  f0 : w.frozen? ⟨b, 0, none⟩ = false
  f1 : w.frozen? ⟨b, 1, none⟩ = false
  f2 : w.frozen? ⟨b, 2, none⟩ = false
  f3 : w.frozen? ⟨b, 3, none⟩ = false
  f4 : w.frozen? ⟨b, 4, none⟩ = false
  f5 : w.frozen? ⟨b, 5, none⟩ = false
theorem u8_other {w : World} {b i j : Nat} {u v : Value} (h : w.cell? ⟨b, j, none⟩ = some u) (hij : i ≠ j) : (w.setCell ⟨b, i, none⟩ v).cell? ⟨b, j, none⟩ = some u := (World.cell?_setCell_other w ⟨b, i, none⟩ ⟨b, j, none⟩ v (by intro e; injection e with _ e2 _; exact hij e2)).trans h
theorem u8_same {w : World} {b i : Nat} {u v : Value} (h : w.cell? ⟨b, i, none⟩ = some u) : (w.setCell ⟨b, i, none⟩ v).cell? ⟨b, i, none⟩ = some v := World.cell?_setCell_same' _ _ _ (by rw [h]; rfl)
theorem U8At.put0 {w : World} {b : Nat} {want lo hi ch came : Int} {bad : Bool} (h : U8At w b want lo hi ch came bad) (v : Int) : U8At (w.setCell ⟨b, 0, none⟩ (.int .i64 v)) b v lo hi ch came bad := ⟨u8_same h.c0, u8_other h.c1 (by decide), u8_other h.c2 (by decide), u8_other h.c3 (by decide), u8_other h.c4 (by decide), u8_other h.c5 (by decide), (World.frozen?_setCell ..).trans h.f0, (World.frozen?_setCell ..).trans h.f1, (World.frozen?_setCell ..).trans h.f2, (World.frozen?_setCell ..).trans h.f3, (World.frozen?_setCell ..).trans h.f4, (World.frozen?_setCell ..).trans h.f5⟩
theorem U8At.put1 {w : World} {b : Nat} {want lo hi ch came : Int} {bad : Bool} (h : U8At w b want lo hi ch came bad) (v : Int) : U8At (w.setCell ⟨b, 1, none⟩ (.int .u8 v)) b want v hi ch came bad := ⟨u8_other h.c0 (by decide), u8_same h.c1, u8_other h.c2 (by decide), u8_other h.c3 (by decide), u8_other h.c4 (by decide), u8_other h.c5 (by decide), (World.frozen?_setCell ..).trans h.f0, (World.frozen?_setCell ..).trans h.f1, (World.frozen?_setCell ..).trans h.f2, (World.frozen?_setCell ..).trans h.f3, (World.frozen?_setCell ..).trans h.f4, (World.frozen?_setCell ..).trans h.f5⟩
theorem U8At.put2 {w : World} {b : Nat} {want lo hi ch came : Int} {bad : Bool} (h : U8At w b want lo hi ch came bad) (v : Int) : U8At (w.setCell ⟨b, 2, none⟩ (.int .u8 v)) b want lo v ch came bad := ⟨u8_other h.c0 (by decide), u8_other h.c1 (by decide), u8_same h.c2, u8_other h.c3 (by decide), u8_other h.c4 (by decide), u8_other h.c5 (by decide), (World.frozen?_setCell ..).trans h.f0, (World.frozen?_setCell ..).trans h.f1, (World.frozen?_setCell ..).trans h.f2, (World.frozen?_setCell ..).trans h.f3, (World.frozen?_setCell ..).trans h.f4, (World.frozen?_setCell ..).trans h.f5⟩
theorem U8At.put3 {w : World} {b : Nat} {want lo hi ch came : Int} {bad : Bool} (h : U8At w b want lo hi ch came bad) (v : Int) : U8At (w.setCell ⟨b, 3, none⟩ (.int .i32 v)) b want lo hi v came bad := ⟨u8_other h.c0 (by decide), u8_other h.c1 (by decide), u8_other h.c2 (by decide), u8_same h.c3, u8_other h.c4 (by decide), u8_other h.c5 (by decide), (World.frozen?_setCell ..).trans h.f0, (World.frozen?_setCell ..).trans h.f1, (World.frozen?_setCell ..).trans h.f2, (World.frozen?_setCell ..).trans h.f3, (World.frozen?_setCell ..).trans h.f4, (World.frozen?_setCell ..).trans h.f5⟩
theorem U8At.put4 {w : World} {b : Nat} {want lo hi ch came : Int} {bad : Bool} (h : U8At w b want lo hi ch came bad) (v : Int) : U8At (w.setCell ⟨b, 4, none⟩ (.int .i64 v)) b want lo hi ch v bad := ⟨u8_other h.c0 (by decide), u8_other h.c1 (by decide), u8_other h.c2 (by decide), u8_other h.c3 (by decide), u8_same h.c4, u8_other h.c5 (by decide), (World.frozen?_setCell ..).trans h.f0, (World.frozen?_setCell ..).trans h.f1, (World.frozen?_setCell ..).trans h.f2, (World.frozen?_setCell ..).trans h.f3, (World.frozen?_setCell ..).trans h.f4, (World.frozen?_setCell ..).trans h.f5⟩
theorem U8At.put5 {w : World} {b : Nat} {want lo hi ch came : Int} {bad : Bool} (h : U8At w b want lo hi ch came bad) (v : Bool) : U8At (w.setCell ⟨b, 5, none⟩ (.bool v)) b want lo hi ch came v := ⟨u8_other h.c0 (by decide), u8_other h.c1 (by decide), u8_other h.c2 (by decide), u8_other h.c3 (by decide), u8_other h.c4 (by decide), u8_same h.c5, (World.frozen?_setCell ..).trans h.f0, (World.frozen?_setCell ..).trans h.f1, (World.frozen?_setCell ..).trans h.f2, (World.frozen?_setCell ..).trans h.f3, (World.frozen?_setCell ..).trans h.f4, (World.frozen?_setCell ..).trans h.f5⟩
theorem U8At.drewN {w : World} {b : Nat} {want lo hi ch came : Int} {bad : Bool} (h : U8At w b want lo hi ch came bad) (n : Nat) : U8At (w.drewN n) b want lo hi ch came bad := ⟨h.c0, h.c1, h.c2, h.c3, h.c4, h.c5, h.f0, h.f1, h.f2, h.f3, h.f4, h.f5⟩
theorem wp_gen8 {P : Program} {c : Code} {Q : Exit → Act → World → Prop} {a : Act} {w W : World} {b : Nat} {want lo hi ch came : Int} {bad : Bool} (hU : U8At W b want lo hi ch came bad) (hB : Below b w W) (k : ∀ W1, U8At W1 b want lo hi ch came bad → Below b w W1 → c.wp P Q a W1) : c.wp P Q a W := k W hU hB
theorem below_own {b : Nat} {w W : World} (h : Below b w W) (i : Nat) (v : Value) : Below b w (W.setCell ⟨b, i, none⟩ v) := h.setCell (Nat.le_refl _) _
theorem u8first_p1 (x : Int) (h0 : 0 ≤ x) (hx : x < 128) : u8first x = some (0, 128, 191) := by
  unfold u8first
  rw [if_pos hx]
set_option maxHeartbeats 4000000 in
theorem u8begin_p1 (b : Nat) (want lo hi ch came : Int) (bad : Bool) (x : Int) (w : World) (hU : U8At w b want lo hi ch came bad) (h0 : 0 ≤ x) (hx : x < 128) :
    Calls Try.prog 96 #[.pointer (some ⟨b, 0, none⟩), .int .u8 x] w fun e w' => e = .returned (.bool true) ∧ (∃ ch', U8At w' b 0 128 191 ch' came bad) ∧ Below b w w' := by
  have HU := Aside0.mk hU
  have HB := Aside0.mk (Below.refl b w)
  obtain ⟨c0, c1, c2, c3, c4, c5, f0, f1, f2, f3, f4, f5⟩ := hU
  have d0 : decide (x < 128) = true := decide_eq_true (by omega)
  have d1 : decide (x < 194) = true := decide_eq_true (by omega)
  have d2 : decide (244 < x) = false := decide_eq_false (by omega)
  have d3 : decide (240 ≤ x) = false := decide_eq_false (by omega)
  have d4 : decide (224 ≤ x) = false := decide_eq_false (by omega)
  have d5 : (x == 224) = false := by simp; omega
  have d6 : (x == 237) = false := by simp; omega
  have d7 : (x == 240) = false := by simp; omega
  have d8 : (x == 244) = false := by simp; omega
  clear hx
  go_enter Try.func96, Try.ntmps96
  go_wp2
  go_ret
  exact ⟨rfl, ⟨_, by repeat (with_reducible first | exact HU.out | apply U8At.put0 | apply U8At.put1 | apply U8At.put2 | apply U8At.put3 | apply U8At.put4 | apply U8At.put5)⟩, by repeat (with_reducible first | exact HB.out | refine below_own ?_ _ _)⟩
theorem u8first_p2 (x : Int) (h0 : 0 ≤ x) (hx : 128 ≤ x ∧ x < 194) : u8first x = none := by
  unfold u8first
  rw [if_neg (by omega), if_pos (by omega)]
set_option maxHeartbeats 4000000 in
theorem u8begin_p2 (b : Nat) (want lo hi ch came : Int) (bad : Bool) (x : Int) (w : World) (hU : U8At w b want lo hi ch came bad) (h0 : 0 ≤ x) (hx : 128 ≤ x ∧ x < 194) :
    Calls Try.prog 96 #[.pointer (some ⟨b, 0, none⟩), .int .u8 x] w fun e w' => e = .returned (.bool false) ∧ (∃ a l u ch', U8At w' b a l u ch' came bad) ∧ Below b w w' := by
  have HU := Aside0.mk hU
  have HB := Aside0.mk (Below.refl b w)
  obtain ⟨c0, c1, c2, c3, c4, c5, f0, f1, f2, f3, f4, f5⟩ := hU
  have d0 : decide (x < 128) = false := decide_eq_false (by omega)
  have d1 : decide (x < 194) = true := decide_eq_true (by omega)
  have d2 : decide (244 < x) = false := decide_eq_false (by omega)
  have d3 : decide (240 ≤ x) = false := decide_eq_false (by omega)
  have d4 : decide (224 ≤ x) = false := decide_eq_false (by omega)
  have d5 : (x == 224) = false := by simp; omega
  have d6 : (x == 237) = false := by simp; omega
  have d7 : (x == 240) = false := by simp; omega
  have d8 : (x == 244) = false := by simp; omega
  clear hx
  go_enter Try.func96, Try.ntmps96
  go_wp2
  go_ret
  exact ⟨rfl, ⟨_, _, _, _, by repeat (with_reducible first | exact HU.out | apply U8At.put0 | apply U8At.put1 | apply U8At.put2 | apply U8At.put3 | apply U8At.put4 | apply U8At.put5)⟩, by repeat (with_reducible first | exact HB.out | refine below_own ?_ _ _)⟩
theorem u8first_p3 (x : Int) (h0 : 0 ≤ x) (hx : 244 < x ∧ x < 256) : u8first x = none := by
  unfold u8first
  rw [if_neg (by omega), if_pos (by omega)]
set_option maxHeartbeats 4000000 in
theorem u8begin_p3 (b : Nat) (want lo hi ch came : Int) (bad : Bool) (x : Int) (w : World) (hU : U8At w b want lo hi ch came bad) (h0 : 0 ≤ x) (hx : 244 < x ∧ x < 256) :
    Calls Try.prog 96 #[.pointer (some ⟨b, 0, none⟩), .int .u8 x] w fun e w' => e = .returned (.bool false) ∧ (∃ a l u ch', U8At w' b a l u ch' came bad) ∧ Below b w w' := by
  have HU := Aside0.mk hU
  have HB := Aside0.mk (Below.refl b w)
  obtain ⟨c0, c1, c2, c3, c4, c5, f0, f1, f2, f3, f4, f5⟩ := hU
  have d0 : decide (x < 128) = false := decide_eq_false (by omega)
  have d1 : decide (x < 194) = false := decide_eq_false (by omega)
  have d2 : decide (244 < x) = true := decide_eq_true (by omega)
  have d3 : decide (240 ≤ x) = true := decide_eq_true (by omega)
  have d4 : decide (224 ≤ x) = true := decide_eq_true (by omega)
  have d5 : (x == 224) = false := by simp; omega
  have d6 : (x == 237) = false := by simp; omega
  have d7 : (x == 240) = false := by simp; omega
  have d8 : (x == 244) = false := by simp; omega
  clear hx
  go_enter Try.func96, Try.ntmps96
  go_wp2
  go_ret
  exact ⟨rfl, ⟨_, _, _, _, by repeat (with_reducible first | exact HU.out | apply U8At.put0 | apply U8At.put1 | apply U8At.put2 | apply U8At.put3 | apply U8At.put4 | apply U8At.put5)⟩, by repeat (with_reducible first | exact HB.out | refine below_own ?_ _ _)⟩
theorem u8first_p4 (x : Int) (h0 : 0 ≤ x) (hx : 194 ≤ x ∧ x < 224) : u8first x = some (1, 128, 191) := by
  unfold u8first
  rw [if_neg (by omega), if_neg (by omega)]
  rw [if_neg (show ¬ 240 ≤ x by omega), if_neg (show ¬ 224 ≤ x by omega), if_neg (show ¬ x = 224 by omega), if_neg (show ¬ x = 240 by omega), if_neg (show ¬ x = 237 by omega), if_neg (show ¬ x = 244 by omega)]
set_option maxHeartbeats 4000000 in
theorem u8begin_p4 (b : Nat) (want lo hi ch came : Int) (bad : Bool) (x : Int) (w : World) (hU : U8At w b want lo hi ch came bad) (h0 : 0 ≤ x) (hx : 194 ≤ x ∧ x < 224) :
    Calls Try.prog 96 #[.pointer (some ⟨b, 0, none⟩), .int .u8 x] w fun e w' => e = .returned (.bool true) ∧ (∃ ch', U8At w' b 1 128 191 ch' came bad) ∧ Below b w w' := by
  have HU := Aside0.mk hU
  have HB := Aside0.mk (Below.refl b w)
  obtain ⟨c0, c1, c2, c3, c4, c5, f0, f1, f2, f3, f4, f5⟩ := hU
  have d0 : decide (x < 128) = false := decide_eq_false (by omega)
  have d1 : decide (x < 194) = false := decide_eq_false (by omega)
  have d2 : decide (244 < x) = false := decide_eq_false (by omega)
  have d3 : decide (240 ≤ x) = false := decide_eq_false (by omega)
  have d4 : decide (224 ≤ x) = false := decide_eq_false (by omega)
  have d5 : (x == 224) = false := by simp; omega
  have d6 : (x == 237) = false := by simp; omega
  have d7 : (x == 240) = false := by simp; omega
  have d8 : (x == 244) = false := by simp; omega
  clear hx
  go_enter Try.func96, Try.ntmps96
  go_wp2
  go_ret
  exact ⟨rfl, ⟨_, by repeat (with_reducible first | exact HU.out | apply U8At.put0 | apply U8At.put1 | apply U8At.put2 | apply U8At.put3 | apply U8At.put4 | apply U8At.put5)⟩, by repeat (with_reducible first | exact HB.out | refine below_own ?_ _ _)⟩
theorem u8first_p5 (x : Int) (h0 : 0 ≤ x) (hx : x = 224) : u8first x = some (2, 160, 191) := by
  unfold u8first
  rw [if_neg (by omega), if_neg (by omega)]
  rw [if_neg (show ¬ 240 ≤ x by omega), if_pos (show 224 ≤ x by omega), if_pos (show x = 224 by omega), if_neg (show ¬ x = 237 by omega), if_neg (show ¬ x = 244 by omega)]
set_option maxHeartbeats 4000000 in
theorem u8begin_p5 (b : Nat) (want lo hi ch came : Int) (bad : Bool) (x : Int) (w : World) (hU : U8At w b want lo hi ch came bad) (h0 : 0 ≤ x) (hx : x = 224) :
    Calls Try.prog 96 #[.pointer (some ⟨b, 0, none⟩), .int .u8 x] w fun e w' => e = .returned (.bool true) ∧ (∃ ch', U8At w' b 2 160 191 ch' came bad) ∧ Below b w w' := by
  have HU := Aside0.mk hU
  have HB := Aside0.mk (Below.refl b w)
  obtain ⟨c0, c1, c2, c3, c4, c5, f0, f1, f2, f3, f4, f5⟩ := hU
  have d0 : decide (x < 128) = false := decide_eq_false (by omega)
  have d1 : decide (x < 194) = false := decide_eq_false (by omega)
  have d2 : decide (244 < x) = false := decide_eq_false (by omega)
  have d3 : decide (240 ≤ x) = false := decide_eq_false (by omega)
  have d4 : decide (224 ≤ x) = true := decide_eq_true (by omega)
  have d5 : (x == 224) = true := by simp; omega
  have d6 : (x == 237) = false := by simp; omega
  have d7 : (x == 240) = false := by simp; omega
  have d8 : (x == 244) = false := by simp; omega
  clear hx
  go_enter Try.func96, Try.ntmps96
  go_upto_region 10 with fail
  apply wp_gen8 (b := b) (w := w)
  case hU => repeat (with_reducible first | exact HU.out | apply U8At.put0 | apply U8At.put1 | apply U8At.put2 | apply U8At.put3 | apply U8At.put4 | apply U8At.put5)
  case hB => repeat (with_reducible first | exact HB.out | refine below_own ?_ _ _)
  clear c0 c1 c2 c3 c4 c5 f0 f1 f2 f3 f4 f5 HU HB
  intro W1 hU hB
  have HU := Aside0.mk hU
  have HB := Aside0.mk hB
  obtain ⟨c0, c1, c2, c3, c4, c5, f0, f1, f2, f3, f4, f5⟩ := hU
  clear hB
  go_upto_region 12 with fail
  apply wp_gen8 (b := b) (w := w)
  case hU => repeat (with_reducible first | exact HU.out | apply U8At.put0 | apply U8At.put1 | apply U8At.put2 | apply U8At.put3 | apply U8At.put4 | apply U8At.put5)
  case hB => repeat (with_reducible first | exact HB.out | refine below_own ?_ _ _)
  clear c0 c1 c2 c3 c4 c5 f0 f1 f2 f3 f4 f5 HU HB
  intro W1 hU hB
  have HU := Aside0.mk hU
  have HB := Aside0.mk hB
  obtain ⟨c0, c1, c2, c3, c4, c5, f0, f1, f2, f3, f4, f5⟩ := hU
  clear hB
  go_upto_region 14 with fail
  apply wp_gen8 (b := b) (w := w)
  case hU => repeat (with_reducible first | exact HU.out | apply U8At.put0 | apply U8At.put1 | apply U8At.put2 | apply U8At.put3 | apply U8At.put4 | apply U8At.put5)
  case hB => repeat (with_reducible first | exact HB.out | refine below_own ?_ _ _)
  clear c0 c1 c2 c3 c4 c5 f0 f1 f2 f3 f4 f5 HU HB
  intro W1 hU hB
  have HU := Aside0.mk hU
  have HB := Aside0.mk hB
  obtain ⟨c0, c1, c2, c3, c4, c5, f0, f1, f2, f3, f4, f5⟩ := hU
  clear hB
  go_wp2
  go_ret
  exact ⟨rfl, ⟨_, by repeat (with_reducible first | exact HU.out | apply U8At.put0 | apply U8At.put1 | apply U8At.put2 | apply U8At.put3 | apply U8At.put4 | apply U8At.put5)⟩, by repeat (with_reducible first | exact HB.out | refine below_own ?_ _ _)⟩
theorem u8first_p6 (x : Int) (h0 : 0 ≤ x) (hx : 224 < x ∧ x < 240 ∧ x ≠ 237) : u8first x = some (2, 128, 191) := by
  unfold u8first
  rw [if_neg (by omega), if_neg (by omega)]
  rw [if_neg (show ¬ 240 ≤ x by omega), if_pos (show 224 ≤ x by omega), if_neg (show ¬ x = 224 by omega), if_neg (show ¬ x = 240 by omega), if_neg (show ¬ x = 237 by omega), if_neg (show ¬ x = 244 by omega)]
set_option maxHeartbeats 4000000 in
theorem u8begin_p6 (b : Nat) (want lo hi ch came : Int) (bad : Bool) (x : Int) (w : World) (hU : U8At w b want lo hi ch came bad) (h0 : 0 ≤ x) (hx : 224 < x ∧ x < 240 ∧ x ≠ 237) :
    Calls Try.prog 96 #[.pointer (some ⟨b, 0, none⟩), .int .u8 x] w fun e w' => e = .returned (.bool true) ∧ (∃ ch', U8At w' b 2 128 191 ch' came bad) ∧ Below b w w' := by
  have HU := Aside0.mk hU
  have HB := Aside0.mk (Below.refl b w)
  obtain ⟨c0, c1, c2, c3, c4, c5, f0, f1, f2, f3, f4, f5⟩ := hU
  have d0 : decide (x < 128) = false := decide_eq_false (by omega)
  have d1 : decide (x < 194) = false := decide_eq_false (by omega)
  have d2 : decide (244 < x) = false := decide_eq_false (by omega)
  have d3 : decide (240 ≤ x) = false := decide_eq_false (by omega)
  have d4 : decide (224 ≤ x) = true := decide_eq_true (by omega)
  have d5 : (x == 224) = false := by simp; omega
  have d6 : (x == 237) = false := by simp; omega
  have d7 : (x == 240) = false := by simp; omega
  have d8 : (x == 244) = false := by simp; omega
  clear hx
  go_enter Try.func96, Try.ntmps96
  go_upto_region 10 with fail
  apply wp_gen8 (b := b) (w := w)
  case hU => repeat (with_reducible first | exact HU.out | apply U8At.put0 | apply U8At.put1 | apply U8At.put2 | apply U8At.put3 | apply U8At.put4 | apply U8At.put5)
  case hB => repeat (with_reducible first | exact HB.out | refine below_own ?_ _ _)
  clear c0 c1 c2 c3 c4 c5 f0 f1 f2 f3 f4 f5 HU HB
  intro W1 hU hB
  have HU := Aside0.mk hU
  have HB := Aside0.mk hB
  obtain ⟨c0, c1, c2, c3, c4, c5, f0, f1, f2, f3, f4, f5⟩ := hU
  clear hB
  go_upto_region 12 with fail
  apply wp_gen8 (b := b) (w := w)
  case hU => repeat (with_reducible first | exact HU.out | apply U8At.put0 | apply U8At.put1 | apply U8At.put2 | apply U8At.put3 | apply U8At.put4 | apply U8At.put5)
  case hB => repeat (with_reducible first | exact HB.out | refine below_own ?_ _ _)
  clear c0 c1 c2 c3 c4 c5 f0 f1 f2 f3 f4 f5 HU HB
  intro W1 hU hB
  have HU := Aside0.mk hU
  have HB := Aside0.mk hB
  obtain ⟨c0, c1, c2, c3, c4, c5, f0, f1, f2, f3, f4, f5⟩ := hU
  clear hB
  go_upto_region 14 with fail
  apply wp_gen8 (b := b) (w := w)
  case hU => repeat (with_reducible first | exact HU.out | apply U8At.put0 | apply U8At.put1 | apply U8At.put2 | apply U8At.put3 | apply U8At.put4 | apply U8At.put5)
  case hB => repeat (with_reducible first | exact HB.out | refine below_own ?_ _ _)
  clear c0 c1 c2 c3 c4 c5 f0 f1 f2 f3 f4 f5 HU HB
  intro W1 hU hB
  have HU := Aside0.mk hU
  have HB := Aside0.mk hB
  obtain ⟨c0, c1, c2, c3, c4, c5, f0, f1, f2, f3, f4, f5⟩ := hU
  clear hB
  go_wp2
  go_ret
  exact ⟨rfl, ⟨_, by repeat (with_reducible first | exact HU.out | apply U8At.put0 | apply U8At.put1 | apply U8At.put2 | apply U8At.put3 | apply U8At.put4 | apply U8At.put5)⟩, by repeat (with_reducible first | exact HB.out | refine below_own ?_ _ _)⟩
theorem u8first_p7 (x : Int) (h0 : 0 ≤ x) (hx : x = 237) : u8first x = some (2, 128, 159) := by
  unfold u8first
  rw [if_neg (by omega), if_neg (by omega)]
  rw [if_neg (show ¬ 240 ≤ x by omega), if_pos (show 224 ≤ x by omega), if_neg (show ¬ x = 224 by omega), if_neg (show ¬ x = 240 by omega), if_pos (show x = 237 by omega)]
set_option maxHeartbeats 4000000 in
theorem u8begin_p7 (b : Nat) (want lo hi ch came : Int) (bad : Bool) (x : Int) (w : World) (hU : U8At w b want lo hi ch came bad) (h0 : 0 ≤ x) (hx : x = 237) :
    Calls Try.prog 96 #[.pointer (some ⟨b, 0, none⟩), .int .u8 x] w fun e w' => e = .returned (.bool true) ∧ (∃ ch', U8At w' b 2 128 159 ch' came bad) ∧ Below b w w' := by
  have HU := Aside0.mk hU
  have HB := Aside0.mk (Below.refl b w)
  obtain ⟨c0, c1, c2, c3, c4, c5, f0, f1, f2, f3, f4, f5⟩ := hU
  have d0 : decide (x < 128) = false := decide_eq_false (by omega)
  have d1 : decide (x < 194) = false := decide_eq_false (by omega)
  have d2 : decide (244 < x) = false := decide_eq_false (by omega)
  have d3 : decide (240 ≤ x) = false := decide_eq_false (by omega)
  have d4 : decide (224 ≤ x) = true := decide_eq_true (by omega)
  have d5 : (x == 224) = false := by simp; omega
  have d6 : (x == 237) = true := by simp; omega
  have d7 : (x == 240) = false := by simp; omega
  have d8 : (x == 244) = false := by simp; omega
  clear hx
  go_enter Try.func96, Try.ntmps96
  go_upto_region 10 with fail
  apply wp_gen8 (b := b) (w := w)
  case hU => repeat (with_reducible first | exact HU.out | apply U8At.put0 | apply U8At.put1 | apply U8At.put2 | apply U8At.put3 | apply U8At.put4 | apply U8At.put5)
  case hB => repeat (with_reducible first | exact HB.out | refine below_own ?_ _ _)
  clear c0 c1 c2 c3 c4 c5 f0 f1 f2 f3 f4 f5 HU HB
  intro W1 hU hB
  have HU := Aside0.mk hU
  have HB := Aside0.mk hB
  obtain ⟨c0, c1, c2, c3, c4, c5, f0, f1, f2, f3, f4, f5⟩ := hU
  clear hB
  go_upto_region 12 with fail
  apply wp_gen8 (b := b) (w := w)
  case hU => repeat (with_reducible first | exact HU.out | apply U8At.put0 | apply U8At.put1 | apply U8At.put2 | apply U8At.put3 | apply U8At.put4 | apply U8At.put5)
  case hB => repeat (with_reducible first | exact HB.out | refine below_own ?_ _ _)
  clear c0 c1 c2 c3 c4 c5 f0 f1 f2 f3 f4 f5 HU HB
  intro W1 hU hB
  have HU := Aside0.mk hU
  have HB := Aside0.mk hB
  obtain ⟨c0, c1, c2, c3, c4, c5, f0, f1, f2, f3, f4, f5⟩ := hU
  clear hB
  go_upto_region 14 with fail
  apply wp_gen8 (b := b) (w := w)
  case hU => repeat (with_reducible first | exact HU.out | apply U8At.put0 | apply U8At.put1 | apply U8At.put2 | apply U8At.put3 | apply U8At.put4 | apply U8At.put5)
  case hB => repeat (with_reducible first | exact HB.out | refine below_own ?_ _ _)
  clear c0 c1 c2 c3 c4 c5 f0 f1 f2 f3 f4 f5 HU HB
  intro W1 hU hB
  have HU := Aside0.mk hU
  have HB := Aside0.mk hB
  obtain ⟨c0, c1, c2, c3, c4, c5, f0, f1, f2, f3, f4, f5⟩ := hU
  clear hB
  go_wp2
  go_ret
  exact ⟨rfl, ⟨_, by repeat (with_reducible first | exact HU.out | apply U8At.put0 | apply U8At.put1 | apply U8At.put2 | apply U8At.put3 | apply U8At.put4 | apply U8At.put5)⟩, by repeat (with_reducible first | exact HB.out | refine below_own ?_ _ _)⟩
theorem u8first_p8 (x : Int) (h0 : 0 ≤ x) (hx : x = 240) : u8first x = some (3, 144, 191) := by
  unfold u8first
  rw [if_neg (by omega), if_neg (by omega)]
  rw [if_pos (show 240 ≤ x by omega), if_neg (show ¬ x = 224 by omega), if_pos (show x = 240 by omega), if_neg (show ¬ x = 237 by omega), if_neg (show ¬ x = 244 by omega)]
set_option maxHeartbeats 4000000 in
theorem u8begin_p8 (b : Nat) (want lo hi ch came : Int) (bad : Bool) (x : Int) (w : World) (hU : U8At w b want lo hi ch came bad) (h0 : 0 ≤ x) (hx : x = 240) :
    Calls Try.prog 96 #[.pointer (some ⟨b, 0, none⟩), .int .u8 x] w fun e w' => e = .returned (.bool true) ∧ (∃ ch', U8At w' b 3 144 191 ch' came bad) ∧ Below b w w' := by
  have HU := Aside0.mk hU
  have HB := Aside0.mk (Below.refl b w)
  obtain ⟨c0, c1, c2, c3, c4, c5, f0, f1, f2, f3, f4, f5⟩ := hU
  have d0 : decide (x < 128) = false := decide_eq_false (by omega)
  have d1 : decide (x < 194) = false := decide_eq_false (by omega)
  have d2 : decide (244 < x) = false := decide_eq_false (by omega)
  have d3 : decide (240 ≤ x) = true := decide_eq_true (by omega)
  have d4 : decide (224 ≤ x) = true := decide_eq_true (by omega)
  have d5 : (x == 224) = false := by simp; omega
  have d6 : (x == 237) = false := by simp; omega
  have d7 : (x == 240) = true := by simp; omega
  have d8 : (x == 244) = false := by simp; omega
  clear hx
  go_enter Try.func96, Try.ntmps96
  go_upto_region 8 with fail
  apply wp_gen8 (b := b) (w := w)
  case hU => repeat (with_reducible first | exact HU.out | apply U8At.put0 | apply U8At.put1 | apply U8At.put2 | apply U8At.put3 | apply U8At.put4 | apply U8At.put5)
  case hB => repeat (with_reducible first | exact HB.out | refine below_own ?_ _ _)
  clear c0 c1 c2 c3 c4 c5 f0 f1 f2 f3 f4 f5 HU HB
  intro W1 hU hB
  have HU := Aside0.mk hU
  have HB := Aside0.mk hB
  obtain ⟨c0, c1, c2, c3, c4, c5, f0, f1, f2, f3, f4, f5⟩ := hU
  clear hB
  go_upto_region 10 with fail
  apply wp_gen8 (b := b) (w := w)
  case hU => repeat (with_reducible first | exact HU.out | apply U8At.put0 | apply U8At.put1 | apply U8At.put2 | apply U8At.put3 | apply U8At.put4 | apply U8At.put5)
  case hB => repeat (with_reducible first | exact HB.out | refine below_own ?_ _ _)
  clear c0 c1 c2 c3 c4 c5 f0 f1 f2 f3 f4 f5 HU HB
  intro W1 hU hB
  have HU := Aside0.mk hU
  have HB := Aside0.mk hB
  obtain ⟨c0, c1, c2, c3, c4, c5, f0, f1, f2, f3, f4, f5⟩ := hU
  clear hB
  go_upto_region 12 with fail
  apply wp_gen8 (b := b) (w := w)
  case hU => repeat (with_reducible first | exact HU.out | apply U8At.put0 | apply U8At.put1 | apply U8At.put2 | apply U8At.put3 | apply U8At.put4 | apply U8At.put5)
  case hB => repeat (with_reducible first | exact HB.out | refine below_own ?_ _ _)
  clear c0 c1 c2 c3 c4 c5 f0 f1 f2 f3 f4 f5 HU HB
  intro W1 hU hB
  have HU := Aside0.mk hU
  have HB := Aside0.mk hB
  obtain ⟨c0, c1, c2, c3, c4, c5, f0, f1, f2, f3, f4, f5⟩ := hU
  clear hB
  go_upto_region 14 with fail
  apply wp_gen8 (b := b) (w := w)
  case hU => repeat (with_reducible first | exact HU.out | apply U8At.put0 | apply U8At.put1 | apply U8At.put2 | apply U8At.put3 | apply U8At.put4 | apply U8At.put5)
  case hB => repeat (with_reducible first | exact HB.out | refine below_own ?_ _ _)
  clear c0 c1 c2 c3 c4 c5 f0 f1 f2 f3 f4 f5 HU HB
  intro W1 hU hB
  have HU := Aside0.mk hU
  have HB := Aside0.mk hB
  obtain ⟨c0, c1, c2, c3, c4, c5, f0, f1, f2, f3, f4, f5⟩ := hU
  clear hB
  go_wp2
  go_ret
  exact ⟨rfl, ⟨_, by repeat (with_reducible first | exact HU.out | apply U8At.put0 | apply U8At.put1 | apply U8At.put2 | apply U8At.put3 | apply U8At.put4 | apply U8At.put5)⟩, by repeat (with_reducible first | exact HB.out | refine below_own ?_ _ _)⟩
theorem u8first_p9 (x : Int) (h0 : 0 ≤ x) (hx : 240 < x ∧ x < 244) : u8first x = some (3, 128, 191) := by
  unfold u8first
  rw [if_neg (by omega), if_neg (by omega)]
  rw [if_pos (show 240 ≤ x by omega), if_neg (show ¬ x = 224 by omega), if_neg (show ¬ x = 240 by omega), if_neg (show ¬ x = 237 by omega), if_neg (show ¬ x = 244 by omega)]
set_option maxHeartbeats 4000000 in
theorem u8begin_p9 (b : Nat) (want lo hi ch came : Int) (bad : Bool) (x : Int) (w : World) (hU : U8At w b want lo hi ch came bad) (h0 : 0 ≤ x) (hx : 240 < x ∧ x < 244) :
    Calls Try.prog 96 #[.pointer (some ⟨b, 0, none⟩), .int .u8 x] w fun e w' => e = .returned (.bool true) ∧ (∃ ch', U8At w' b 3 128 191 ch' came bad) ∧ Below b w w' := by
  have HU := Aside0.mk hU
  have HB := Aside0.mk (Below.refl b w)
  obtain ⟨c0, c1, c2, c3, c4, c5, f0, f1, f2, f3, f4, f5⟩ := hU
  have d0 : decide (x < 128) = false := decide_eq_false (by omega)
  have d1 : decide (x < 194) = false := decide_eq_false (by omega)
  have d2 : decide (244 < x) = false := decide_eq_false (by omega)
  have d3 : decide (240 ≤ x) = true := decide_eq_true (by omega)
  have d4 : decide (224 ≤ x) = true := decide_eq_true (by omega)
  have d5 : (x == 224) = false := by simp; omega
  have d6 : (x == 237) = false := by simp; omega
  have d7 : (x == 240) = false := by simp; omega
  have d8 : (x == 244) = false := by simp; omega
  clear hx
  go_enter Try.func96, Try.ntmps96
  go_upto_region 8 with fail
  apply wp_gen8 (b := b) (w := w)
  case hU => repeat (with_reducible first | exact HU.out | apply U8At.put0 | apply U8At.put1 | apply U8At.put2 | apply U8At.put3 | apply U8At.put4 | apply U8At.put5)
  case hB => repeat (with_reducible first | exact HB.out | refine below_own ?_ _ _)
  clear c0 c1 c2 c3 c4 c5 f0 f1 f2 f3 f4 f5 HU HB
  intro W1 hU hB
  have HU := Aside0.mk hU
  have HB := Aside0.mk hB
  obtain ⟨c0, c1, c2, c3, c4, c5, f0, f1, f2, f3, f4, f5⟩ := hU
  clear hB
  go_upto_region 10 with fail
  apply wp_gen8 (b := b) (w := w)
  case hU => repeat (with_reducible first | exact HU.out | apply U8At.put0 | apply U8At.put1 | apply U8At.put2 | apply U8At.put3 | apply U8At.put4 | apply U8At.put5)
  case hB => repeat (with_reducible first | exact HB.out | refine below_own ?_ _ _)
  clear c0 c1 c2 c3 c4 c5 f0 f1 f2 f3 f4 f5 HU HB
  intro W1 hU hB
  have HU := Aside0.mk hU
  have HB := Aside0.mk hB
  obtain ⟨c0, c1, c2, c3, c4, c5, f0, f1, f2, f3, f4, f5⟩ := hU
  clear hB
  go_upto_region 12 with fail
  apply wp_gen8 (b := b) (w := w)
  case hU => repeat (with_reducible first | exact HU.out | apply U8At.put0 | apply U8At.put1 | apply U8At.put2 | apply U8At.put3 | apply U8At.put4 | apply U8At.put5)
  case hB => repeat (with_reducible first | exact HB.out | refine below_own ?_ _ _)
  clear c0 c1 c2 c3 c4 c5 f0 f1 f2 f3 f4 f5 HU HB
  intro W1 hU hB
  have HU := Aside0.mk hU
  have HB := Aside0.mk hB
  obtain ⟨c0, c1, c2, c3, c4, c5, f0, f1, f2, f3, f4, f5⟩ := hU
  clear hB
  go_upto_region 14 with fail
  apply wp_gen8 (b := b) (w := w)
  case hU => repeat (with_reducible first | exact HU.out | apply U8At.put0 | apply U8At.put1 | apply U8At.put2 | apply U8At.put3 | apply U8At.put4 | apply U8At.put5)
  case hB => repeat (with_reducible first | exact HB.out | refine below_own ?_ _ _)
  clear c0 c1 c2 c3 c4 c5 f0 f1 f2 f3 f4 f5 HU HB
  intro W1 hU hB
  have HU := Aside0.mk hU
  have HB := Aside0.mk hB
  obtain ⟨c0, c1, c2, c3, c4, c5, f0, f1, f2, f3, f4, f5⟩ := hU
  clear hB
  go_wp2
  go_ret
  exact ⟨rfl, ⟨_, by repeat (with_reducible first | exact HU.out | apply U8At.put0 | apply U8At.put1 | apply U8At.put2 | apply U8At.put3 | apply U8At.put4 | apply U8At.put5)⟩, by repeat (with_reducible first | exact HB.out | refine below_own ?_ _ _)⟩
theorem u8first_p10 (x : Int) (h0 : 0 ≤ x) (hx : x = 244) : u8first x = some (3, 128, 143) := by
  unfold u8first
  rw [if_neg (by omega), if_neg (by omega)]
  rw [if_pos (show 240 ≤ x by omega), if_neg (show ¬ x = 224 by omega), if_neg (show ¬ x = 240 by omega), if_neg (show ¬ x = 237 by omega), if_pos (show x = 244 by omega)]
set_option maxHeartbeats 4000000 in
theorem u8begin_p10 (b : Nat) (want lo hi ch came : Int) (bad : Bool) (x : Int) (w : World) (hU : U8At w b want lo hi ch came bad) (h0 : 0 ≤ x) (hx : x = 244) :
    Calls Try.prog 96 #[.pointer (some ⟨b, 0, none⟩), .int .u8 x] w fun e w' => e = .returned (.bool true) ∧ (∃ ch', U8At w' b 3 128 143 ch' came bad) ∧ Below b w w' := by
  have HU := Aside0.mk hU
  have HB := Aside0.mk (Below.refl b w)
  obtain ⟨c0, c1, c2, c3, c4, c5, f0, f1, f2, f3, f4, f5⟩ := hU
  have d0 : decide (x < 128) = false := decide_eq_false (by omega)
  have d1 : decide (x < 194) = false := decide_eq_false (by omega)
  have d2 : decide (244 < x) = false := decide_eq_false (by omega)
  have d3 : decide (240 ≤ x) = true := decide_eq_true (by omega)
  have d4 : decide (224 ≤ x) = true := decide_eq_true (by omega)
  have d5 : (x == 224) = false := by simp; omega
  have d6 : (x == 237) = false := by simp; omega
  have d7 : (x == 240) = false := by simp; omega
  have d8 : (x == 244) = true := by simp; omega
  clear hx
  go_enter Try.func96, Try.ntmps96
  go_upto_region 8 with fail
  apply wp_gen8 (b := b) (w := w)
  case hU => repeat (with_reducible first | exact HU.out | apply U8At.put0 | apply U8At.put1 | apply U8At.put2 | apply U8At.put3 | apply U8At.put4 | apply U8At.put5)
  case hB => repeat (with_reducible first | exact HB.out | refine below_own ?_ _ _)
  clear c0 c1 c2 c3 c4 c5 f0 f1 f2 f3 f4 f5 HU HB
  intro W1 hU hB
  have HU := Aside0.mk hU
  have HB := Aside0.mk hB
  obtain ⟨c0, c1, c2, c3, c4, c5, f0, f1, f2, f3, f4, f5⟩ := hU
  clear hB
  go_upto_region 10 with fail
  apply wp_gen8 (b := b) (w := w)
  case hU => repeat (with_reducible first | exact HU.out | apply U8At.put0 | apply U8At.put1 | apply U8At.put2 | apply U8At.put3 | apply U8At.put4 | apply U8At.put5)
  case hB => repeat (with_reducible first | exact HB.out | refine below_own ?_ _ _)
  clear c0 c1 c2 c3 c4 c5 f0 f1 f2 f3 f4 f5 HU HB
  intro W1 hU hB
  have HU := Aside0.mk hU
  have HB := Aside0.mk hB
  obtain ⟨c0, c1, c2, c3, c4, c5, f0, f1, f2, f3, f4, f5⟩ := hU
  clear hB
  go_upto_region 12 with fail
  apply wp_gen8 (b := b) (w := w)
  case hU => repeat (with_reducible first | exact HU.out | apply U8At.put0 | apply U8At.put1 | apply U8At.put2 | apply U8At.put3 | apply U8At.put4 | apply U8At.put5)
  case hB => repeat (with_reducible first | exact HB.out | refine below_own ?_ _ _)
  clear c0 c1 c2 c3 c4 c5 f0 f1 f2 f3 f4 f5 HU HB
  intro W1 hU hB
  have HU := Aside0.mk hU
  have HB := Aside0.mk hB
  obtain ⟨c0, c1, c2, c3, c4, c5, f0, f1, f2, f3, f4, f5⟩ := hU
  clear hB
  go_upto_region 14 with fail
  apply wp_gen8 (b := b) (w := w)
  case hU => repeat (with_reducible first | exact HU.out | apply U8At.put0 | apply U8At.put1 | apply U8At.put2 | apply U8At.put3 | apply U8At.put4 | apply U8At.put5)
  case hB => repeat (with_reducible first | exact HB.out | refine below_own ?_ _ _)
  clear c0 c1 c2 c3 c4 c5 f0 f1 f2 f3 f4 f5 HU HB
  intro W1 hU hB
  have HU := Aside0.mk hU
  have HB := Aside0.mk hB
  obtain ⟨c0, c1, c2, c3, c4, c5, f0, f1, f2, f3, f4, f5⟩ := hU
  clear hB
  go_wp2
  go_ret
  exact ⟨rfl, ⟨_, by repeat (with_reducible first | exact HU.out | apply U8At.put0 | apply U8At.put1 | apply U8At.put2 | apply U8At.put3 | apply U8At.put4 | apply U8At.put5)⟩, by repeat (with_reducible first | exact HB.out | refine below_own ?_ _ _)⟩
/-- The first byte of a form, or none. -/
theorem u8begin_calls (b : Nat) (want lo hi ch came : Int) (bad : Bool) (x : Int) (w : World) (hU : U8At w b want lo hi ch came bad) (h0 : 0 ≤ x) (h1 : x < 256) :
    Calls Try.prog 96 #[.pointer (some ⟨b, 0, none⟩), .int .u8 x] w fun e w' => (match u8first x with
      | none => e = .returned (.bool false) ∧ (∃ a l u ch', U8At w' b a l u ch' came bad)
      | some (a, l, u) => e = .returned (.bool true) ∧ (∃ ch', U8At w' b a l u ch' came bad)) ∧ Below b w w' := by
  by_cases g_p1 : x < 128
  · rw [u8first_p1 x h0 g_p1]
    exact (u8begin_p1 b want lo hi ch came bad x w hU h0 g_p1).mono (fun e w' h => ⟨⟨h.1, h.2.1⟩, h.2.2⟩)
  by_cases g_p2 : 128 ≤ x ∧ x < 194
  · rw [u8first_p2 x h0 g_p2]
    exact (u8begin_p2 b want lo hi ch came bad x w hU h0 g_p2).mono (fun e w' h => ⟨⟨h.1, h.2.1⟩, h.2.2⟩)
  by_cases g_p3 : 244 < x ∧ x < 256
  · rw [u8first_p3 x h0 g_p3]
    exact (u8begin_p3 b want lo hi ch came bad x w hU h0 g_p3).mono (fun e w' h => ⟨⟨h.1, h.2.1⟩, h.2.2⟩)
  by_cases g_p4 : 194 ≤ x ∧ x < 224
  · rw [u8first_p4 x h0 g_p4]
    exact (u8begin_p4 b want lo hi ch came bad x w hU h0 g_p4).mono (fun e w' h => ⟨⟨h.1, h.2.1⟩, h.2.2⟩)
  by_cases g_p5 : x = 224
  · rw [u8first_p5 x h0 g_p5]
    exact (u8begin_p5 b want lo hi ch came bad x w hU h0 g_p5).mono (fun e w' h => ⟨⟨h.1, h.2.1⟩, h.2.2⟩)
  by_cases g_p6 : 224 < x ∧ x < 240 ∧ x ≠ 237
  · rw [u8first_p6 x h0 g_p6]
    exact (u8begin_p6 b want lo hi ch came bad x w hU h0 g_p6).mono (fun e w' h => ⟨⟨h.1, h.2.1⟩, h.2.2⟩)
  by_cases g_p7 : x = 237
  · rw [u8first_p7 x h0 g_p7]
    exact (u8begin_p7 b want lo hi ch came bad x w hU h0 g_p7).mono (fun e w' h => ⟨⟨h.1, h.2.1⟩, h.2.2⟩)
  by_cases g_p8 : x = 240
  · rw [u8first_p8 x h0 g_p8]
    exact (u8begin_p8 b want lo hi ch came bad x w hU h0 g_p8).mono (fun e w' h => ⟨⟨h.1, h.2.1⟩, h.2.2⟩)
  by_cases g_p9 : 240 < x ∧ x < 244
  · rw [u8first_p9 x h0 g_p9]
    exact (u8begin_p9 b want lo hi ch came bad x w hU h0 g_p9).mono (fun e w' h => ⟨⟨h.1, h.2.1⟩, h.2.2⟩)
  by_cases g_p10 : x = 244
  · rw [u8first_p10 x h0 g_p10]
    exact (u8begin_p10 b want lo hi ch came bad x w hU h0 g_p10).mono (fun e w' h => ⟨⟨h.1, h.2.1⟩, h.2.2⟩)
  exfalso
  omega
/-- One byte more; none where it can't stand there. -/
def u8step (want lo hi x : Int) : Option (Int × Int × Int) := if want = 0 then u8first x else if x < lo ∨ hi < x then none else some (want - 1, 128, 191)
set_option maxHeartbeats 4000000 in
theorem u8step_calls (b : Nat) (want lo hi ch came : Int) (bad : Bool) (x : Int) (w : World) (hU : U8At w b want lo hi ch came bad) (h0 : 0 ≤ x) (h1 : x < 256) (hw0 : 0 ≤ want) (hw3 : want ≤ 3) :
    Calls Try.prog 92 #[.pointer (some ⟨b, 0, none⟩), .int .u8 x] w fun e w' => (match u8step want lo hi x with
      | none => e = .returned (.bool false) ∧ (∃ a l u ch', U8At w' b a l u ch' came bad)
      | some (a, l, u) => e = .returned (.bool true) ∧ (∃ ch', U8At w' b a l u ch' came bad)) ∧ Below b w w' := by
  have HU := Aside0.mk hU
  have HB := Aside0.mk (Below.refl b w)
  obtain ⟨c0, c1, c2, c3, c4, c5, f0, f1, f2, f3, f4, f5⟩ := hU
  unfold u8step
  by_cases hz : want = 0
  · rw [if_pos hz]
    have hzb : (want == 0) = true := by simp; omega
    have hc := u8begin_calls b want lo hi ch came bad x w HU.out h0 h1
    cases hm : u8first x with
    | none =>
      rw [hm] at hc
      have HC := Aside0.mk hc
      clear hc hz
      go_enter Try.func92, Try.ntmps92
      go_wp2_with (first | (go_at_call 96; refine HC.out.mono ?_; rintro e w' ⟨⟨rfl, hh⟩, hb⟩) | fail)
      go_ret
      exact ⟨⟨rfl, hh⟩, hb⟩
    | some v =>
      obtain ⟨a, l, u⟩ := v
      rw [hm] at hc
      have HC := Aside0.mk hc
      clear hc hz
      go_enter Try.func92, Try.ntmps92
      go_wp2_with (first | (go_at_call 96; refine HC.out.mono ?_; rintro e w' ⟨⟨rfl, hh⟩, hb⟩) | fail)
      go_ret
      exact ⟨⟨rfl, hh⟩, hb⟩
  · rw [if_neg hz]
    have hzb : (want == 0) = false := by simp; omega
    have hws : IntKind.i64.wrap (want - 1) = want - 1 := by rw [IntKind.wrap_i64]; omega
    by_cases hl : x < lo
    · have d1 : decide (x < lo) = true := decide_eq_true hl
      rw [if_pos (.inl hl)]
      clear hz hl
      go_enter Try.func92, Try.ntmps92
      go_wp2
      go_ret
      exact ⟨⟨rfl, _, _, _, _, HU.out⟩, Below.refl _ _⟩
    · have d1 : decide (x < lo) = false := decide_eq_false hl
      by_cases hh : hi < x
      · have d2 : decide (hi < x) = true := decide_eq_true hh
        rw [if_pos (.inr hh)]
        clear hz hl hh
        go_enter Try.func92, Try.ntmps92
        go_wp2
        go_ret
        exact ⟨⟨rfl, _, _, _, _, HU.out⟩, Below.refl _ _⟩
      · have d2 : decide (hi < x) = false := decide_eq_false hh
        rw [if_neg (by omega)]
        clear hz hl hh
        go_enter Try.func92, Try.ntmps92
        go_wp2
        go_ret
        exact ⟨⟨rfl, _, by repeat (with_reducible first | exact HU.out | apply U8At.put0 | apply U8At.put1 | apply U8At.put2 | apply U8At.put3 | apply U8At.put4 | apply U8At.put5)⟩, by repeat (with_reducible first | exact HB.out | refine below_own ?_ _ _)⟩
/-- What End tells behind all bytes. -/
def u8scan (want lo hi came : Int) : List Int → Int
  | [] => if 0 < want then came else -1
  | x :: r => match u8step want lo hi x with
    | none => came
    | some (a, l, u) => u8scan a l u (came + 1) r
theorem u8end_calls (b : Nat) (want lo hi ch came : Int) (bad : Bool) (w : World) (hU : U8At w b want lo hi ch came bad) :
    Calls Try.prog 84 #[.pointer (some ⟨b, 0, none⟩)] w fun e w' => e = .returned (.int .i64 (if bad = true ∨ 0 < want then came else -1)) ∧ w' = w := by
  obtain ⟨c0, c1, c2, c3, c4, c5, f0, f1, f2, f3, f4, f5⟩ := hU
  cases bad
  · by_cases hw : 0 < want
    · have d : decide (0 < want) = true := decide_eq_true hw
      rw [if_pos (.inr hw)]
      clear hw
      go_enter Try.func84, Try.ntmps84
      go_wp2
      go_ret
      exact ⟨rfl, rfl⟩
    · have d : decide (0 < want) = false := decide_eq_false hw
      rw [if_neg (by simp; omega)]
      clear hw
      go_enter Try.func84, Try.ntmps84
      go_wp2
      go_ret
      exact ⟨rfl, rfl⟩
  · rw [if_pos (.inl rfl)]
    go_enter Try.func84, Try.ntmps84
    go_wp2
    go_ret
    exact ⟨rfl, rfl⟩
end Go.Proofs.Ythlneooboiphdaa
