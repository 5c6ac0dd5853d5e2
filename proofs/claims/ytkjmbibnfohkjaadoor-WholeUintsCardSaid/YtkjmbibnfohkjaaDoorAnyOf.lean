/- strings.ContainsAny of a point, an e or an E: for texts of plain bytes of any length. -/
import Derived.Test.YtkjmbibnfohkjaaDoorShelf
import Derived.Deep.LoopGhost
import Derived.Lib.Builder
import Derived.Lib.Hide
import Derived.WalkKit
namespace Go.Proofs.YtkjmbibnfohkjaaDoor
open Go.Shelf Go.RowKit Go.Lib
set_option linter.unusedSimpArgs false
set_option linter.unusedVariables false
def marks : ByteArray := ⟨#[46, 101, 69]⟩
theorem marks_ascii : ∀ (j : Nat) b, marks.data.toList[j]? = some b → b.toNat < 128 := by
  intro j b h
  have hm : b ∈ marks.data.toList := List.mem_of_getElem? h
  have : b ∈ [46, 101, 69] := hm
  simp at this
  rcases this with rfl | rfl | rfl <;> decide
theorem set_zero : ∀ w, (zeroValue 138).run Tryd.prog w = .ok (.agg (Array.replicate 256 (.bool false))) w :=
  (zero_of_info (P := Tryd.prog) (t := 138) (n := 256) (by kernel_rfl)).1
set_option maxHeartbeats 8000000 in
set_option maxRecDepth 1000000 in
theorem indexAny_long (s : ByteArray) (w : World) (h8 : 8 < s.size) (hs : s.size ≤ 1152921504606846976) :
    Calls Tryd.prog 107 #[.string s, .string marks] w fun e w' => e = .returned (.int .i64 (Lib.indexAny s.data.toList marks.data.toList)) ∧ w' = ((w.alloc (.cells (Lib.setCells marks.data.toList) 138)).alloc (.cells (Lib.setCells marks.data.toList) 138)) := by
  have hM := Tryd.strings_makeASCIISet set_zero marks w (by decide) marks_ascii
  have hi116 : (Tryd.prog.info? 138).map (·.size) = some 256 := by kernel_rfl
  have hemp : marks.toList.isEmpty = false := by
    rw [Lib.toList_data]
    rfl
  have hn1 : ((marks.size : Int) == 1) = false := by decide
  have h8z : decide ((8 : Int) < (s.size : Int)) = true := decide_eq_true (by omega)
  have hsc : (storeCells ⟨w.heap.size + 1, 0, none⟩ (Lib.setCells marks.data.toList).toList 0).run Tryd.prog ((w.alloc (.cells (Lib.setCells marks.data.toList) 138)).alloc (.cells (Array.replicate 256 (.bool false)) 138)) = .ok () ((w.alloc (.cells (Lib.setCells marks.data.toList) 138)).alloc (.cells (Lib.setCells marks.data.toList) 138)) := by
    have := run_storeCells_new (P := Tryd.prog) (w.alloc (.cells (Lib.setCells marks.data.toList) 138)) 138 (Array.replicate 256 (.bool false)) (Lib.setCells marks.data.toList) (by rw [Lib.setCells_size]; exact hi116) (by rw [Lib.setCells_size, Array.size_replicate]) (Lib.setCells_one _)
    simpa using this
  have hsz := Lib.setCells_size marks.data.toList
  have hcellAt : ∀ x : UInt8, ((w.alloc (.cells (Lib.setCells marks.data.toList) 138)).alloc (.cells (Lib.setCells marks.data.toList) 138)).cell? ⟨w.heap.size + 1, x.toNat, none⟩ = some (.bool (marks.data.toList.contains x)) := fun x => by
    rw [World.cell?_alloc_at _ _ _ _ (by simp), Lib.setCells_at]
  have HC := Lib.hid hcellAt
  clear hcellAt hi116
  generalize marks = marks at *
  go_enter Tryd.func107, Tryd.ntmps107
  go_wp2_with fail
  refine (Tryd.strings_shouldUseASCIISet _ _).mono ?_
  rintro e w' ⟨rfl, hw⟩
  rw [hw, h8z]
  clear hw
  go_wp2_with fail
  refine hM.mono ?_
  rintro e w' ⟨rfl, hw⟩
  rw [hw]
  clear hw
  go_wp2_with fail
  rw [show Tryd.zeroCells138 = Array.replicate 256 (.bool false) from by kernel_rfl]
  simp only [Tryd.sizeOf138, Result.andThen, ↓reduceIte, hsc]
  rw [Oper.upon_skip]
  go_wp2
  clear hM hsc
  go_loopg [8] s.size (fun g s8 wx => ∃ i : Nat, i + g = s.size ∧ s8 = .int .i64 i ∧ wx = ((w.alloc (.cells (Lib.setCells marks.data.toList) 138)).alloc (.cells (Lib.setCells marks.data.toList) 138)) ∧ Lib.NoAny s.data.toList marks.data.toList i)
  case atStart => exact ⟨0, by omega, rfl, rfl, Lib.NoAny.zero _ _⟩
  case round =>
    obtain ⟨i, hig, rfl, rfl, hno⟩ := hrel
    have HN := Lib.hid hno
    clear hno
    cases gk with
    | zero =>
      obtain rfl : i = s.size := by omega
      have hiz : ¬ ((s.size : Int) < (s.size : Int)) := by omega
      go_wp2
      go_ret
      exact ⟨by rw [Lib.indexAny_none (by rw [← Lib.size_eq]; exact HN.out)]; rfl, rfl⟩
    | succ g =>
      have hi : i < s.size := by omega
      have hiz : (i : Int) < (s.size : Int) := by omega
      obtain ⟨x, hx⟩ : ∃ x : UInt8, s[i]'hi = x := ⟨_, rfl⟩
      have hxl : s.data.toList[i]? = some x := by rw [← hx]; exact Lib.data_getElem? s i hi
      have Hx := Lib.hid hxl
      clear hxl
      have hcx := HC.out x
      have hinc : wrap64 ((i : Int) + 1) = ((i + 1 : Nat) : Int) := by unfold wrap64; omega
      cases hin : marks.data.toList.contains x <;> rw [hin] at hcx
      · go_wp2_with fail
        refine (Tryd.asciiSet_contains _ x _ _ hcx).mono ?_
        rintro e w' ⟨rfl, hw⟩
        rw [hw]
        clear hw
        go_wp2
        go_roundg g
        case measure => omega
        case rel => exact ⟨i + 1, by omega, by first | rfl | simp, rfl, HN.out.succ Hx.out hin⟩
      · go_wp2_with fail
        refine (Tryd.asciiSet_contains _ x _ _ hcx).mono ?_
        rintro e w' ⟨rfl, hw⟩
        rw [hw]
        clear hw
        go_wp2
        go_ret
        exact ⟨by rw [Lib.indexAny_hit HN.out Hx.out hin]; rfl, rfl⟩
/-- strings.ContainsAny of a point, an e or an E, over plain bytes. -/
theorem anyOf_calls (s : ByteArray) (w : World) (hs : s.size ≤ 1152921504606846976) (has : ∀ (j : Nat) b, s.data.toList[j]? = some b → b.toNat < 128) :
    Calls Tryd.prog 69 #[.string s, .string ⟨#[46, 101, 69]⟩] w fun e w' => e = .returned (.bool (Lib.containsAny s.data.toList [46, 101, 69])) ∧ Below w.heap.size w w' := by
  have c : Calls Tryd.prog 107 #[.string s, .string ⟨#[46, 101, 69]⟩] w fun e w' => e = .returned (.int .i64 (Lib.indexAny s.data.toList [46, 101, 69])) ∧ Below w.heap.size w w' := by
    by_cases h8 : s.size ≤ 8
    · refine (Tryd.strings_IndexAny_short s marks w (by decide) h8 has).mono fun e w' ⟨h1, pos, h2⟩ => ⟨h1, ?_⟩
      rw [h2]
      exact (Below.refl _ _).alloc (Nat.le_refl _) _
    · refine (indexAny_long s w (by omega) hs).mono fun e w' ⟨h1, h2⟩ => ⟨h1, ?_⟩
      rw [h2]
      exact ((Below.refl _ _).alloc (Nat.le_refl _) _).alloc (by simp) _
  go_enter Tryd.func69, Tryd.ntmps69
  go_wp2_with fail
  refine c.mono ?_
  rintro e w' ⟨rfl, hw⟩
  go_wp2
  go_ret
  exact ⟨rfl, hw⟩
end Go.Proofs.YtkjmbibnfohkjaaDoor
