/- The machine side of a statement, laid by the kit's print program, run by wip/tools/gprint.py: some functions' contracts are given, proved by hand. -/
import Derived.Test.YtkjmbibnfohkjaaDoorPWholeIntsx0
import Derived.Test.YtkjmbibnfohkjaaDoorPWholeIntsx1
import Derived.Test.YtkjmbibnfohkjaaDoorPWholeIntsx3
namespace Go.Proofs.YtkjmbibnfohkjaaDoor.PWholeInts
open Go.RowKit Go.Proofs.YtkjmbibnfohkjaaDoorW.PrintWords Go.Proofs.YtkjmbibnfohkjaaDoorW.PrintLast Go.Proofs.YtkjmbibnfohkjaaDoorW.PrintMore
attribute [local go_sem] max2_int min2_int max_two min_two max_three min_three max_four min_four   -- for this text's walks alone
set_option linter.unusedVariables false
set_option linter.unusedSimpArgs false

/-! ### quarrylaw12_WholeInts: function 7 -/
def quarrylaw12_WholeInts.f (k : Nat) (a0 : ByteArray) : Option (Bool) := (whole_Int_int8.f a0).bind fun bt148 => ((quarryref12_Int.f k a0 8).bind fun bt150 => ((quarrylaw12_read.f (wrap64 (bt148.1)) bt148.2 bt150.1 bt150.2).bind fun t152 => (if t152 = true then ((whole_Int_Small.f a0).bind fun bt153 => ((quarrylaw12_read.f (wrap64 (bt153.1)) bt153.2 bt150.1 bt150.2).bind fun t155 => (if t155 = true then ((whole_Int_int16.f a0).bind fun bt156 => ((quarryref12_Int.f k a0 16).bind fun bt158 => ((quarrylaw12_read.f (wrap64 (bt156.1)) bt156.2 bt158.1 bt158.2).bind fun t160 => (if t160 = true then ((whole_Int_int32.f a0).bind fun bt161 => ((quarryref12_Int.f k a0 32).bind fun bt163 => ((quarrylaw12_read.f (wrap64 (bt161.1)) bt161.2 bt163.1 bt163.2).bind fun t165 => (if t165 = true then ((quarryref12_Int.f k a0 64).bind fun bt166 => ((whole_Int_int64.f a0).bind fun bt168 => ((quarrylaw12_read.f bt168.1 bt168.2 bt166.1 bt166.2).bind fun t170 => (if t170 = true then ((whole_Int_int.f a0).bind fun bt171 => ((quarrylaw12_read.f bt171.1 bt171.2 bt166.1 bt166.2).bind fun t173 => (if t173 = true then ((whole_Int_Wide.f a0).bind fun bt174 => ((quarrylaw12_read.f bt174.1 bt174.2 bt166.1 bt166.2).bind fun t176 => (if t176 = true then ((quarrylaw12_awake.f).bind fun t177 => (some t177)) else (none)))) else (none)))) else (none))))) else (none))))) else (none))))) else (none)))) else (none))))
theorem quarrylaw12_WholeInts.mono : ∀ a0 k, LeO (quarrylaw12_WholeInts.f k a0) (quarrylaw12_WholeInts.f (k + 1) a0) := by
  intro a0 k
  unfold quarrylaw12_WholeInts.f
  repeat' first
      | (with_reducible exact quarryref12_Int.mono _ _ _)
      | (with_reducible exact LeO.refl _)
      | (with_reducible exact LeO.none _)
      | (with_reducible refine LeO.ite ?_ ?_)
      | (with_reducible refine LeO.bind ?_ (fun _ => ?_))
      | exact quarryref12_Int.mono _ _ _
      | exact LeO.none _
      | refine LeO.ite ?_ ?_
      | refine LeO.bind ?_ (fun _ => ?_)
set_option maxHeartbeats 8000000 in
set_option maxRecDepth 100000 in
theorem quarrylaw12_WholeInts.calls (k : Nat) (a0 : ByteArray) (r : Bool) (w : World) (h : quarrylaw12_WholeInts.f k a0 = some r) (hT : TabW w := by first | exact hT | exact TabW.drewN hT _ | (refine TabW.below hT ?_; repeat (first | (with_reducible exact HB.out) | (with_reducible exact Below.refl _ _) | apply below_alloc | apply pw_below_drewN | apply below_drew1 | apply below_drew | assumption | refine below_set ?_ (Aside0.out (by assumption))))) :
    Calls Tryd.prog 7 #[.string a0] w fun e w' => e = .returned (.bool r) ∧ Below w.heap.size w w' := by
  have HB := Aside0.mk (Below.refl w.heap.size w)
  have H : ((whole_Int_int8.f a0).bind fun bt148 => ((quarryref12_Int.f k a0 8).bind fun bt150 => ((quarrylaw12_read.f (wrap64 (bt148.1)) bt148.2 bt150.1 bt150.2).bind fun t152 => (if t152 = true then ((whole_Int_Small.f a0).bind fun bt153 => ((quarrylaw12_read.f (wrap64 (bt153.1)) bt153.2 bt150.1 bt150.2).bind fun t155 => (if t155 = true then ((whole_Int_int16.f a0).bind fun bt156 => ((quarryref12_Int.f k a0 16).bind fun bt158 => ((quarrylaw12_read.f (wrap64 (bt156.1)) bt156.2 bt158.1 bt158.2).bind fun t160 => (if t160 = true then ((whole_Int_int32.f a0).bind fun bt161 => ((quarryref12_Int.f k a0 32).bind fun bt163 => ((quarrylaw12_read.f (wrap64 (bt161.1)) bt161.2 bt163.1 bt163.2).bind fun t165 => (if t165 = true then ((quarryref12_Int.f k a0 64).bind fun bt166 => ((whole_Int_int64.f a0).bind fun bt168 => ((quarrylaw12_read.f bt168.1 bt168.2 bt166.1 bt166.2).bind fun t170 => (if t170 = true then ((whole_Int_int.f a0).bind fun bt171 => ((quarrylaw12_read.f bt171.1 bt171.2 bt166.1 bt166.2).bind fun t173 => (if t173 = true then ((whole_Int_Wide.f a0).bind fun bt174 => ((quarrylaw12_read.f bt174.1 bt174.2 bt166.1 bt166.2).bind fun t176 => (if t176 = true then ((quarrylaw12_awake.f).bind fun t177 => (some t177)) else (none)))) else (none)))) else (none))))) else (none))))) else (none))))) else (none)))) else (none))))) = some r := h
  clear h
  replace H := Option.bind_eq_some_iff.mp H
  obtain ⟨⟨t148, t149⟩, A20, H⟩ := H
  replace H : ((quarryref12_Int.f k a0 8).bind fun bt150 => ((quarrylaw12_read.f (wrap64 (t148)) t149 bt150.1 bt150.2).bind fun t152 => (if t152 = true then ((whole_Int_Small.f a0).bind fun bt153 => ((quarrylaw12_read.f (wrap64 (bt153.1)) bt153.2 bt150.1 bt150.2).bind fun t155 => (if t155 = true then ((whole_Int_int16.f a0).bind fun bt156 => ((quarryref12_Int.f k a0 16).bind fun bt158 => ((quarrylaw12_read.f (wrap64 (bt156.1)) bt156.2 bt158.1 bt158.2).bind fun t160 => (if t160 = true then ((whole_Int_int32.f a0).bind fun bt161 => ((quarryref12_Int.f k a0 32).bind fun bt163 => ((quarrylaw12_read.f (wrap64 (bt161.1)) bt161.2 bt163.1 bt163.2).bind fun t165 => (if t165 = true then ((quarryref12_Int.f k a0 64).bind fun bt166 => ((whole_Int_int64.f a0).bind fun bt168 => ((quarrylaw12_read.f bt168.1 bt168.2 bt166.1 bt166.2).bind fun t170 => (if t170 = true then ((whole_Int_int.f a0).bind fun bt171 => ((quarrylaw12_read.f bt171.1 bt171.2 bt166.1 bt166.2).bind fun t173 => (if t173 = true then ((whole_Int_Wide.f a0).bind fun bt174 => ((quarrylaw12_read.f bt174.1 bt174.2 bt166.1 bt166.2).bind fun t176 => (if t176 = true then ((quarrylaw12_awake.f).bind fun t177 => (some t177)) else (none)))) else (none)))) else (none))))) else (none))))) else (none))))) else (none)))) else (none)))) = some r := H
  have A2 := Aside0.mk A20
  clear A20
  replace H := Option.bind_eq_some_iff.mp H
  obtain ⟨⟨t150, t151⟩, A30, H⟩ := H
  replace H : ((quarrylaw12_read.f (wrap64 (t148)) t149 t150 t151).bind fun t152 => (if t152 = true then ((whole_Int_Small.f a0).bind fun bt153 => ((quarrylaw12_read.f (wrap64 (bt153.1)) bt153.2 t150 t151).bind fun t155 => (if t155 = true then ((whole_Int_int16.f a0).bind fun bt156 => ((quarryref12_Int.f k a0 16).bind fun bt158 => ((quarrylaw12_read.f (wrap64 (bt156.1)) bt156.2 bt158.1 bt158.2).bind fun t160 => (if t160 = true then ((whole_Int_int32.f a0).bind fun bt161 => ((quarryref12_Int.f k a0 32).bind fun bt163 => ((quarrylaw12_read.f (wrap64 (bt161.1)) bt161.2 bt163.1 bt163.2).bind fun t165 => (if t165 = true then ((quarryref12_Int.f k a0 64).bind fun bt166 => ((whole_Int_int64.f a0).bind fun bt168 => ((quarrylaw12_read.f bt168.1 bt168.2 bt166.1 bt166.2).bind fun t170 => (if t170 = true then ((whole_Int_int.f a0).bind fun bt171 => ((quarrylaw12_read.f bt171.1 bt171.2 bt166.1 bt166.2).bind fun t173 => (if t173 = true then ((whole_Int_Wide.f a0).bind fun bt174 => ((quarrylaw12_read.f bt174.1 bt174.2 bt166.1 bt166.2).bind fun t176 => (if t176 = true then ((quarrylaw12_awake.f).bind fun t177 => (some t177)) else (none)))) else (none)))) else (none))))) else (none))))) else (none))))) else (none)))) else (none))) = some r := H
  have A3 := Aside0.mk A30
  clear A30
  replace H := Option.bind_eq_some_iff.mp H
  obtain ⟨t152, A40, H⟩ := H
  replace H : (if t152 = true then ((whole_Int_Small.f a0).bind fun bt153 => ((quarrylaw12_read.f (wrap64 (bt153.1)) bt153.2 t150 t151).bind fun t155 => (if t155 = true then ((whole_Int_int16.f a0).bind fun bt156 => ((quarryref12_Int.f k a0 16).bind fun bt158 => ((quarrylaw12_read.f (wrap64 (bt156.1)) bt156.2 bt158.1 bt158.2).bind fun t160 => (if t160 = true then ((whole_Int_int32.f a0).bind fun bt161 => ((quarryref12_Int.f k a0 32).bind fun bt163 => ((quarrylaw12_read.f (wrap64 (bt161.1)) bt161.2 bt163.1 bt163.2).bind fun t165 => (if t165 = true then ((quarryref12_Int.f k a0 64).bind fun bt166 => ((whole_Int_int64.f a0).bind fun bt168 => ((quarrylaw12_read.f bt168.1 bt168.2 bt166.1 bt166.2).bind fun t170 => (if t170 = true then ((whole_Int_int.f a0).bind fun bt171 => ((quarrylaw12_read.f bt171.1 bt171.2 bt166.1 bt166.2).bind fun t173 => (if t173 = true then ((whole_Int_Wide.f a0).bind fun bt174 => ((quarrylaw12_read.f bt174.1 bt174.2 bt166.1 bt166.2).bind fun t176 => (if t176 = true then ((quarrylaw12_awake.f).bind fun t177 => (some t177)) else (none)))) else (none)))) else (none))))) else (none))))) else (none))))) else (none)))) else (none)) = some r := H
  have A4 := Aside0.mk A40
  clear A40
  by_cases c5 : t152 = true
  · subst c5
    have H1 : ((whole_Int_Small.f a0).bind fun bt153 => ((quarrylaw12_read.f (wrap64 (bt153.1)) bt153.2 t150 t151).bind fun t155 => (if t155 = true then ((whole_Int_int16.f a0).bind fun bt156 => ((quarryref12_Int.f k a0 16).bind fun bt158 => ((quarrylaw12_read.f (wrap64 (bt156.1)) bt156.2 bt158.1 bt158.2).bind fun t160 => (if t160 = true then ((whole_Int_int32.f a0).bind fun bt161 => ((quarryref12_Int.f k a0 32).bind fun bt163 => ((quarrylaw12_read.f (wrap64 (bt161.1)) bt161.2 bt163.1 bt163.2).bind fun t165 => (if t165 = true then ((quarryref12_Int.f k a0 64).bind fun bt166 => ((whole_Int_int64.f a0).bind fun bt168 => ((quarrylaw12_read.f bt168.1 bt168.2 bt166.1 bt166.2).bind fun t170 => (if t170 = true then ((whole_Int_int.f a0).bind fun bt171 => ((quarrylaw12_read.f bt171.1 bt171.2 bt166.1 bt166.2).bind fun t173 => (if t173 = true then ((whole_Int_Wide.f a0).bind fun bt174 => ((quarrylaw12_read.f bt174.1 bt174.2 bt166.1 bt166.2).bind fun t176 => (if t176 = true then ((quarrylaw12_awake.f).bind fun t177 => (some t177)) else (none)))) else (none)))) else (none))))) else (none))))) else (none))))) else (none)))) = some r := by rw [if_pos rfl] at H; exact H
    clear H
    have H := H1
    clear H1
    replace H := Option.bind_eq_some_iff.mp H
    obtain ⟨⟨t153, t154⟩, A60, H⟩ := H
    replace H : ((quarrylaw12_read.f (wrap64 (t153)) t154 t150 t151).bind fun t155 => (if t155 = true then ((whole_Int_int16.f a0).bind fun bt156 => ((quarryref12_Int.f k a0 16).bind fun bt158 => ((quarrylaw12_read.f (wrap64 (bt156.1)) bt156.2 bt158.1 bt158.2).bind fun t160 => (if t160 = true then ((whole_Int_int32.f a0).bind fun bt161 => ((quarryref12_Int.f k a0 32).bind fun bt163 => ((quarrylaw12_read.f (wrap64 (bt161.1)) bt161.2 bt163.1 bt163.2).bind fun t165 => (if t165 = true then ((quarryref12_Int.f k a0 64).bind fun bt166 => ((whole_Int_int64.f a0).bind fun bt168 => ((quarrylaw12_read.f bt168.1 bt168.2 bt166.1 bt166.2).bind fun t170 => (if t170 = true then ((whole_Int_int.f a0).bind fun bt171 => ((quarrylaw12_read.f bt171.1 bt171.2 bt166.1 bt166.2).bind fun t173 => (if t173 = true then ((whole_Int_Wide.f a0).bind fun bt174 => ((quarrylaw12_read.f bt174.1 bt174.2 bt166.1 bt166.2).bind fun t176 => (if t176 = true then ((quarrylaw12_awake.f).bind fun t177 => (some t177)) else (none)))) else (none)))) else (none))))) else (none))))) else (none))))) else (none))) = some r := H
    have A6 := Aside0.mk A60
    clear A60
    replace H := Option.bind_eq_some_iff.mp H
    obtain ⟨t155, A70, H⟩ := H
    replace H : (if t155 = true then ((whole_Int_int16.f a0).bind fun bt156 => ((quarryref12_Int.f k a0 16).bind fun bt158 => ((quarrylaw12_read.f (wrap64 (bt156.1)) bt156.2 bt158.1 bt158.2).bind fun t160 => (if t160 = true then ((whole_Int_int32.f a0).bind fun bt161 => ((quarryref12_Int.f k a0 32).bind fun bt163 => ((quarrylaw12_read.f (wrap64 (bt161.1)) bt161.2 bt163.1 bt163.2).bind fun t165 => (if t165 = true then ((quarryref12_Int.f k a0 64).bind fun bt166 => ((whole_Int_int64.f a0).bind fun bt168 => ((quarrylaw12_read.f bt168.1 bt168.2 bt166.1 bt166.2).bind fun t170 => (if t170 = true then ((whole_Int_int.f a0).bind fun bt171 => ((quarrylaw12_read.f bt171.1 bt171.2 bt166.1 bt166.2).bind fun t173 => (if t173 = true then ((whole_Int_Wide.f a0).bind fun bt174 => ((quarrylaw12_read.f bt174.1 bt174.2 bt166.1 bt166.2).bind fun t176 => (if t176 = true then ((quarrylaw12_awake.f).bind fun t177 => (some t177)) else (none)))) else (none)))) else (none))))) else (none))))) else (none))))) else (none)) = some r := H
    have A7 := Aside0.mk A70
    clear A70
    by_cases c8 : t155 = true
    · subst c8
      have H1 : ((whole_Int_int16.f a0).bind fun bt156 => ((quarryref12_Int.f k a0 16).bind fun bt158 => ((quarrylaw12_read.f (wrap64 (bt156.1)) bt156.2 bt158.1 bt158.2).bind fun t160 => (if t160 = true then ((whole_Int_int32.f a0).bind fun bt161 => ((quarryref12_Int.f k a0 32).bind fun bt163 => ((quarrylaw12_read.f (wrap64 (bt161.1)) bt161.2 bt163.1 bt163.2).bind fun t165 => (if t165 = true then ((quarryref12_Int.f k a0 64).bind fun bt166 => ((whole_Int_int64.f a0).bind fun bt168 => ((quarrylaw12_read.f bt168.1 bt168.2 bt166.1 bt166.2).bind fun t170 => (if t170 = true then ((whole_Int_int.f a0).bind fun bt171 => ((quarrylaw12_read.f bt171.1 bt171.2 bt166.1 bt166.2).bind fun t173 => (if t173 = true then ((whole_Int_Wide.f a0).bind fun bt174 => ((quarrylaw12_read.f bt174.1 bt174.2 bt166.1 bt166.2).bind fun t176 => (if t176 = true then ((quarrylaw12_awake.f).bind fun t177 => (some t177)) else (none)))) else (none)))) else (none))))) else (none))))) else (none))))) = some r := by rw [if_pos rfl] at H; exact H
      clear H
      have H := H1
      clear H1
      replace H := Option.bind_eq_some_iff.mp H
      obtain ⟨⟨t156, t157⟩, A90, H⟩ := H
      replace H : ((quarryref12_Int.f k a0 16).bind fun bt158 => ((quarrylaw12_read.f (wrap64 (t156)) t157 bt158.1 bt158.2).bind fun t160 => (if t160 = true then ((whole_Int_int32.f a0).bind fun bt161 => ((quarryref12_Int.f k a0 32).bind fun bt163 => ((quarrylaw12_read.f (wrap64 (bt161.1)) bt161.2 bt163.1 bt163.2).bind fun t165 => (if t165 = true then ((quarryref12_Int.f k a0 64).bind fun bt166 => ((whole_Int_int64.f a0).bind fun bt168 => ((quarrylaw12_read.f bt168.1 bt168.2 bt166.1 bt166.2).bind fun t170 => (if t170 = true then ((whole_Int_int.f a0).bind fun bt171 => ((quarrylaw12_read.f bt171.1 bt171.2 bt166.1 bt166.2).bind fun t173 => (if t173 = true then ((whole_Int_Wide.f a0).bind fun bt174 => ((quarrylaw12_read.f bt174.1 bt174.2 bt166.1 bt166.2).bind fun t176 => (if t176 = true then ((quarrylaw12_awake.f).bind fun t177 => (some t177)) else (none)))) else (none)))) else (none))))) else (none))))) else (none)))) = some r := H
      have A9 := Aside0.mk A90
      clear A90
      replace H := Option.bind_eq_some_iff.mp H
      obtain ⟨⟨t158, t159⟩, A100, H⟩ := H
      replace H : ((quarrylaw12_read.f (wrap64 (t156)) t157 t158 t159).bind fun t160 => (if t160 = true then ((whole_Int_int32.f a0).bind fun bt161 => ((quarryref12_Int.f k a0 32).bind fun bt163 => ((quarrylaw12_read.f (wrap64 (bt161.1)) bt161.2 bt163.1 bt163.2).bind fun t165 => (if t165 = true then ((quarryref12_Int.f k a0 64).bind fun bt166 => ((whole_Int_int64.f a0).bind fun bt168 => ((quarrylaw12_read.f bt168.1 bt168.2 bt166.1 bt166.2).bind fun t170 => (if t170 = true then ((whole_Int_int.f a0).bind fun bt171 => ((quarrylaw12_read.f bt171.1 bt171.2 bt166.1 bt166.2).bind fun t173 => (if t173 = true then ((whole_Int_Wide.f a0).bind fun bt174 => ((quarrylaw12_read.f bt174.1 bt174.2 bt166.1 bt166.2).bind fun t176 => (if t176 = true then ((quarrylaw12_awake.f).bind fun t177 => (some t177)) else (none)))) else (none)))) else (none))))) else (none))))) else (none))) = some r := H
      have A10 := Aside0.mk A100
      clear A100
      replace H := Option.bind_eq_some_iff.mp H
      obtain ⟨t160, A110, H⟩ := H
      replace H : (if t160 = true then ((whole_Int_int32.f a0).bind fun bt161 => ((quarryref12_Int.f k a0 32).bind fun bt163 => ((quarrylaw12_read.f (wrap64 (bt161.1)) bt161.2 bt163.1 bt163.2).bind fun t165 => (if t165 = true then ((quarryref12_Int.f k a0 64).bind fun bt166 => ((whole_Int_int64.f a0).bind fun bt168 => ((quarrylaw12_read.f bt168.1 bt168.2 bt166.1 bt166.2).bind fun t170 => (if t170 = true then ((whole_Int_int.f a0).bind fun bt171 => ((quarrylaw12_read.f bt171.1 bt171.2 bt166.1 bt166.2).bind fun t173 => (if t173 = true then ((whole_Int_Wide.f a0).bind fun bt174 => ((quarrylaw12_read.f bt174.1 bt174.2 bt166.1 bt166.2).bind fun t176 => (if t176 = true then ((quarrylaw12_awake.f).bind fun t177 => (some t177)) else (none)))) else (none)))) else (none))))) else (none))))) else (none)) = some r := H
      have A11 := Aside0.mk A110
      clear A110
      by_cases c12 : t160 = true
      · subst c12
        have H1 : ((whole_Int_int32.f a0).bind fun bt161 => ((quarryref12_Int.f k a0 32).bind fun bt163 => ((quarrylaw12_read.f (wrap64 (bt161.1)) bt161.2 bt163.1 bt163.2).bind fun t165 => (if t165 = true then ((quarryref12_Int.f k a0 64).bind fun bt166 => ((whole_Int_int64.f a0).bind fun bt168 => ((quarrylaw12_read.f bt168.1 bt168.2 bt166.1 bt166.2).bind fun t170 => (if t170 = true then ((whole_Int_int.f a0).bind fun bt171 => ((quarrylaw12_read.f bt171.1 bt171.2 bt166.1 bt166.2).bind fun t173 => (if t173 = true then ((whole_Int_Wide.f a0).bind fun bt174 => ((quarrylaw12_read.f bt174.1 bt174.2 bt166.1 bt166.2).bind fun t176 => (if t176 = true then ((quarrylaw12_awake.f).bind fun t177 => (some t177)) else (none)))) else (none)))) else (none))))) else (none))))) = some r := by rw [if_pos rfl] at H; exact H
        clear H
        have H := H1
        clear H1
        replace H := Option.bind_eq_some_iff.mp H
        obtain ⟨⟨t161, t162⟩, A130, H⟩ := H
        replace H : ((quarryref12_Int.f k a0 32).bind fun bt163 => ((quarrylaw12_read.f (wrap64 (t161)) t162 bt163.1 bt163.2).bind fun t165 => (if t165 = true then ((quarryref12_Int.f k a0 64).bind fun bt166 => ((whole_Int_int64.f a0).bind fun bt168 => ((quarrylaw12_read.f bt168.1 bt168.2 bt166.1 bt166.2).bind fun t170 => (if t170 = true then ((whole_Int_int.f a0).bind fun bt171 => ((quarrylaw12_read.f bt171.1 bt171.2 bt166.1 bt166.2).bind fun t173 => (if t173 = true then ((whole_Int_Wide.f a0).bind fun bt174 => ((quarrylaw12_read.f bt174.1 bt174.2 bt166.1 bt166.2).bind fun t176 => (if t176 = true then ((quarrylaw12_awake.f).bind fun t177 => (some t177)) else (none)))) else (none)))) else (none))))) else (none)))) = some r := H
        have A13 := Aside0.mk A130
        clear A130
        replace H := Option.bind_eq_some_iff.mp H
        obtain ⟨⟨t163, t164⟩, A140, H⟩ := H
        replace H : ((quarrylaw12_read.f (wrap64 (t161)) t162 t163 t164).bind fun t165 => (if t165 = true then ((quarryref12_Int.f k a0 64).bind fun bt166 => ((whole_Int_int64.f a0).bind fun bt168 => ((quarrylaw12_read.f bt168.1 bt168.2 bt166.1 bt166.2).bind fun t170 => (if t170 = true then ((whole_Int_int.f a0).bind fun bt171 => ((quarrylaw12_read.f bt171.1 bt171.2 bt166.1 bt166.2).bind fun t173 => (if t173 = true then ((whole_Int_Wide.f a0).bind fun bt174 => ((quarrylaw12_read.f bt174.1 bt174.2 bt166.1 bt166.2).bind fun t176 => (if t176 = true then ((quarrylaw12_awake.f).bind fun t177 => (some t177)) else (none)))) else (none)))) else (none))))) else (none))) = some r := H
        have A14 := Aside0.mk A140
        clear A140
        replace H := Option.bind_eq_some_iff.mp H
        obtain ⟨t165, A150, H⟩ := H
        replace H : (if t165 = true then ((quarryref12_Int.f k a0 64).bind fun bt166 => ((whole_Int_int64.f a0).bind fun bt168 => ((quarrylaw12_read.f bt168.1 bt168.2 bt166.1 bt166.2).bind fun t170 => (if t170 = true then ((whole_Int_int.f a0).bind fun bt171 => ((quarrylaw12_read.f bt171.1 bt171.2 bt166.1 bt166.2).bind fun t173 => (if t173 = true then ((whole_Int_Wide.f a0).bind fun bt174 => ((quarrylaw12_read.f bt174.1 bt174.2 bt166.1 bt166.2).bind fun t176 => (if t176 = true then ((quarrylaw12_awake.f).bind fun t177 => (some t177)) else (none)))) else (none)))) else (none))))) else (none)) = some r := H
        have A15 := Aside0.mk A150
        clear A150
        by_cases c16 : t165 = true
        · subst c16
          have H1 : ((quarryref12_Int.f k a0 64).bind fun bt166 => ((whole_Int_int64.f a0).bind fun bt168 => ((quarrylaw12_read.f bt168.1 bt168.2 bt166.1 bt166.2).bind fun t170 => (if t170 = true then ((whole_Int_int.f a0).bind fun bt171 => ((quarrylaw12_read.f bt171.1 bt171.2 bt166.1 bt166.2).bind fun t173 => (if t173 = true then ((whole_Int_Wide.f a0).bind fun bt174 => ((quarrylaw12_read.f bt174.1 bt174.2 bt166.1 bt166.2).bind fun t176 => (if t176 = true then ((quarrylaw12_awake.f).bind fun t177 => (some t177)) else (none)))) else (none)))) else (none))))) = some r := by rw [if_pos rfl] at H; exact H
          clear H
          have H := H1
          clear H1
          replace H := Option.bind_eq_some_iff.mp H
          obtain ⟨⟨t166, t167⟩, A170, H⟩ := H
          replace H : ((whole_Int_int64.f a0).bind fun bt168 => ((quarrylaw12_read.f bt168.1 bt168.2 t166 t167).bind fun t170 => (if t170 = true then ((whole_Int_int.f a0).bind fun bt171 => ((quarrylaw12_read.f bt171.1 bt171.2 t166 t167).bind fun t173 => (if t173 = true then ((whole_Int_Wide.f a0).bind fun bt174 => ((quarrylaw12_read.f bt174.1 bt174.2 t166 t167).bind fun t176 => (if t176 = true then ((quarrylaw12_awake.f).bind fun t177 => (some t177)) else (none)))) else (none)))) else (none)))) = some r := H
          have A17 := Aside0.mk A170
          clear A170
          replace H := Option.bind_eq_some_iff.mp H
          obtain ⟨⟨t168, t169⟩, A180, H⟩ := H
          replace H : ((quarrylaw12_read.f t168 t169 t166 t167).bind fun t170 => (if t170 = true then ((whole_Int_int.f a0).bind fun bt171 => ((quarrylaw12_read.f bt171.1 bt171.2 t166 t167).bind fun t173 => (if t173 = true then ((whole_Int_Wide.f a0).bind fun bt174 => ((quarrylaw12_read.f bt174.1 bt174.2 t166 t167).bind fun t176 => (if t176 = true then ((quarrylaw12_awake.f).bind fun t177 => (some t177)) else (none)))) else (none)))) else (none))) = some r := H
          have A18 := Aside0.mk A180
          clear A180
          replace H := Option.bind_eq_some_iff.mp H
          obtain ⟨t170, A190, H⟩ := H
          replace H : (if t170 = true then ((whole_Int_int.f a0).bind fun bt171 => ((quarrylaw12_read.f bt171.1 bt171.2 t166 t167).bind fun t173 => (if t173 = true then ((whole_Int_Wide.f a0).bind fun bt174 => ((quarrylaw12_read.f bt174.1 bt174.2 t166 t167).bind fun t176 => (if t176 = true then ((quarrylaw12_awake.f).bind fun t177 => (some t177)) else (none)))) else (none)))) else (none)) = some r := H
          have A19 := Aside0.mk A190
          clear A190
          by_cases c20 : t170 = true
          · subst c20
            have H1 : ((whole_Int_int.f a0).bind fun bt171 => ((quarrylaw12_read.f bt171.1 bt171.2 t166 t167).bind fun t173 => (if t173 = true then ((whole_Int_Wide.f a0).bind fun bt174 => ((quarrylaw12_read.f bt174.1 bt174.2 t166 t167).bind fun t176 => (if t176 = true then ((quarrylaw12_awake.f).bind fun t177 => (some t177)) else (none)))) else (none)))) = some r := by rw [if_pos rfl] at H; exact H
            clear H
            have H := H1
            clear H1
            replace H := Option.bind_eq_some_iff.mp H
            obtain ⟨⟨t171, t172⟩, A210, H⟩ := H
            replace H : ((quarrylaw12_read.f t171 t172 t166 t167).bind fun t173 => (if t173 = true then ((whole_Int_Wide.f a0).bind fun bt174 => ((quarrylaw12_read.f bt174.1 bt174.2 t166 t167).bind fun t176 => (if t176 = true then ((quarrylaw12_awake.f).bind fun t177 => (some t177)) else (none)))) else (none))) = some r := H
            have A21 := Aside0.mk A210
            clear A210
            replace H := Option.bind_eq_some_iff.mp H
            obtain ⟨t173, A220, H⟩ := H
            replace H : (if t173 = true then ((whole_Int_Wide.f a0).bind fun bt174 => ((quarrylaw12_read.f bt174.1 bt174.2 t166 t167).bind fun t176 => (if t176 = true then ((quarrylaw12_awake.f).bind fun t177 => (some t177)) else (none)))) else (none)) = some r := H
            have A22 := Aside0.mk A220
            clear A220
            by_cases c23 : t173 = true
            · subst c23
              have H1 : ((whole_Int_Wide.f a0).bind fun bt174 => ((quarrylaw12_read.f bt174.1 bt174.2 t166 t167).bind fun t176 => (if t176 = true then ((quarrylaw12_awake.f).bind fun t177 => (some t177)) else (none)))) = some r := by rw [if_pos rfl] at H; exact H
              clear H
              have H := H1
              clear H1
              replace H := Option.bind_eq_some_iff.mp H
              obtain ⟨⟨t174, t175⟩, A240, H⟩ := H
              replace H : ((quarrylaw12_read.f t174 t175 t166 t167).bind fun t176 => (if t176 = true then ((quarrylaw12_awake.f).bind fun t177 => (some t177)) else (none))) = some r := H
              have A24 := Aside0.mk A240
              clear A240
              replace H := Option.bind_eq_some_iff.mp H
              obtain ⟨t176, A250, H⟩ := H
              replace H : (if t176 = true then ((quarrylaw12_awake.f).bind fun t177 => (some t177)) else (none)) = some r := H
              have A25 := Aside0.mk A250
              clear A250
              by_cases c26 : t176 = true
              · subst c26
                have H1 : ((quarrylaw12_awake.f).bind fun t177 => (some t177)) = some r := by rw [if_pos rfl] at H; exact H
                clear H
                have H := H1
                clear H1
                replace H := Option.bind_eq_some_iff.mp H
                obtain ⟨t177, A270, H⟩ := H
                replace H : (some t177) = some r := H
                have A27 := Aside0.mk A270
                clear A270
                obtain rfl := Option.some.inj H
                go_enter Tryd.func7, Tryd.ntmps7
                go_wp2_with (first | ((with_reducible refine gate_callee (f := 23) rfl ?_); refine goesL_ (some 15) rfl rfl Tryd.func23 (by kernel_rfl) rfl #[.string a0] rfl (by (try simp only [List.map_toArray, List.map_cons, List.map_nil]); first | done | rfl | (simp only [List.length_drop, List.length_take]; rfl)) ?_; (with_reducible refine (whole_Int_int8.calls a0 t148 t149 _ A2.out).mono ?_); rintro e w28 ⟨rfl, hb⟩; refine ⟨_, rfl, ?_⟩; have n0_ := Aside0.mk (below_step (by repeat (first | (with_reducible first | exact HB.out | apply below_alloc | apply pw_below_drewN | apply below_drew1) | exact HB.out)) hb); clear HB; have HB := n0_; clear n0_; (try clear hb); (try clear hb2); (try clear hk); (try clear hi)) | ((with_reducible refine gate_callee (f := 34) rfl ?_); refine goesL_ (some 20) rfl rfl Tryd.func34 (by kernel_rfl) rfl #[.string a0, .int .i64 8] rfl (by (try simp only [List.map_toArray, List.map_cons, List.map_nil]); first | done | rfl | (simp only [List.length_drop, List.length_take]; rfl)) ?_; (with_reducible refine (quarryref12_Int.calls k a0 8 t150 t151 _ A3.out).mono ?_); rintro e w29 ⟨rfl, hb⟩; refine ⟨_, rfl, ?_⟩; have n0_ := Aside0.mk (below_step (by repeat (first | (with_reducible first | exact HB.out | apply below_alloc | apply pw_below_drewN | apply below_drew1) | exact HB.out)) hb); clear HB; have HB := n0_; clear n0_; (try clear hb); (try clear hb2); (try clear hk); (try clear hi)) | ((with_reducible refine gate_callee (f := 35) rfl ?_); refine goesL_ (some 28) rfl rfl Tryd.func35 (by kernel_rfl) rfl #[.int .i64 (wrap64 (t148)), .int .i64 t149, .int .i64 t150, .int .i64 t151] rfl (by (try simp only [List.map_toArray, List.map_cons, List.map_nil]); first | done | rfl | (simp only [List.length_drop, List.length_take]; rfl)) ?_; (with_reducible refine (quarrylaw12_read.calls (wrap64 (t148)) t149 t150 t151 true _ A4.out).mono ?_); rintro e w' ⟨rfl, ⟨nd, rfl⟩⟩; refine ⟨_, rfl, ?_⟩) | ((with_reducible refine gate_callee (f := 36) rfl ?_); refine goesL_ (some 32) rfl rfl Tryd.func36 (by kernel_rfl) rfl #[.string a0] rfl (by (try simp only [List.map_toArray, List.map_cons, List.map_nil]); first | done | rfl | (simp only [List.length_drop, List.length_take]; rfl)) ?_; (with_reducible refine (whole_Int_Small.calls a0 t153 t154 _ A6.out).mono ?_); rintro e w30 ⟨rfl, hb⟩; refine ⟨_, rfl, ?_⟩; have n0_ := Aside0.mk (below_step (by repeat (first | (with_reducible first | exact HB.out | apply below_alloc | apply pw_below_drewN | apply below_drew1) | exact HB.out)) hb); clear HB; have HB := n0_; clear n0_; (try clear hb); (try clear hb2); (try clear hk); (try clear hi)) | ((with_reducible refine gate_callee (f := 35) rfl ?_); refine goesL_ (some 40) rfl rfl Tryd.func35 (by kernel_rfl) rfl #[.int .i64 (wrap64 (t153)), .int .i64 t154, .int .i64 t150, .int .i64 t151] rfl (by (try simp only [List.map_toArray, List.map_cons, List.map_nil]); first | done | rfl | (simp only [List.length_drop, List.length_take]; rfl)) ?_; (with_reducible refine (quarrylaw12_read.calls (wrap64 (t153)) t154 t150 t151 true _ A7.out).mono ?_); rintro e w' ⟨rfl, ⟨nd, rfl⟩⟩; refine ⟨_, rfl, ?_⟩) | ((with_reducible refine gate_callee (f := 24) rfl ?_); refine goesL_ (some 44) rfl rfl Tryd.func24 (by kernel_rfl) rfl #[.string a0] rfl (by (try simp only [List.map_toArray, List.map_cons, List.map_nil]); first | done | rfl | (simp only [List.length_drop, List.length_take]; rfl)) ?_; (with_reducible refine (whole_Int_int16.calls a0 t156 t157 _ A9.out).mono ?_); rintro e w31 ⟨rfl, hb⟩; refine ⟨_, rfl, ?_⟩; have n0_ := Aside0.mk (below_step (by repeat (first | (with_reducible first | exact HB.out | apply below_alloc | apply pw_below_drewN | apply below_drew1) | exact HB.out)) hb); clear HB; have HB := n0_; clear n0_; (try clear hb); (try clear hb2); (try clear hk); (try clear hi)) | ((with_reducible refine gate_callee (f := 34) rfl ?_); refine goesL_ (some 49) rfl rfl Tryd.func34 (by kernel_rfl) rfl #[.string a0, .int .i64 16] rfl (by (try simp only [List.map_toArray, List.map_cons, List.map_nil]); first | done | rfl | (simp only [List.length_drop, List.length_take]; rfl)) ?_; (with_reducible refine (quarryref12_Int.calls k a0 16 t158 t159 _ A10.out).mono ?_); rintro e w32 ⟨rfl, hb⟩; refine ⟨_, rfl, ?_⟩; have n0_ := Aside0.mk (below_step (by repeat (first | (with_reducible first | exact HB.out | apply below_alloc | apply pw_below_drewN | apply below_drew1) | exact HB.out)) hb); clear HB; have HB := n0_; clear n0_; (try clear hb); (try clear hb2); (try clear hk); (try clear hi)) | ((with_reducible refine gate_callee (f := 35) rfl ?_); refine goesL_ (some 57) rfl rfl Tryd.func35 (by kernel_rfl) rfl #[.int .i64 (wrap64 (t156)), .int .i64 t157, .int .i64 t158, .int .i64 t159] rfl (by (try simp only [List.map_toArray, List.map_cons, List.map_nil]); first | done | rfl | (simp only [List.length_drop, List.length_take]; rfl)) ?_; (with_reducible refine (quarrylaw12_read.calls (wrap64 (t156)) t157 t158 t159 true _ A11.out).mono ?_); rintro e w' ⟨rfl, ⟨nd, rfl⟩⟩; refine ⟨_, rfl, ?_⟩) | ((with_reducible refine gate_callee (f := 25) rfl ?_); refine goesL_ (some 61) rfl rfl Tryd.func25 (by kernel_rfl) rfl #[.string a0] rfl (by (try simp only [List.map_toArray, List.map_cons, List.map_nil]); first | done | rfl | (simp only [List.length_drop, List.length_take]; rfl)) ?_; (with_reducible refine (whole_Int_int32.calls a0 t161 t162 _ A13.out).mono ?_); rintro e w33 ⟨rfl, hb⟩; refine ⟨_, rfl, ?_⟩; have n0_ := Aside0.mk (below_step (by repeat (first | (with_reducible first | exact HB.out | apply below_alloc | apply pw_below_drewN | apply below_drew1) | exact HB.out)) hb); clear HB; have HB := n0_; clear n0_; (try clear hb); (try clear hb2); (try clear hk); (try clear hi)) | ((with_reducible refine gate_callee (f := 34) rfl ?_); refine goesL_ (some 66) rfl rfl Tryd.func34 (by kernel_rfl) rfl #[.string a0, .int .i64 32] rfl (by (try simp only [List.map_toArray, List.map_cons, List.map_nil]); first | done | rfl | (simp only [List.length_drop, List.length_take]; rfl)) ?_; (with_reducible refine (quarryref12_Int.calls k a0 32 t163 t164 _ A14.out).mono ?_); rintro e w34 ⟨rfl, hb⟩; refine ⟨_, rfl, ?_⟩; have n0_ := Aside0.mk (below_step (by repeat (first | (with_reducible first | exact HB.out | apply below_alloc | apply pw_below_drewN | apply below_drew1) | exact HB.out)) hb); clear HB; have HB := n0_; clear n0_; (try clear hb); (try clear hb2); (try clear hk); (try clear hi)) | ((with_reducible refine gate_callee (f := 35) rfl ?_); refine goesL_ (some 74) rfl rfl Tryd.func35 (by kernel_rfl) rfl #[.int .i64 (wrap64 (t161)), .int .i64 t162, .int .i64 t163, .int .i64 t164] rfl (by (try simp only [List.map_toArray, List.map_cons, List.map_nil]); first | done | rfl | (simp only [List.length_drop, List.length_take]; rfl)) ?_; (with_reducible refine (quarrylaw12_read.calls (wrap64 (t161)) t162 t163 t164 true _ A15.out).mono ?_); rintro e w' ⟨rfl, ⟨nd, rfl⟩⟩; refine ⟨_, rfl, ?_⟩) | ((with_reducible refine gate_callee (f := 34) rfl ?_); refine goesL_ (some 78) rfl rfl Tryd.func34 (by kernel_rfl) rfl #[.string a0, .int .i64 64] rfl (by (try simp only [List.map_toArray, List.map_cons, List.map_nil]); first | done | rfl | (simp only [List.length_drop, List.length_take]; rfl)) ?_; (with_reducible refine (quarryref12_Int.calls k a0 64 t166 t167 _ A17.out).mono ?_); rintro e w35 ⟨rfl, hb⟩; refine ⟨_, rfl, ?_⟩; have n0_ := Aside0.mk (below_step (by repeat (first | (with_reducible first | exact HB.out | apply below_alloc | apply pw_below_drewN | apply below_drew1) | exact HB.out)) hb); clear HB; have HB := n0_; clear n0_; (try clear hb); (try clear hb2); (try clear hk); (try clear hi)) | ((with_reducible refine gate_callee (f := 26) rfl ?_); refine goesL_ (some 83) rfl rfl Tryd.func26 (by kernel_rfl) rfl #[.string a0] rfl (by (try simp only [List.map_toArray, List.map_cons, List.map_nil]); first | done | rfl | (simp only [List.length_drop, List.length_take]; rfl)) ?_; (with_reducible refine (whole_Int_int64.calls a0 t168 t169 _ A18.out).mono ?_); rintro e w36 ⟨rfl, hb⟩; refine ⟨_, rfl, ?_⟩; have n0_ := Aside0.mk (below_step (by repeat (first | (with_reducible first | exact HB.out | apply below_alloc | apply pw_below_drewN | apply below_drew1) | exact HB.out)) hb); clear HB; have HB := n0_; clear n0_; (try clear hb); (try clear hb2); (try clear hk); (try clear hi)) | ((with_reducible refine gate_callee (f := 35) rfl ?_); refine goesL_ (some 90) rfl rfl Tryd.func35 (by kernel_rfl) rfl #[.int .i64 t168, .int .i64 t169, .int .i64 t166, .int .i64 t167] rfl (by (try simp only [List.map_toArray, List.map_cons, List.map_nil]); first | done | rfl | (simp only [List.length_drop, List.length_take]; rfl)) ?_; (with_reducible refine (quarrylaw12_read.calls t168 t169 t166 t167 true _ A19.out).mono ?_); rintro e w' ⟨rfl, ⟨nd, rfl⟩⟩; refine ⟨_, rfl, ?_⟩) | ((with_reducible refine gate_callee (f := 37) rfl ?_); refine goesL_ (some 94) rfl rfl Tryd.func37 (by kernel_rfl) rfl #[.string a0] rfl (by (try simp only [List.map_toArray, List.map_cons, List.map_nil]); first | done | rfl | (simp only [List.length_drop, List.length_take]; rfl)) ?_; (with_reducible refine (whole_Int_int.calls a0 t171 t172 _ A21.out).mono ?_); rintro e w37 ⟨rfl, hb⟩; refine ⟨_, rfl, ?_⟩; have n0_ := Aside0.mk (below_step (by repeat (first | (with_reducible first | exact HB.out | apply below_alloc | apply pw_below_drewN | apply below_drew1) | exact HB.out)) hb); clear HB; have HB := n0_; clear n0_; (try clear hb); (try clear hb2); (try clear hk); (try clear hi)) | ((with_reducible refine gate_callee (f := 35) rfl ?_); refine goesL_ (some 101) rfl rfl Tryd.func35 (by kernel_rfl) rfl #[.int .i64 t171, .int .i64 t172, .int .i64 t166, .int .i64 t167] rfl (by (try simp only [List.map_toArray, List.map_cons, List.map_nil]); first | done | rfl | (simp only [List.length_drop, List.length_take]; rfl)) ?_; (with_reducible refine (quarrylaw12_read.calls t171 t172 t166 t167 true _ A22.out).mono ?_); rintro e w' ⟨rfl, ⟨nd, rfl⟩⟩; refine ⟨_, rfl, ?_⟩) | ((with_reducible refine gate_callee (f := 38) rfl ?_); refine goesL_ (some 105) rfl rfl Tryd.func38 (by kernel_rfl) rfl #[.string a0] rfl (by (try simp only [List.map_toArray, List.map_cons, List.map_nil]); first | done | rfl | (simp only [List.length_drop, List.length_take]; rfl)) ?_; (with_reducible refine (whole_Int_Wide.calls a0 t174 t175 _ A24.out).mono ?_); rintro e w38 ⟨rfl, hb⟩; refine ⟨_, rfl, ?_⟩; have n0_ := Aside0.mk (below_step (by repeat (first | (with_reducible first | exact HB.out | apply below_alloc | apply pw_below_drewN | apply below_drew1) | exact HB.out)) hb); clear HB; have HB := n0_; clear n0_; (try clear hb); (try clear hb2); (try clear hk); (try clear hi)) | ((with_reducible refine gate_callee (f := 35) rfl ?_); refine goesL_ (some 112) rfl rfl Tryd.func35 (by kernel_rfl) rfl #[.int .i64 t174, .int .i64 t175, .int .i64 t166, .int .i64 t167] rfl (by (try simp only [List.map_toArray, List.map_cons, List.map_nil]); first | done | rfl | (simp only [List.length_drop, List.length_take]; rfl)) ?_; (with_reducible refine (quarrylaw12_read.calls t174 t175 t166 t167 true _ A25.out).mono ?_); rintro e w' ⟨rfl, ⟨nd, rfl⟩⟩; refine ⟨_, rfl, ?_⟩) | (go_at_call 31; (with_reducible refine (quarrylaw12_awake.calls  t177 _ A27.out).mono ?_); rintro e w39 ⟨rfl, hb⟩; have n0_ := Aside0.mk (below_step (by repeat (first | (with_reducible first | exact HB.out | apply below_alloc | apply pw_below_drewN | apply below_drew1) | exact HB.out)) hb); clear HB; have HB := n0_; clear n0_; (try clear hb); (try clear hb2); (try clear hk); (try clear hi)))
                go_ret
                exact ⟨by first | rfl | (simp [errW_none, errW_some] <;> rfl) | (simp [*, errW_none, errW_some] <;> rfl), by repeat (first | (with_reducible first | exact HB.out | apply below_alloc | apply pw_below_drewN | apply below_drew1) | exact HB.out)⟩
              · replace c26 := Bool.eq_false_iff.mpr c26
                subst c26
                have H1 : (none) = some r := by rw [if_neg (show ¬ (false = true) by decide)] at H; exact H
                clear H
                have H := H1
                clear H1
                exact absurd H (by simp)
            · replace c23 := Bool.eq_false_iff.mpr c23
              subst c23
              have H1 : (none) = some r := by rw [if_neg (show ¬ (false = true) by decide)] at H; exact H
              clear H
              have H := H1
              clear H1
              exact absurd H (by simp)
          · replace c20 := Bool.eq_false_iff.mpr c20
            subst c20
            have H1 : (none) = some r := by rw [if_neg (show ¬ (false = true) by decide)] at H; exact H
            clear H
            have H := H1
            clear H1
            exact absurd H (by simp)
        · replace c16 := Bool.eq_false_iff.mpr c16
          subst c16
          have H1 : (none) = some r := by rw [if_neg (show ¬ (false = true) by decide)] at H; exact H
          clear H
          have H := H1
          clear H1
          exact absurd H (by simp)
      · replace c12 := Bool.eq_false_iff.mpr c12
        subst c12
        have H1 : (none) = some r := by rw [if_neg (show ¬ (false = true) by decide)] at H; exact H
        clear H
        have H := H1
        clear H1
        exact absurd H (by simp)
    · replace c8 := Bool.eq_false_iff.mpr c8
      subst c8
      have H1 : (none) = some r := by rw [if_neg (show ¬ (false = true) by decide)] at H; exact H
      clear H
      have H := H1
      clear H1
      exact absurd H (by simp)
  · replace c5 := Bool.eq_false_iff.mpr c5
    subst c5
    have H1 : (none) = some r := by rw [if_neg (show ¬ (false = true) by decide)] at H; exact H
    clear H
    have H := H1
    clear H1
    exact absurd H (by simp)

end Go.Proofs.YtkjmbibnfohkjaaDoor.PWholeInts
