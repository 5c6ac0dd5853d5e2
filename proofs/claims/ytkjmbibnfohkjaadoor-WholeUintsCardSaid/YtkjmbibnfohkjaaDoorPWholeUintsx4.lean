/- The machine side of a statement, laid by the kit's print program, run by wip/tools/gprint.py: some functions' contracts are given, proved by hand. -/
import Derived.Test.YtkjmbibnfohkjaaDoorPWholeUintsx0
import Derived.Test.YtkjmbibnfohkjaaDoorPWholeUintsx1
import Derived.Test.YtkjmbibnfohkjaaDoorPWholeUintsx3
namespace Go.Proofs.YtkjmbibnfohkjaaDoor.PWholeUints
open Go.RowKit Go.Proofs.YtkjmbibnfohkjaaDoorW.PrintWords Go.Proofs.YtkjmbibnfohkjaaDoorW.PrintLast Go.Proofs.YtkjmbibnfohkjaaDoorW.PrintMore
attribute [local go_sem] max2_int min2_int max_two min_two max_three min_three max_four min_four   -- for this text's walks alone
set_option linter.unusedVariables false
set_option linter.unusedSimpArgs false

/-! ### quarrylaw12_WholeUints: function 8 -/
def quarrylaw12_WholeUints.f (k : Nat) (a0 : ByteArray) : Option (Bool) := (whole_Uint_uint8.f a0).bind fun bt151 => ((quarryref12_Uint.f k a0 8).bind fun bt153 => ((quarrylaw12_same.f (IntKind.u64.wrap (bt151.1)) bt151.2 bt153.1 bt153.2).bind fun t155 => (if t155 = true then ((whole_Uint_Byte.f a0).bind fun bt156 => ((quarrylaw12_same.f (IntKind.u64.wrap (bt156.1)) bt156.2 bt153.1 bt153.2).bind fun t158 => (if t158 = true then ((whole_Uint_uint16.f a0).bind fun bt159 => ((quarryref12_Uint.f k a0 16).bind fun bt161 => ((quarrylaw12_same.f (IntKind.u64.wrap (bt159.1)) bt159.2 bt161.1 bt161.2).bind fun t163 => (if t163 = true then ((whole_Uint_uint32.f a0).bind fun bt164 => ((quarryref12_Uint.f k a0 32).bind fun bt166 => ((quarrylaw12_same.f (IntKind.u64.wrap (bt164.1)) bt164.2 bt166.1 bt166.2).bind fun t168 => (if t168 = true then ((quarryref12_Uint.f k a0 64).bind fun bt169 => ((whole_Uint_uint64.f a0).bind fun bt171 => ((quarrylaw12_same.f bt171.1 bt171.2 bt169.1 bt169.2).bind fun t173 => (if t173 = true then ((whole_Uint_uint.f a0).bind fun bt174 => ((quarrylaw12_same.f bt174.1 bt174.2 bt169.1 bt169.2).bind fun t176 => (if t176 = true then ((whole_Uint_Long.f a0).bind fun bt177 => ((quarrylaw12_same.f bt177.1 bt177.2 bt169.1 bt169.2).bind fun t179 => (if t179 = true then ((quarrylaw12_awake.f).bind fun t180 => (some t180)) else (none)))) else (none)))) else (none))))) else (none))))) else (none))))) else (none)))) else (none))))
theorem quarrylaw12_WholeUints.mono : ∀ a0 k, LeO (quarrylaw12_WholeUints.f k a0) (quarrylaw12_WholeUints.f (k + 1) a0) := by
  intro a0 k
  unfold quarrylaw12_WholeUints.f
  repeat' first
      | (with_reducible exact quarryref12_Uint.mono _ _ _)
      | (with_reducible exact LeO.refl _)
      | (with_reducible exact LeO.none _)
      | (with_reducible refine LeO.ite ?_ ?_)
      | (with_reducible refine LeO.bind ?_ (fun _ => ?_))
      | exact quarryref12_Uint.mono _ _ _
      | exact LeO.none _
      | refine LeO.ite ?_ ?_
      | refine LeO.bind ?_ (fun _ => ?_)
set_option maxHeartbeats 8000000 in
set_option maxRecDepth 100000 in
theorem quarrylaw12_WholeUints.calls (k : Nat) (a0 : ByteArray) (r : Bool) (w : World) (h : quarrylaw12_WholeUints.f k a0 = some r) (hT : TabW w := by first | exact hT | exact TabW.drewN hT _ | (refine TabW.below hT ?_; repeat (first | (with_reducible exact HB.out) | (with_reducible exact Below.refl _ _) | apply below_alloc | apply pw_below_drewN | apply below_drew1 | apply below_drew | assumption | refine below_set ?_ (Aside0.out (by assumption))))) :
    Calls Tryd.prog 8 #[.string a0] w fun e w' => e = .returned (.bool r) ∧ Below w.heap.size w w' := by
  have HB := Aside0.mk (Below.refl w.heap.size w)
  have H : ((whole_Uint_uint8.f a0).bind fun bt151 => ((quarryref12_Uint.f k a0 8).bind fun bt153 => ((quarrylaw12_same.f (IntKind.u64.wrap (bt151.1)) bt151.2 bt153.1 bt153.2).bind fun t155 => (if t155 = true then ((whole_Uint_Byte.f a0).bind fun bt156 => ((quarrylaw12_same.f (IntKind.u64.wrap (bt156.1)) bt156.2 bt153.1 bt153.2).bind fun t158 => (if t158 = true then ((whole_Uint_uint16.f a0).bind fun bt159 => ((quarryref12_Uint.f k a0 16).bind fun bt161 => ((quarrylaw12_same.f (IntKind.u64.wrap (bt159.1)) bt159.2 bt161.1 bt161.2).bind fun t163 => (if t163 = true then ((whole_Uint_uint32.f a0).bind fun bt164 => ((quarryref12_Uint.f k a0 32).bind fun bt166 => ((quarrylaw12_same.f (IntKind.u64.wrap (bt164.1)) bt164.2 bt166.1 bt166.2).bind fun t168 => (if t168 = true then ((quarryref12_Uint.f k a0 64).bind fun bt169 => ((whole_Uint_uint64.f a0).bind fun bt171 => ((quarrylaw12_same.f bt171.1 bt171.2 bt169.1 bt169.2).bind fun t173 => (if t173 = true then ((whole_Uint_uint.f a0).bind fun bt174 => ((quarrylaw12_same.f bt174.1 bt174.2 bt169.1 bt169.2).bind fun t176 => (if t176 = true then ((whole_Uint_Long.f a0).bind fun bt177 => ((quarrylaw12_same.f bt177.1 bt177.2 bt169.1 bt169.2).bind fun t179 => (if t179 = true then ((quarrylaw12_awake.f).bind fun t180 => (some t180)) else (none)))) else (none)))) else (none))))) else (none))))) else (none))))) else (none)))) else (none))))) = some r := h
  clear h
  replace H := Option.bind_eq_some_iff.mp H
  obtain ⟨⟨t151, t152⟩, A20, H⟩ := H
  replace H : ((quarryref12_Uint.f k a0 8).bind fun bt153 => ((quarrylaw12_same.f (IntKind.u64.wrap (t151)) t152 bt153.1 bt153.2).bind fun t155 => (if t155 = true then ((whole_Uint_Byte.f a0).bind fun bt156 => ((quarrylaw12_same.f (IntKind.u64.wrap (bt156.1)) bt156.2 bt153.1 bt153.2).bind fun t158 => (if t158 = true then ((whole_Uint_uint16.f a0).bind fun bt159 => ((quarryref12_Uint.f k a0 16).bind fun bt161 => ((quarrylaw12_same.f (IntKind.u64.wrap (bt159.1)) bt159.2 bt161.1 bt161.2).bind fun t163 => (if t163 = true then ((whole_Uint_uint32.f a0).bind fun bt164 => ((quarryref12_Uint.f k a0 32).bind fun bt166 => ((quarrylaw12_same.f (IntKind.u64.wrap (bt164.1)) bt164.2 bt166.1 bt166.2).bind fun t168 => (if t168 = true then ((quarryref12_Uint.f k a0 64).bind fun bt169 => ((whole_Uint_uint64.f a0).bind fun bt171 => ((quarrylaw12_same.f bt171.1 bt171.2 bt169.1 bt169.2).bind fun t173 => (if t173 = true then ((whole_Uint_uint.f a0).bind fun bt174 => ((quarrylaw12_same.f bt174.1 bt174.2 bt169.1 bt169.2).bind fun t176 => (if t176 = true then ((whole_Uint_Long.f a0).bind fun bt177 => ((quarrylaw12_same.f bt177.1 bt177.2 bt169.1 bt169.2).bind fun t179 => (if t179 = true then ((quarrylaw12_awake.f).bind fun t180 => (some t180)) else (none)))) else (none)))) else (none))))) else (none))))) else (none))))) else (none)))) else (none)))) = some r := H
  have A2 := Aside0.mk A20
  clear A20
  replace H := Option.bind_eq_some_iff.mp H
  obtain ⟨⟨t153, t154⟩, A30, H⟩ := H
  replace H : ((quarrylaw12_same.f (IntKind.u64.wrap (t151)) t152 t153 t154).bind fun t155 => (if t155 = true then ((whole_Uint_Byte.f a0).bind fun bt156 => ((quarrylaw12_same.f (IntKind.u64.wrap (bt156.1)) bt156.2 t153 t154).bind fun t158 => (if t158 = true then ((whole_Uint_uint16.f a0).bind fun bt159 => ((quarryref12_Uint.f k a0 16).bind fun bt161 => ((quarrylaw12_same.f (IntKind.u64.wrap (bt159.1)) bt159.2 bt161.1 bt161.2).bind fun t163 => (if t163 = true then ((whole_Uint_uint32.f a0).bind fun bt164 => ((quarryref12_Uint.f k a0 32).bind fun bt166 => ((quarrylaw12_same.f (IntKind.u64.wrap (bt164.1)) bt164.2 bt166.1 bt166.2).bind fun t168 => (if t168 = true then ((quarryref12_Uint.f k a0 64).bind fun bt169 => ((whole_Uint_uint64.f a0).bind fun bt171 => ((quarrylaw12_same.f bt171.1 bt171.2 bt169.1 bt169.2).bind fun t173 => (if t173 = true then ((whole_Uint_uint.f a0).bind fun bt174 => ((quarrylaw12_same.f bt174.1 bt174.2 bt169.1 bt169.2).bind fun t176 => (if t176 = true then ((whole_Uint_Long.f a0).bind fun bt177 => ((quarrylaw12_same.f bt177.1 bt177.2 bt169.1 bt169.2).bind fun t179 => (if t179 = true then ((quarrylaw12_awake.f).bind fun t180 => (some t180)) else (none)))) else (none)))) else (none))))) else (none))))) else (none))))) else (none)))) else (none))) = some r := H
  have A3 := Aside0.mk A30
  clear A30
  replace H := Option.bind_eq_some_iff.mp H
  obtain ⟨t155, A40, H⟩ := H
  replace H : (if t155 = true then ((whole_Uint_Byte.f a0).bind fun bt156 => ((quarrylaw12_same.f (IntKind.u64.wrap (bt156.1)) bt156.2 t153 t154).bind fun t158 => (if t158 = true then ((whole_Uint_uint16.f a0).bind fun bt159 => ((quarryref12_Uint.f k a0 16).bind fun bt161 => ((quarrylaw12_same.f (IntKind.u64.wrap (bt159.1)) bt159.2 bt161.1 bt161.2).bind fun t163 => (if t163 = true then ((whole_Uint_uint32.f a0).bind fun bt164 => ((quarryref12_Uint.f k a0 32).bind fun bt166 => ((quarrylaw12_same.f (IntKind.u64.wrap (bt164.1)) bt164.2 bt166.1 bt166.2).bind fun t168 => (if t168 = true then ((quarryref12_Uint.f k a0 64).bind fun bt169 => ((whole_Uint_uint64.f a0).bind fun bt171 => ((quarrylaw12_same.f bt171.1 bt171.2 bt169.1 bt169.2).bind fun t173 => (if t173 = true then ((whole_Uint_uint.f a0).bind fun bt174 => ((quarrylaw12_same.f bt174.1 bt174.2 bt169.1 bt169.2).bind fun t176 => (if t176 = true then ((whole_Uint_Long.f a0).bind fun bt177 => ((quarrylaw12_same.f bt177.1 bt177.2 bt169.1 bt169.2).bind fun t179 => (if t179 = true then ((quarrylaw12_awake.f).bind fun t180 => (some t180)) else (none)))) else (none)))) else (none))))) else (none))))) else (none))))) else (none)))) else (none)) = some r := H
  have A4 := Aside0.mk A40
  clear A40
  by_cases c5 : t155 = true
  · subst c5
    have H1 : ((whole_Uint_Byte.f a0).bind fun bt156 => ((quarrylaw12_same.f (IntKind.u64.wrap (bt156.1)) bt156.2 t153 t154).bind fun t158 => (if t158 = true then ((whole_Uint_uint16.f a0).bind fun bt159 => ((quarryref12_Uint.f k a0 16).bind fun bt161 => ((quarrylaw12_same.f (IntKind.u64.wrap (bt159.1)) bt159.2 bt161.1 bt161.2).bind fun t163 => (if t163 = true then ((whole_Uint_uint32.f a0).bind fun bt164 => ((quarryref12_Uint.f k a0 32).bind fun bt166 => ((quarrylaw12_same.f (IntKind.u64.wrap (bt164.1)) bt164.2 bt166.1 bt166.2).bind fun t168 => (if t168 = true then ((quarryref12_Uint.f k a0 64).bind fun bt169 => ((whole_Uint_uint64.f a0).bind fun bt171 => ((quarrylaw12_same.f bt171.1 bt171.2 bt169.1 bt169.2).bind fun t173 => (if t173 = true then ((whole_Uint_uint.f a0).bind fun bt174 => ((quarrylaw12_same.f bt174.1 bt174.2 bt169.1 bt169.2).bind fun t176 => (if t176 = true then ((whole_Uint_Long.f a0).bind fun bt177 => ((quarrylaw12_same.f bt177.1 bt177.2 bt169.1 bt169.2).bind fun t179 => (if t179 = true then ((quarrylaw12_awake.f).bind fun t180 => (some t180)) else (none)))) else (none)))) else (none))))) else (none))))) else (none))))) else (none)))) = some r := by rw [if_pos rfl] at H; exact H
    clear H
    have H := H1
    clear H1
    replace H := Option.bind_eq_some_iff.mp H
    obtain ⟨⟨t156, t157⟩, A60, H⟩ := H
    replace H : ((quarrylaw12_same.f (IntKind.u64.wrap (t156)) t157 t153 t154).bind fun t158 => (if t158 = true then ((whole_Uint_uint16.f a0).bind fun bt159 => ((quarryref12_Uint.f k a0 16).bind fun bt161 => ((quarrylaw12_same.f (IntKind.u64.wrap (bt159.1)) bt159.2 bt161.1 bt161.2).bind fun t163 => (if t163 = true then ((whole_Uint_uint32.f a0).bind fun bt164 => ((quarryref12_Uint.f k a0 32).bind fun bt166 => ((quarrylaw12_same.f (IntKind.u64.wrap (bt164.1)) bt164.2 bt166.1 bt166.2).bind fun t168 => (if t168 = true then ((quarryref12_Uint.f k a0 64).bind fun bt169 => ((whole_Uint_uint64.f a0).bind fun bt171 => ((quarrylaw12_same.f bt171.1 bt171.2 bt169.1 bt169.2).bind fun t173 => (if t173 = true then ((whole_Uint_uint.f a0).bind fun bt174 => ((quarrylaw12_same.f bt174.1 bt174.2 bt169.1 bt169.2).bind fun t176 => (if t176 = true then ((whole_Uint_Long.f a0).bind fun bt177 => ((quarrylaw12_same.f bt177.1 bt177.2 bt169.1 bt169.2).bind fun t179 => (if t179 = true then ((quarrylaw12_awake.f).bind fun t180 => (some t180)) else (none)))) else (none)))) else (none))))) else (none))))) else (none))))) else (none))) = some r := H
    have A6 := Aside0.mk A60
    clear A60
    replace H := Option.bind_eq_some_iff.mp H
    obtain ⟨t158, A70, H⟩ := H
    replace H : (if t158 = true then ((whole_Uint_uint16.f a0).bind fun bt159 => ((quarryref12_Uint.f k a0 16).bind fun bt161 => ((quarrylaw12_same.f (IntKind.u64.wrap (bt159.1)) bt159.2 bt161.1 bt161.2).bind fun t163 => (if t163 = true then ((whole_Uint_uint32.f a0).bind fun bt164 => ((quarryref12_Uint.f k a0 32).bind fun bt166 => ((quarrylaw12_same.f (IntKind.u64.wrap (bt164.1)) bt164.2 bt166.1 bt166.2).bind fun t168 => (if t168 = true then ((quarryref12_Uint.f k a0 64).bind fun bt169 => ((whole_Uint_uint64.f a0).bind fun bt171 => ((quarrylaw12_same.f bt171.1 bt171.2 bt169.1 bt169.2).bind fun t173 => (if t173 = true then ((whole_Uint_uint.f a0).bind fun bt174 => ((quarrylaw12_same.f bt174.1 bt174.2 bt169.1 bt169.2).bind fun t176 => (if t176 = true then ((whole_Uint_Long.f a0).bind fun bt177 => ((quarrylaw12_same.f bt177.1 bt177.2 bt169.1 bt169.2).bind fun t179 => (if t179 = true then ((quarrylaw12_awake.f).bind fun t180 => (some t180)) else (none)))) else (none)))) else (none))))) else (none))))) else (none))))) else (none)) = some r := H
    have A7 := Aside0.mk A70
    clear A70
    by_cases c8 : t158 = true
    · subst c8
      have H1 : ((whole_Uint_uint16.f a0).bind fun bt159 => ((quarryref12_Uint.f k a0 16).bind fun bt161 => ((quarrylaw12_same.f (IntKind.u64.wrap (bt159.1)) bt159.2 bt161.1 bt161.2).bind fun t163 => (if t163 = true then ((whole_Uint_uint32.f a0).bind fun bt164 => ((quarryref12_Uint.f k a0 32).bind fun bt166 => ((quarrylaw12_same.f (IntKind.u64.wrap (bt164.1)) bt164.2 bt166.1 bt166.2).bind fun t168 => (if t168 = true then ((quarryref12_Uint.f k a0 64).bind fun bt169 => ((whole_Uint_uint64.f a0).bind fun bt171 => ((quarrylaw12_same.f bt171.1 bt171.2 bt169.1 bt169.2).bind fun t173 => (if t173 = true then ((whole_Uint_uint.f a0).bind fun bt174 => ((quarrylaw12_same.f bt174.1 bt174.2 bt169.1 bt169.2).bind fun t176 => (if t176 = true then ((whole_Uint_Long.f a0).bind fun bt177 => ((quarrylaw12_same.f bt177.1 bt177.2 bt169.1 bt169.2).bind fun t179 => (if t179 = true then ((quarrylaw12_awake.f).bind fun t180 => (some t180)) else (none)))) else (none)))) else (none))))) else (none))))) else (none))))) = some r := by rw [if_pos rfl] at H; exact H
      clear H
      have H := H1
      clear H1
      replace H := Option.bind_eq_some_iff.mp H
      obtain ⟨⟨t159, t160⟩, A90, H⟩ := H
      replace H : ((quarryref12_Uint.f k a0 16).bind fun bt161 => ((quarrylaw12_same.f (IntKind.u64.wrap (t159)) t160 bt161.1 bt161.2).bind fun t163 => (if t163 = true then ((whole_Uint_uint32.f a0).bind fun bt164 => ((quarryref12_Uint.f k a0 32).bind fun bt166 => ((quarrylaw12_same.f (IntKind.u64.wrap (bt164.1)) bt164.2 bt166.1 bt166.2).bind fun t168 => (if t168 = true then ((quarryref12_Uint.f k a0 64).bind fun bt169 => ((whole_Uint_uint64.f a0).bind fun bt171 => ((quarrylaw12_same.f bt171.1 bt171.2 bt169.1 bt169.2).bind fun t173 => (if t173 = true then ((whole_Uint_uint.f a0).bind fun bt174 => ((quarrylaw12_same.f bt174.1 bt174.2 bt169.1 bt169.2).bind fun t176 => (if t176 = true then ((whole_Uint_Long.f a0).bind fun bt177 => ((quarrylaw12_same.f bt177.1 bt177.2 bt169.1 bt169.2).bind fun t179 => (if t179 = true then ((quarrylaw12_awake.f).bind fun t180 => (some t180)) else (none)))) else (none)))) else (none))))) else (none))))) else (none)))) = some r := H
      have A9 := Aside0.mk A90
      clear A90
      replace H := Option.bind_eq_some_iff.mp H
      obtain ⟨⟨t161, t162⟩, A100, H⟩ := H
      replace H : ((quarrylaw12_same.f (IntKind.u64.wrap (t159)) t160 t161 t162).bind fun t163 => (if t163 = true then ((whole_Uint_uint32.f a0).bind fun bt164 => ((quarryref12_Uint.f k a0 32).bind fun bt166 => ((quarrylaw12_same.f (IntKind.u64.wrap (bt164.1)) bt164.2 bt166.1 bt166.2).bind fun t168 => (if t168 = true then ((quarryref12_Uint.f k a0 64).bind fun bt169 => ((whole_Uint_uint64.f a0).bind fun bt171 => ((quarrylaw12_same.f bt171.1 bt171.2 bt169.1 bt169.2).bind fun t173 => (if t173 = true then ((whole_Uint_uint.f a0).bind fun bt174 => ((quarrylaw12_same.f bt174.1 bt174.2 bt169.1 bt169.2).bind fun t176 => (if t176 = true then ((whole_Uint_Long.f a0).bind fun bt177 => ((quarrylaw12_same.f bt177.1 bt177.2 bt169.1 bt169.2).bind fun t179 => (if t179 = true then ((quarrylaw12_awake.f).bind fun t180 => (some t180)) else (none)))) else (none)))) else (none))))) else (none))))) else (none))) = some r := H
      have A10 := Aside0.mk A100
      clear A100
      replace H := Option.bind_eq_some_iff.mp H
      obtain ⟨t163, A110, H⟩ := H
      replace H : (if t163 = true then ((whole_Uint_uint32.f a0).bind fun bt164 => ((quarryref12_Uint.f k a0 32).bind fun bt166 => ((quarrylaw12_same.f (IntKind.u64.wrap (bt164.1)) bt164.2 bt166.1 bt166.2).bind fun t168 => (if t168 = true then ((quarryref12_Uint.f k a0 64).bind fun bt169 => ((whole_Uint_uint64.f a0).bind fun bt171 => ((quarrylaw12_same.f bt171.1 bt171.2 bt169.1 bt169.2).bind fun t173 => (if t173 = true then ((whole_Uint_uint.f a0).bind fun bt174 => ((quarrylaw12_same.f bt174.1 bt174.2 bt169.1 bt169.2).bind fun t176 => (if t176 = true then ((whole_Uint_Long.f a0).bind fun bt177 => ((quarrylaw12_same.f bt177.1 bt177.2 bt169.1 bt169.2).bind fun t179 => (if t179 = true then ((quarrylaw12_awake.f).bind fun t180 => (some t180)) else (none)))) else (none)))) else (none))))) else (none))))) else (none)) = some r := H
      have A11 := Aside0.mk A110
      clear A110
      by_cases c12 : t163 = true
      · subst c12
        have H1 : ((whole_Uint_uint32.f a0).bind fun bt164 => ((quarryref12_Uint.f k a0 32).bind fun bt166 => ((quarrylaw12_same.f (IntKind.u64.wrap (bt164.1)) bt164.2 bt166.1 bt166.2).bind fun t168 => (if t168 = true then ((quarryref12_Uint.f k a0 64).bind fun bt169 => ((whole_Uint_uint64.f a0).bind fun bt171 => ((quarrylaw12_same.f bt171.1 bt171.2 bt169.1 bt169.2).bind fun t173 => (if t173 = true then ((whole_Uint_uint.f a0).bind fun bt174 => ((quarrylaw12_same.f bt174.1 bt174.2 bt169.1 bt169.2).bind fun t176 => (if t176 = true then ((whole_Uint_Long.f a0).bind fun bt177 => ((quarrylaw12_same.f bt177.1 bt177.2 bt169.1 bt169.2).bind fun t179 => (if t179 = true then ((quarrylaw12_awake.f).bind fun t180 => (some t180)) else (none)))) else (none)))) else (none))))) else (none))))) = some r := by rw [if_pos rfl] at H; exact H
        clear H
        have H := H1
        clear H1
        replace H := Option.bind_eq_some_iff.mp H
        obtain ⟨⟨t164, t165⟩, A130, H⟩ := H
        replace H : ((quarryref12_Uint.f k a0 32).bind fun bt166 => ((quarrylaw12_same.f (IntKind.u64.wrap (t164)) t165 bt166.1 bt166.2).bind fun t168 => (if t168 = true then ((quarryref12_Uint.f k a0 64).bind fun bt169 => ((whole_Uint_uint64.f a0).bind fun bt171 => ((quarrylaw12_same.f bt171.1 bt171.2 bt169.1 bt169.2).bind fun t173 => (if t173 = true then ((whole_Uint_uint.f a0).bind fun bt174 => ((quarrylaw12_same.f bt174.1 bt174.2 bt169.1 bt169.2).bind fun t176 => (if t176 = true then ((whole_Uint_Long.f a0).bind fun bt177 => ((quarrylaw12_same.f bt177.1 bt177.2 bt169.1 bt169.2).bind fun t179 => (if t179 = true then ((quarrylaw12_awake.f).bind fun t180 => (some t180)) else (none)))) else (none)))) else (none))))) else (none)))) = some r := H
        have A13 := Aside0.mk A130
        clear A130
        replace H := Option.bind_eq_some_iff.mp H
        obtain ⟨⟨t166, t167⟩, A140, H⟩ := H
        replace H : ((quarrylaw12_same.f (IntKind.u64.wrap (t164)) t165 t166 t167).bind fun t168 => (if t168 = true then ((quarryref12_Uint.f k a0 64).bind fun bt169 => ((whole_Uint_uint64.f a0).bind fun bt171 => ((quarrylaw12_same.f bt171.1 bt171.2 bt169.1 bt169.2).bind fun t173 => (if t173 = true then ((whole_Uint_uint.f a0).bind fun bt174 => ((quarrylaw12_same.f bt174.1 bt174.2 bt169.1 bt169.2).bind fun t176 => (if t176 = true then ((whole_Uint_Long.f a0).bind fun bt177 => ((quarrylaw12_same.f bt177.1 bt177.2 bt169.1 bt169.2).bind fun t179 => (if t179 = true then ((quarrylaw12_awake.f).bind fun t180 => (some t180)) else (none)))) else (none)))) else (none))))) else (none))) = some r := H
        have A14 := Aside0.mk A140
        clear A140
        replace H := Option.bind_eq_some_iff.mp H
        obtain ⟨t168, A150, H⟩ := H
        replace H : (if t168 = true then ((quarryref12_Uint.f k a0 64).bind fun bt169 => ((whole_Uint_uint64.f a0).bind fun bt171 => ((quarrylaw12_same.f bt171.1 bt171.2 bt169.1 bt169.2).bind fun t173 => (if t173 = true then ((whole_Uint_uint.f a0).bind fun bt174 => ((quarrylaw12_same.f bt174.1 bt174.2 bt169.1 bt169.2).bind fun t176 => (if t176 = true then ((whole_Uint_Long.f a0).bind fun bt177 => ((quarrylaw12_same.f bt177.1 bt177.2 bt169.1 bt169.2).bind fun t179 => (if t179 = true then ((quarrylaw12_awake.f).bind fun t180 => (some t180)) else (none)))) else (none)))) else (none))))) else (none)) = some r := H
        have A15 := Aside0.mk A150
        clear A150
        by_cases c16 : t168 = true
        · subst c16
          have H1 : ((quarryref12_Uint.f k a0 64).bind fun bt169 => ((whole_Uint_uint64.f a0).bind fun bt171 => ((quarrylaw12_same.f bt171.1 bt171.2 bt169.1 bt169.2).bind fun t173 => (if t173 = true then ((whole_Uint_uint.f a0).bind fun bt174 => ((quarrylaw12_same.f bt174.1 bt174.2 bt169.1 bt169.2).bind fun t176 => (if t176 = true then ((whole_Uint_Long.f a0).bind fun bt177 => ((quarrylaw12_same.f bt177.1 bt177.2 bt169.1 bt169.2).bind fun t179 => (if t179 = true then ((quarrylaw12_awake.f).bind fun t180 => (some t180)) else (none)))) else (none)))) else (none))))) = some r := by rw [if_pos rfl] at H; exact H
          clear H
          have H := H1
          clear H1
          replace H := Option.bind_eq_some_iff.mp H
          obtain ⟨⟨t169, t170⟩, A170, H⟩ := H
          replace H : ((whole_Uint_uint64.f a0).bind fun bt171 => ((quarrylaw12_same.f bt171.1 bt171.2 t169 t170).bind fun t173 => (if t173 = true then ((whole_Uint_uint.f a0).bind fun bt174 => ((quarrylaw12_same.f bt174.1 bt174.2 t169 t170).bind fun t176 => (if t176 = true then ((whole_Uint_Long.f a0).bind fun bt177 => ((quarrylaw12_same.f bt177.1 bt177.2 t169 t170).bind fun t179 => (if t179 = true then ((quarrylaw12_awake.f).bind fun t180 => (some t180)) else (none)))) else (none)))) else (none)))) = some r := H
          have A17 := Aside0.mk A170
          clear A170
          replace H := Option.bind_eq_some_iff.mp H
          obtain ⟨⟨t171, t172⟩, A180, H⟩ := H
          replace H : ((quarrylaw12_same.f t171 t172 t169 t170).bind fun t173 => (if t173 = true then ((whole_Uint_uint.f a0).bind fun bt174 => ((quarrylaw12_same.f bt174.1 bt174.2 t169 t170).bind fun t176 => (if t176 = true then ((whole_Uint_Long.f a0).bind fun bt177 => ((quarrylaw12_same.f bt177.1 bt177.2 t169 t170).bind fun t179 => (if t179 = true then ((quarrylaw12_awake.f).bind fun t180 => (some t180)) else (none)))) else (none)))) else (none))) = some r := H
          have A18 := Aside0.mk A180
          clear A180
          replace H := Option.bind_eq_some_iff.mp H
          obtain ⟨t173, A190, H⟩ := H
          replace H : (if t173 = true then ((whole_Uint_uint.f a0).bind fun bt174 => ((quarrylaw12_same.f bt174.1 bt174.2 t169 t170).bind fun t176 => (if t176 = true then ((whole_Uint_Long.f a0).bind fun bt177 => ((quarrylaw12_same.f bt177.1 bt177.2 t169 t170).bind fun t179 => (if t179 = true then ((quarrylaw12_awake.f).bind fun t180 => (some t180)) else (none)))) else (none)))) else (none)) = some r := H
          have A19 := Aside0.mk A190
          clear A190
          by_cases c20 : t173 = true
          · subst c20
            have H1 : ((whole_Uint_uint.f a0).bind fun bt174 => ((quarrylaw12_same.f bt174.1 bt174.2 t169 t170).bind fun t176 => (if t176 = true then ((whole_Uint_Long.f a0).bind fun bt177 => ((quarrylaw12_same.f bt177.1 bt177.2 t169 t170).bind fun t179 => (if t179 = true then ((quarrylaw12_awake.f).bind fun t180 => (some t180)) else (none)))) else (none)))) = some r := by rw [if_pos rfl] at H; exact H
            clear H
            have H := H1
            clear H1
            replace H := Option.bind_eq_some_iff.mp H
            obtain ⟨⟨t174, t175⟩, A210, H⟩ := H
            replace H : ((quarrylaw12_same.f t174 t175 t169 t170).bind fun t176 => (if t176 = true then ((whole_Uint_Long.f a0).bind fun bt177 => ((quarrylaw12_same.f bt177.1 bt177.2 t169 t170).bind fun t179 => (if t179 = true then ((quarrylaw12_awake.f).bind fun t180 => (some t180)) else (none)))) else (none))) = some r := H
            have A21 := Aside0.mk A210
            clear A210
            replace H := Option.bind_eq_some_iff.mp H
            obtain ⟨t176, A220, H⟩ := H
            replace H : (if t176 = true then ((whole_Uint_Long.f a0).bind fun bt177 => ((quarrylaw12_same.f bt177.1 bt177.2 t169 t170).bind fun t179 => (if t179 = true then ((quarrylaw12_awake.f).bind fun t180 => (some t180)) else (none)))) else (none)) = some r := H
            have A22 := Aside0.mk A220
            clear A220
            by_cases c23 : t176 = true
            · subst c23
              have H1 : ((whole_Uint_Long.f a0).bind fun bt177 => ((quarrylaw12_same.f bt177.1 bt177.2 t169 t170).bind fun t179 => (if t179 = true then ((quarrylaw12_awake.f).bind fun t180 => (some t180)) else (none)))) = some r := by rw [if_pos rfl] at H; exact H
              clear H
              have H := H1
              clear H1
              replace H := Option.bind_eq_some_iff.mp H
              obtain ⟨⟨t177, t178⟩, A240, H⟩ := H
              replace H : ((quarrylaw12_same.f t177 t178 t169 t170).bind fun t179 => (if t179 = true then ((quarrylaw12_awake.f).bind fun t180 => (some t180)) else (none))) = some r := H
              have A24 := Aside0.mk A240
              clear A240
              replace H := Option.bind_eq_some_iff.mp H
              obtain ⟨t179, A250, H⟩ := H
              replace H : (if t179 = true then ((quarrylaw12_awake.f).bind fun t180 => (some t180)) else (none)) = some r := H
              have A25 := Aside0.mk A250
              clear A250
              by_cases c26 : t179 = true
              · subst c26
                have H1 : ((quarrylaw12_awake.f).bind fun t180 => (some t180)) = some r := by rw [if_pos rfl] at H; exact H
                clear H
                have H := H1
                clear H1
                replace H := Option.bind_eq_some_iff.mp H
                obtain ⟨t180, A270, H⟩ := H
                replace H : (some t180) = some r := H
                have A27 := Aside0.mk A270
                clear A270
                obtain rfl := Option.some.inj H
                go_enter Tryd.func8, Tryd.ntmps8
                go_wp2_with (first | ((with_reducible refine gate_callee (f := 27) rfl ?_); refine goesL_ (some 15) rfl rfl Tryd.func27 (by kernel_rfl) rfl #[.string a0] rfl (by (try simp only [List.map_toArray, List.map_cons, List.map_nil]); first | done | rfl | (simp only [List.length_drop, List.length_take]; rfl)) ?_; (with_reducible refine (whole_Uint_uint8.calls a0 t151 t152 _ A2.out).mono ?_); rintro e w28 ⟨rfl, hb⟩; refine ⟨_, rfl, ?_⟩; have n0_ := Aside0.mk (below_step (by repeat (first | (with_reducible first | exact HB.out | apply below_alloc | apply pw_below_drewN | apply below_drew1) | exact HB.out)) hb); clear HB; have HB := n0_; clear n0_; (try clear hb); (try clear hb2); (try clear hk); (try clear hi)) | ((with_reducible refine gate_callee (f := 39) rfl ?_); refine goesL_ (some 20) rfl rfl Tryd.func39 (by kernel_rfl) rfl #[.string a0, .int .i64 8] rfl (by (try simp only [List.map_toArray, List.map_cons, List.map_nil]); first | done | rfl | (simp only [List.length_drop, List.length_take]; rfl)) ?_; (with_reducible refine (quarryref12_Uint.calls k a0 8 t153 t154 _ A3.out).mono ?_); rintro e w29 ⟨rfl, hb⟩; refine ⟨_, rfl, ?_⟩; have n0_ := Aside0.mk (below_step (by repeat (first | (with_reducible first | exact HB.out | apply below_alloc | apply pw_below_drewN | apply below_drew1) | exact HB.out)) hb); clear HB; have HB := n0_; clear n0_; (try clear hb); (try clear hb2); (try clear hk); (try clear hi)) | ((with_reducible refine gate_callee (f := 40) rfl ?_); refine goesL_ (some 28) rfl rfl Tryd.func40 (by kernel_rfl) rfl #[.int .u64 (IntKind.u64.wrap (t151)), .int .i64 t152, .int .u64 t153, .int .i64 t154] rfl (by (try simp only [List.map_toArray, List.map_cons, List.map_nil]); first | done | rfl | (simp only [List.length_drop, List.length_take]; rfl)) ?_; (with_reducible refine (quarrylaw12_same.calls (IntKind.u64.wrap (t151)) t152 t153 t154 true _ A4.out).mono ?_); rintro e w' ⟨rfl, ⟨nd, rfl⟩⟩; refine ⟨_, rfl, ?_⟩) | ((with_reducible refine gate_callee (f := 41) rfl ?_); refine goesL_ (some 32) rfl rfl Tryd.func41 (by kernel_rfl) rfl #[.string a0] rfl (by (try simp only [List.map_toArray, List.map_cons, List.map_nil]); first | done | rfl | (simp only [List.length_drop, List.length_take]; rfl)) ?_; (with_reducible refine (whole_Uint_Byte.calls a0 t156 t157 _ A6.out).mono ?_); rintro e w30 ⟨rfl, hb⟩; refine ⟨_, rfl, ?_⟩; have n0_ := Aside0.mk (below_step (by repeat (first | (with_reducible first | exact HB.out | apply below_alloc | apply pw_below_drewN | apply below_drew1) | exact HB.out)) hb); clear HB; have HB := n0_; clear n0_; (try clear hb); (try clear hb2); (try clear hk); (try clear hi)) | ((with_reducible refine gate_callee (f := 40) rfl ?_); refine goesL_ (some 40) rfl rfl Tryd.func40 (by kernel_rfl) rfl #[.int .u64 (IntKind.u64.wrap (t156)), .int .i64 t157, .int .u64 t153, .int .i64 t154] rfl (by (try simp only [List.map_toArray, List.map_cons, List.map_nil]); first | done | rfl | (simp only [List.length_drop, List.length_take]; rfl)) ?_; (with_reducible refine (quarrylaw12_same.calls (IntKind.u64.wrap (t156)) t157 t153 t154 true _ A7.out).mono ?_); rintro e w' ⟨rfl, ⟨nd, rfl⟩⟩; refine ⟨_, rfl, ?_⟩) | ((with_reducible refine gate_callee (f := 28) rfl ?_); refine goesL_ (some 44) rfl rfl Tryd.func28 (by kernel_rfl) rfl #[.string a0] rfl (by (try simp only [List.map_toArray, List.map_cons, List.map_nil]); first | done | rfl | (simp only [List.length_drop, List.length_take]; rfl)) ?_; (with_reducible refine (whole_Uint_uint16.calls a0 t159 t160 _ A9.out).mono ?_); rintro e w31 ⟨rfl, hb⟩; refine ⟨_, rfl, ?_⟩; have n0_ := Aside0.mk (below_step (by repeat (first | (with_reducible first | exact HB.out | apply below_alloc | apply pw_below_drewN | apply below_drew1) | exact HB.out)) hb); clear HB; have HB := n0_; clear n0_; (try clear hb); (try clear hb2); (try clear hk); (try clear hi)) | ((with_reducible refine gate_callee (f := 39) rfl ?_); refine goesL_ (some 49) rfl rfl Tryd.func39 (by kernel_rfl) rfl #[.string a0, .int .i64 16] rfl (by (try simp only [List.map_toArray, List.map_cons, List.map_nil]); first | done | rfl | (simp only [List.length_drop, List.length_take]; rfl)) ?_; (with_reducible refine (quarryref12_Uint.calls k a0 16 t161 t162 _ A10.out).mono ?_); rintro e w32 ⟨rfl, hb⟩; refine ⟨_, rfl, ?_⟩; have n0_ := Aside0.mk (below_step (by repeat (first | (with_reducible first | exact HB.out | apply below_alloc | apply pw_below_drewN | apply below_drew1) | exact HB.out)) hb); clear HB; have HB := n0_; clear n0_; (try clear hb); (try clear hb2); (try clear hk); (try clear hi)) | ((with_reducible refine gate_callee (f := 40) rfl ?_); refine goesL_ (some 57) rfl rfl Tryd.func40 (by kernel_rfl) rfl #[.int .u64 (IntKind.u64.wrap (t159)), .int .i64 t160, .int .u64 t161, .int .i64 t162] rfl (by (try simp only [List.map_toArray, List.map_cons, List.map_nil]); first | done | rfl | (simp only [List.length_drop, List.length_take]; rfl)) ?_; (with_reducible refine (quarrylaw12_same.calls (IntKind.u64.wrap (t159)) t160 t161 t162 true _ A11.out).mono ?_); rintro e w' ⟨rfl, ⟨nd, rfl⟩⟩; refine ⟨_, rfl, ?_⟩) | ((with_reducible refine gate_callee (f := 29) rfl ?_); refine goesL_ (some 61) rfl rfl Tryd.func29 (by kernel_rfl) rfl #[.string a0] rfl (by (try simp only [List.map_toArray, List.map_cons, List.map_nil]); first | done | rfl | (simp only [List.length_drop, List.length_take]; rfl)) ?_; (with_reducible refine (whole_Uint_uint32.calls a0 t164 t165 _ A13.out).mono ?_); rintro e w33 ⟨rfl, hb⟩; refine ⟨_, rfl, ?_⟩; have n0_ := Aside0.mk (below_step (by repeat (first | (with_reducible first | exact HB.out | apply below_alloc | apply pw_below_drewN | apply below_drew1) | exact HB.out)) hb); clear HB; have HB := n0_; clear n0_; (try clear hb); (try clear hb2); (try clear hk); (try clear hi)) | ((with_reducible refine gate_callee (f := 39) rfl ?_); refine goesL_ (some 66) rfl rfl Tryd.func39 (by kernel_rfl) rfl #[.string a0, .int .i64 32] rfl (by (try simp only [List.map_toArray, List.map_cons, List.map_nil]); first | done | rfl | (simp only [List.length_drop, List.length_take]; rfl)) ?_; (with_reducible refine (quarryref12_Uint.calls k a0 32 t166 t167 _ A14.out).mono ?_); rintro e w34 ⟨rfl, hb⟩; refine ⟨_, rfl, ?_⟩; have n0_ := Aside0.mk (below_step (by repeat (first | (with_reducible first | exact HB.out | apply below_alloc | apply pw_below_drewN | apply below_drew1) | exact HB.out)) hb); clear HB; have HB := n0_; clear n0_; (try clear hb); (try clear hb2); (try clear hk); (try clear hi)) | ((with_reducible refine gate_callee (f := 40) rfl ?_); refine goesL_ (some 74) rfl rfl Tryd.func40 (by kernel_rfl) rfl #[.int .u64 (IntKind.u64.wrap (t164)), .int .i64 t165, .int .u64 t166, .int .i64 t167] rfl (by (try simp only [List.map_toArray, List.map_cons, List.map_nil]); first | done | rfl | (simp only [List.length_drop, List.length_take]; rfl)) ?_; (with_reducible refine (quarrylaw12_same.calls (IntKind.u64.wrap (t164)) t165 t166 t167 true _ A15.out).mono ?_); rintro e w' ⟨rfl, ⟨nd, rfl⟩⟩; refine ⟨_, rfl, ?_⟩) | ((with_reducible refine gate_callee (f := 39) rfl ?_); refine goesL_ (some 78) rfl rfl Tryd.func39 (by kernel_rfl) rfl #[.string a0, .int .i64 64] rfl (by (try simp only [List.map_toArray, List.map_cons, List.map_nil]); first | done | rfl | (simp only [List.length_drop, List.length_take]; rfl)) ?_; (with_reducible refine (quarryref12_Uint.calls k a0 64 t169 t170 _ A17.out).mono ?_); rintro e w35 ⟨rfl, hb⟩; refine ⟨_, rfl, ?_⟩; have n0_ := Aside0.mk (below_step (by repeat (first | (with_reducible first | exact HB.out | apply below_alloc | apply pw_below_drewN | apply below_drew1) | exact HB.out)) hb); clear HB; have HB := n0_; clear n0_; (try clear hb); (try clear hb2); (try clear hk); (try clear hi)) | ((with_reducible refine gate_callee (f := 30) rfl ?_); refine goesL_ (some 83) rfl rfl Tryd.func30 (by kernel_rfl) rfl #[.string a0] rfl (by (try simp only [List.map_toArray, List.map_cons, List.map_nil]); first | done | rfl | (simp only [List.length_drop, List.length_take]; rfl)) ?_; (with_reducible refine (whole_Uint_uint64.calls a0 t171 t172 _ A18.out).mono ?_); rintro e w36 ⟨rfl, hb⟩; refine ⟨_, rfl, ?_⟩; have n0_ := Aside0.mk (below_step (by repeat (first | (with_reducible first | exact HB.out | apply below_alloc | apply pw_below_drewN | apply below_drew1) | exact HB.out)) hb); clear HB; have HB := n0_; clear n0_; (try clear hb); (try clear hb2); (try clear hk); (try clear hi)) | ((with_reducible refine gate_callee (f := 40) rfl ?_); refine goesL_ (some 90) rfl rfl Tryd.func40 (by kernel_rfl) rfl #[.int .u64 t171, .int .i64 t172, .int .u64 t169, .int .i64 t170] rfl (by (try simp only [List.map_toArray, List.map_cons, List.map_nil]); first | done | rfl | (simp only [List.length_drop, List.length_take]; rfl)) ?_; (with_reducible refine (quarrylaw12_same.calls t171 t172 t169 t170 true _ A19.out).mono ?_); rintro e w' ⟨rfl, ⟨nd, rfl⟩⟩; refine ⟨_, rfl, ?_⟩) | ((with_reducible refine gate_callee (f := 42) rfl ?_); refine goesL_ (some 94) rfl rfl Tryd.func42 (by kernel_rfl) rfl #[.string a0] rfl (by (try simp only [List.map_toArray, List.map_cons, List.map_nil]); first | done | rfl | (simp only [List.length_drop, List.length_take]; rfl)) ?_; (with_reducible refine (whole_Uint_uint.calls a0 t174 t175 _ A21.out).mono ?_); rintro e w37 ⟨rfl, hb⟩; refine ⟨_, rfl, ?_⟩; have n0_ := Aside0.mk (below_step (by repeat (first | (with_reducible first | exact HB.out | apply below_alloc | apply pw_below_drewN | apply below_drew1) | exact HB.out)) hb); clear HB; have HB := n0_; clear n0_; (try clear hb); (try clear hb2); (try clear hk); (try clear hi)) | ((with_reducible refine gate_callee (f := 40) rfl ?_); refine goesL_ (some 101) rfl rfl Tryd.func40 (by kernel_rfl) rfl #[.int .u64 t174, .int .i64 t175, .int .u64 t169, .int .i64 t170] rfl (by (try simp only [List.map_toArray, List.map_cons, List.map_nil]); first | done | rfl | (simp only [List.length_drop, List.length_take]; rfl)) ?_; (with_reducible refine (quarrylaw12_same.calls t174 t175 t169 t170 true _ A22.out).mono ?_); rintro e w' ⟨rfl, ⟨nd, rfl⟩⟩; refine ⟨_, rfl, ?_⟩) | ((with_reducible refine gate_callee (f := 43) rfl ?_); refine goesL_ (some 105) rfl rfl Tryd.func43 (by kernel_rfl) rfl #[.string a0] rfl (by (try simp only [List.map_toArray, List.map_cons, List.map_nil]); first | done | rfl | (simp only [List.length_drop, List.length_take]; rfl)) ?_; (with_reducible refine (whole_Uint_Long.calls a0 t177 t178 _ A24.out).mono ?_); rintro e w38 ⟨rfl, hb⟩; refine ⟨_, rfl, ?_⟩; have n0_ := Aside0.mk (below_step (by repeat (first | (with_reducible first | exact HB.out | apply below_alloc | apply pw_below_drewN | apply below_drew1) | exact HB.out)) hb); clear HB; have HB := n0_; clear n0_; (try clear hb); (try clear hb2); (try clear hk); (try clear hi)) | ((with_reducible refine gate_callee (f := 40) rfl ?_); refine goesL_ (some 112) rfl rfl Tryd.func40 (by kernel_rfl) rfl #[.int .u64 t177, .int .i64 t178, .int .u64 t169, .int .i64 t170] rfl (by (try simp only [List.map_toArray, List.map_cons, List.map_nil]); first | done | rfl | (simp only [List.length_drop, List.length_take]; rfl)) ?_; (with_reducible refine (quarrylaw12_same.calls t177 t178 t169 t170 true _ A25.out).mono ?_); rintro e w' ⟨rfl, ⟨nd, rfl⟩⟩; refine ⟨_, rfl, ?_⟩) | (go_at_call 31; (with_reducible refine (quarrylaw12_awake.calls  t180 _ A27.out).mono ?_); rintro e w39 ⟨rfl, hb⟩; have n0_ := Aside0.mk (below_step (by repeat (first | (with_reducible first | exact HB.out | apply below_alloc | apply pw_below_drewN | apply below_drew1) | exact HB.out)) hb); clear HB; have HB := n0_; clear n0_; (try clear hb); (try clear hb2); (try clear hk); (try clear hi)))
                go_ret
                exact ⟨by first | rfl | (simp [errW_none, errW_some] <;> rfl) | (simp [*, errW_none, errW_some] <;> rfl), by repeat (first | (with_reducible first | exact HB.out | apply below_alloc | apply pw_below_drewN | apply below_drew1) | exact HB.out)⟩
              · replace c26 := Bool.eq_false_iff.mpr c26
                subst c26
                have H1 : (none) = some r := by rw [if_neg (show ¬ (false = true) by decide)] at H; exact H
                clear H
                have H := H1
                clear H1
                exact absurd H (by simp)
            · replace c23 := Bool.eq_false_iff.mpr c23
              subst c23
              have H1 : (none) = some r := by rw [if_neg (show ¬ (false = true) by decide)] at H; exact H
              clear H
              have H := H1
              clear H1
              exact absurd H (by simp)
          · replace c20 := Bool.eq_false_iff.mpr c20
            subst c20
            have H1 : (none) = some r := by rw [if_neg (show ¬ (false = true) by decide)] at H; exact H
            clear H
            have H := H1
            clear H1
            exact absurd H (by simp)
        · replace c16 := Bool.eq_false_iff.mpr c16
          subst c16
          have H1 : (none) = some r := by rw [if_neg (show ¬ (false = true) by decide)] at H; exact H
          clear H
          have H := H1
          clear H1
          exact absurd H (by simp)
      · replace c12 := Bool.eq_false_iff.mpr c12
        subst c12
        have H1 : (none) = some r := by rw [if_neg (show ¬ (false = true) by decide)] at H; exact H
        clear H
        have H := H1
        clear H1
        exact absurd H (by simp)
    · replace c8 := Bool.eq_false_iff.mpr c8
      subst c8
      have H1 : (none) = some r := by rw [if_neg (show ¬ (false = true) by decide)] at H; exact H
      clear H
      have H := H1
      clear H1
      exact absurd H (by simp)
  · replace c5 := Bool.eq_false_iff.mpr c5
    subst c5
    have H1 : (none) = some r := by rw [if_neg (show ¬ (false = true) by decide)] at H; exact H
    clear H
    have H := H1
    clear H1
    exact absurd H (by simp)

end Go.Proofs.YtkjmbibnfohkjaaDoor.PWholeUints
