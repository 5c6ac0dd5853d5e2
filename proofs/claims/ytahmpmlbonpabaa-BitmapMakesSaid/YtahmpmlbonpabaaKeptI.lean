/- Joined texts of one law. -/
import Derived.Test.YtahmpmlbonpabaaProg
import Derived.Below
import Derived.Deep.Draws
import Derived.Deep.AppendLies
import Derived.Maps.AppendAt
import Derived.OwnWalk
import Derived.Laws.BytesArg
import Derived.Laws.MakeOwn
import Derived.Laws.OwnMore
import Derived.Deep.OwnRows
import Derived.Tactics
import Derived.Lib.ConvBytes
import Derived.Laws.Slices
import Derived.WalkKit
import Derived.KernelRfl
import Derived.RowKit3
import Derived.Deep.LoopGhost
import Derived.Deep.QuietTactic
import Derived.BigQuiet
import Derived.WideLaws
import Derived.Deep.DeepCutAuto
import Derived.Deep.CutBlock
import Derived.Deep.RegionHeld3
import Derived.Laws.Rows
import Derived.Lib.AppendStr
import Derived.ArgAppend
import Derived.Laws.IdiomCopy
import Derived.OrdersHeld
import Derived.Laws.BitsLemmas
import Derived.RowKit
import Derived.Test.YtahmpmlbonpabaaWWords
import Derived.Test.YtahmpmlbonpabaaWLast
import Derived.Test.YtahmpmlbonpabaaWTab
import Derived.Test.YtahmpmlbonpabaaWFour
import Derived.Test.YtahmpmlbonpabaaWQPut
import Derived.Test.YtahmpmlbonpabaaWApart
import Derived.Test.YtahmpmlbonpabaaWArr
import Derived.Test.YtahmpmlbonpabaaWZeros
import Derived.Test.YtahmpmlbonpabaaWFoot
import Derived.Test.YtahmpmlbonpabaaWKept
import Derived.Test.YtahmpmlbonpabaaWShare
import Derived.Test.YtahmpmlbonpabaaWN
import Derived.Test.YtahmpmlbonpabaaWFootNe
import Derived.Test.YtahmpmlbonpabaaWAt
import Derived.Test.YtahmpmlbonpabaaWEqStruct
import Derived.Test.YtahmpmlbonpabaaWRepsOne
import Derived.Test.YtahmpmlbonpabaaWInv
import Derived.Test.YtahmpmlbonpabaaWInvWords
import Derived.Test.YtahmpmlbonpabaaWGuard
import Derived.Test.YtahmpmlbonpabaaWNEv
import Derived.Test.YtahmpmlbonpabaaWMore
/- The machine side of a statement, laid by the kit's print program, run by wip/tools/gprint.py: some functions' contracts are given, proved by hand. -/
namespace Go.Proofs.Ytahmpmlbonpabaa.PMarkF
open Go.RowKit Go.Proofs.YtahmpmlbonpabaaW.PrintWords Go.Proofs.YtahmpmlbonpabaaW.PrintLast Go.Proofs.YtahmpmlbonpabaaW.PrintMore
attribute [local go_sem] max2_int min2_int max_two min_two max_three min_three max_four min_four   -- for this text's walks alone
set_option linter.unusedVariables false
set_option linter.unusedSimpArgs false



def errW : Option Int → Value
  | none => .nilIface
  | some c => .iface 0 (.int .i64 c)
theorem errW_none : errW none = .nilIface := rfl
theorem errW_some (c : Int) : errW (some c) = .iface 0 (.int .i64 c) := rfl

-- the values' own types

end Go.Proofs.Ytahmpmlbonpabaa.PMarkF

/- The machine side of a statement, laid by the kit's print program, run by wip/tools/gprint.py: some functions' contracts are given, proved by hand. -/
namespace Go.Proofs.Ytahmpmlbonpabaa.PMarkF
open Go.RowKit Go.Proofs.YtahmpmlbonpabaaW.PrintWords Go.Proofs.YtahmpmlbonpabaaW.PrintLast Go.Proofs.YtahmpmlbonpabaaW.PrintMore
attribute [local go_sem] max2_int min2_int max_two min_two max_three min_three max_four min_four   -- for this text's walks alone
set_option linter.unusedVariables false
set_option linter.unusedSimpArgs false

/-! ### quarrykit_mark: function 17 -/
def quarrykit_mark.f (a0 : Int) (a1 : Int) : Option (Int) := some (wrap64 ((wrap64 (1000003 * (wrap64 (a0 + 7)))) + a1))
set_option maxHeartbeats 8000000 in
set_option maxRecDepth 100000 in
theorem quarrykit_mark.calls (a0 : Int) (a1 : Int) (r : Int) (w : World) (h : quarrykit_mark.f a0 a1 = some r) :
    Calls Try.prog 17 #[.int .i64 a0, .int .i64 a1] w fun e w' => e = .returned (.int .i64 r) ∧ Drawn0 w w' := by
  have H : (some (wrap64 ((wrap64 (1000003 * (wrap64 (a0 + 7)))) + a1))) = some r := h
  clear h
  obtain rfl := Option.some.inj H
  go_enter Try.func17, Try.ntmps17
  go_wp2
  go_ret
  exact ⟨by first | rfl | (simp; done) | (simp [*]; done), by repeat (first | exact Drawn0.refl _ | apply Drawn0.step)⟩

end Go.Proofs.Ytahmpmlbonpabaa.PMarkF

/- quarrykit.LentInts: the row, and the marks behind its end; out of the printed text, by genlent.py. -/
namespace Go.Proofs.Ytahmpmlbonpabaa
open Go.RowKit Go.Proofs.Ytahmpmlbonpabaa.PMarkF Go.Proofs.YtahmpmlbonpabaaW.PrintWords Go.Proofs.YtahmpmlbonpabaaW.PrintLast Go.Proofs.YtahmpmlbonpabaaW.PrintMore
attribute [local go_sem] max2_int min2_int max_two min_two max_three min_three max_four min_four
set_option linter.unusedVariables false
set_option linter.unusedSimpArgs false
theorem lent_info3 : (Try.prog.info? 3).map (fun i => (i.zero, i.size, i.bytes)) = some (some (.int .i64 0), 1, 8) := by kernel_rfl
theorem lent_info4 : (Try.prog.info? 4).map (fun i => (i.zero, i.size, i.bytes)) = some (some (.bool false), 1, 1) := by kernel_rfl
theorem lent_info35 : (Try.prog.info? 35).map (fun i => (i.zero, i.size, i.bytes)) = some (some (.int .u64 0), 1, 8) := by kernel_rfl
/-! ### lentW: function 7 -/
mutual
def lentW.l0 : Nat → List Int → List Int → Int → Option (List Int)
  | 0, _, _, _ => none
  | k + 1, x0, x3, x4 => if x4 < (x0.length : Int) then (if 0 ≤ x4 then (if x3.length < 17592186044416 then (lentW.l0 k x0 (x3 ++ [rd x0 x4]) (wrap64 (x4 + 1))) else (none)) else (none)) else (lentW.l1 k x0 x3 0)
def lentW.l1 : Nat → List Int → List Int → Int → Option (List Int)
  | 0, _, _, _ => none
  | k + 1, x0, x3, x5 => if x5 < 24 then ((quarrykit_mark.f 1 x5).bind fun t113 => (if x3.length < 17592186044416 then (lentW.l1 k x0 (x3 ++ [t113]) (wrap64 (x5 + 1))) else (none))) else (if 0 ≤ (x0.length : Int) then (if (x0.length : Int) ≤ (x3.length : Int) then (some x3) else (none)) else (none))
end
def lentW.f (k : Nat) (l0 : List Int) : Option (List Int) := lentW.l0 k l0 ([] : List Int) 0
set_option maxHeartbeats 8000000 in
set_option maxRecDepth 100000 in
theorem lentW.calls (k : Nat) (A0 : Option Addr) (c0 : Nat) (l0 : List Int) (r : List Int) (w : World) (hr0 : Kd.C (Kd.int .i64) w A0 l0.length l0) (hc0 : l0.length ≤ c0) (h : lentW.f k l0 = some r) :
    Calls Try.prog 7 #[.slice A0 l0.length c0] w fun e w' => ∃ (A : Option Addr) (c : Nat), e = .returned (.slice A l0.length c) ∧ Kd.R (Kd.int .i64) 3 w' w.heap.size (fun _ => True) (.slice A r.length c) r ∧ Below w.heap.size w w' := by
  have HR0 := Aside0.mk hr0
  have HC0 := Aside0.mk hc0
  clear hr0 hc0
  have HB := Aside0.mk (Below.refl w.heap.size w)
  have H : (lentW.l0 k l0 ([] : List Int) 0) = some r := h
  clear h
  have H' := Aside0.mk H
  clear H
  go_enter Try.func7, Try.ntmps7
  go_wp2
  go_loopg [3, 4] k (fun kq v3 v4 w' => ∃ (x3_1 : List Int) (x4_1 : Int), v4 = .int .i64 x4_1 ∧ Aside0 (lentW.l0 kq l0 x3_1 x4_1 = some r) ∧ Aside0 (kq ≤ k) ∧ Aside0 (Kd.R (Kd.int .i64) 3 w' w.heap.size (fun _ => True) v3 x3_1) ∧ Aside0 (Below w.heap.size w w'))
  case atStart => exact ⟨(([] : List Int)), (0), (by first | rfl | (simp; done) | (simp [*]; done)), H', ⟨Nat.le_refl _⟩, ⟨by first | exact Kd.R_nil _ _ _ _ _ | exact Kd.N_nil _ _ _ _ _ | exact Kd.V_nil _ _ _ _ _ | exact Kd.Q_nil _ _ _ _ _ | exact Kd.S_nil _ _ _ _ _⟩, ⟨by repeat (first | (with_reducible first | exact HB.out | apply below_alloc | apply pw_below_drewN | apply below_drew1) | exact HB.out)⟩⟩
  case round =>
    clear H'
    obtain ⟨x3_1, x4_1, rfl, HA, HK1, HO_3, HB⟩ := hrel
    cases gk with
    | zero => exact absurd HA.out (by simp [lentW.l0])
    | succ k1 =>
      have H := HA.out
      clear HA
      simp only [lentW.l0] at H
      by_cases c2 : x4_1 < (l0.length : Int)
      · rw [if_pos c2] at H
        have c2b0 : decide (x4_1 < (l0.length : Int)) = true := decide_eq_true c2
        clear c2
        by_cases c3 : 0 ≤ x4_1
        · rw [if_pos c3] at H
          have c3b0 : decide (0 ≤ x4_1) = true := decide_eq_true c3
          clear c3
          by_cases c4 : x3_1.length < 17592186044416
          · rw [if_pos c4] at H
            have LMc4 := Aside0.mk c4
            clear c4
            obtain ⟨y110, hy110⟩ : ∃ y_ : List Int, y_ = (x3_1 ++ [rd l0 x4_1]) := ⟨_, rfl⟩
            replace H : (lentW.l0 k1 l0 y110 (wrap64 (x4_1 + 1))) = some r := by first | (rw [hy110]; with_reducible exact H) | (have H2_ := (Option.bind_some _ _).symm.trans H; rw [hy110]; with_reducible exact H2_) | (have H2_ := (Option.bind_some _ _).symm.trans H; with_reducible exact H2_) | with_reducible exact H | (rw [hy110]; exact H) | exact H
            have Ny110 := Aside0.mk hy110
            clear hy110
            have H' := Aside0.mk H
            clear H
            have p109 : 0 ≤ (x4_1 : Int) := of_decide_eq_true (by first | (with_reducible assumption) | assumption)
            have q109 : x4_1 < (l0.length : Int) := of_decide_eq_true (by first | (with_reducible assumption) | assumption)
            obtain ⟨ad109, e109, hx109_0⟩ := Kd.at_int HR0.out x4_1 p109 q109
            cases e109
            replace hx109_0 := (HB.out.cell (World.block_lt_of_cell? w _ hx109_0)).trans hx109_0
            replace p109 := eq_true p109
            replace q109 := eq_true q109
            go_wp2_with (first | ((with_reducible refine gate_builtin (b := .append) (xs := #[.tmp 12, .tmp 17]) rfl ?_); at_builtin; refine Kd.R_append (Kd.int .i64) (w0 := w) w.heap.size rfl (.tmp 12) (.tmp 17) 22 3 (.int .i64 0) 8 rfl Try.underlying22 lent_info3 rfl (by decide) (by omega) u3 x3_1 (rd l0 x4_1) [.int .i64 (rd l0 x4_1)] (fun _ => True) (fun _ => False) rfl rfl ?aP (fun _ hk => hk.elim) ?aF ?aO ?aB ?aS ?aL ?_; (case aP => exact rfl); (case aB => exact (by repeat (first | (with_reducible first | exact HB.out | apply below_alloc | apply pw_below_drewN | apply below_drew1) | exact HB.out))); (case aF => exact (fun _ _ => trivial)); (case aO => exact (by (with_reducible repeat (first | apply Kd.R_alloc | apply Kd.R_drewN | apply Kd.R_drew)); exact HO_3.out)); (case aS => exact (below_size (by repeat (first | (with_reducible first | exact HB.out | apply below_alloc | apply pw_below_drewN | apply below_drew1) | exact HB.out)))); (case aL => have := LMc4.out; omega); intro v111 w5 ho hb hg hat; rw [← Ny110.out] at ho; have n0_ := Aside0.mk (hb); have n1_ := Aside0.mk (ho); clear HB; clear HO_3; have HB := n0_; have HO112 := n1_; clear n0_ n1_; clear ho hb hg hat))
            go_roundg k1
            case measure => have := HK1.out; omega
            case rel => exact ⟨(y110), (wrap64 (x4_1 + 1)), (by first | rfl | (simp; done) | (simp [*]; done)), H', ⟨by have := HK1.out; omega⟩, ⟨by (with_reducible repeat (first | apply Kd.R_alloc | apply Kd.R_drewN | apply Kd.R_drew)); exact HO112.out⟩, ⟨by repeat (first | (with_reducible first | exact HB.out | apply below_alloc | apply pw_below_drewN | apply below_drew1) | exact HB.out)⟩⟩
          · rw [if_neg c4] at H
            exact absurd H (by simp)
        · rw [if_neg c3] at H
          exact absurd H (by simp)
      · rw [if_neg c2] at H
        have c2b0 : decide (x4_1 < (l0.length : Int)) = false := decide_eq_false c2
        clear c2
        have H' := Aside0.mk H
        clear H
        go_wp2
        go_loopg [3, 5] k1 (fun kq v3 v5 w' => ∃ (x3_2 : List Int) (x5_2 : Int), v5 = .int .i64 x5_2 ∧ Aside0 (lentW.l1 kq l0 x3_2 x5_2 = some r) ∧ Aside0 (kq ≤ k1) ∧ Aside0 (Kd.R (Kd.int .i64) 3 w' w.heap.size (fun _ => True) v3 x3_2) ∧ Aside0 (Below w.heap.size w w'))
        case atStart => exact ⟨(x3_1), (0), (by first | rfl | (simp; done) | (simp [*]; done)), H', ⟨Nat.le_refl _⟩, ⟨by (with_reducible repeat (first | apply Kd.R_alloc | apply Kd.R_drewN | apply Kd.R_drew)); exact HO_3.out⟩, ⟨by repeat (first | (with_reducible first | exact HB.out | apply below_alloc | apply pw_below_drewN | apply below_drew1) | exact HB.out)⟩⟩
        case round =>
          clear H'
          try clear p1
          try clear q1
          try clear hx1
          try clear c2
          try clear c2b0
          try clear p2
          try clear c3
          try clear c3b0
          try clear c4
          try clear hx109_0
          try clear p109
          try clear q109
          obtain ⟨x3_2, x5_2, rfl, HA, HK2, HO_3, HB⟩ := hrel
          cases gk with
          | zero => exact absurd HA.out (by simp [lentW.l1])
          | succ k2 =>
            have H := HA.out
            clear HA
            simp only [lentW.l1] at H
            by_cases c6 : x5_2 < 24
            · rw [if_pos c6] at H
              have c6b0 : decide (x5_2 < 24) = true := decide_eq_true c6
              clear c6
              replace H := Option.bind_eq_some_iff.mp H
              obtain ⟨t113, A70, H⟩ := H
              replace H : (if x3_2.length < 17592186044416 then (lentW.l1 k2 l0 (x3_2 ++ [t113]) (wrap64 (x5_2 + 1))) else (none)) = some r := H
              have A7 := Aside0.mk A70
              clear A70
              by_cases c8 : x3_2.length < 17592186044416
              · rw [if_pos c8] at H
                have LMc8 := Aside0.mk c8
                clear c8
                obtain ⟨y114, hy114⟩ : ∃ y_ : List Int, y_ = (x3_2 ++ [t113]) := ⟨_, rfl⟩
                replace H : (lentW.l1 k2 l0 y114 (wrap64 (x5_2 + 1))) = some r := by first | (rw [hy114]; with_reducible exact H) | (have H2_ := (Option.bind_some _ _).symm.trans H; rw [hy114]; with_reducible exact H2_) | (have H2_ := (Option.bind_some _ _).symm.trans H; with_reducible exact H2_) | with_reducible exact H | (rw [hy114]; exact H) | exact H
                have Ny114 := Aside0.mk hy114
                clear hy114
                have H' := Aside0.mk H
                clear H
                go_wp2_with (first | ((with_reducible refine gate_callee (f := 17) rfl ?_); refine goesL_ (some 25) rfl rfl Try.func17 (by kernel_rfl) rfl #[.int .i64 1, .int .i64 x5_2] rfl (by (try simp only [List.map_toArray, List.map_cons, List.map_nil]); first | done | rfl | (simp only [List.length_drop, List.length_take]; rfl)) ?_; (with_reducible refine (quarrykit_mark.calls 1 x5_2 t113 _ A7.out).mono ?_); rintro e w' ⟨rfl, ⟨nd, rfl⟩⟩; refine ⟨_, rfl, ?_⟩) | ((with_reducible refine gate_builtin (b := .append) (xs := #[.tmp 23, .tmp 26]) rfl ?_); at_builtin; refine Kd.R_append (Kd.int .i64) (w0 := w) w.heap.size rfl (.tmp 23) (.tmp 26) 22 3 (.int .i64 0) 8 rfl Try.underlying22 lent_info3 rfl (by decide) (by omega) u3 x3_2 t113 [.int .i64 t113] (fun _ => True) (fun _ => False) rfl rfl ?aP (fun _ hk => hk.elim) ?aF ?aO ?aB ?aS ?aL ?_; (case aP => exact rfl); (case aB => exact (by repeat (first | (with_reducible first | exact HB.out | apply below_alloc | apply pw_below_drewN | apply below_drew1) | exact HB.out))); (case aF => exact (fun _ _ => trivial)); (case aO => exact (by (with_reducible repeat (first | apply Kd.R_alloc | apply Kd.R_drewN | apply Kd.R_drew)); exact HO_3.out)); (case aS => exact (below_size (by repeat (first | (with_reducible first | exact HB.out | apply below_alloc | apply pw_below_drewN | apply below_drew1) | exact HB.out)))); (case aL => have := LMc8.out; omega); intro v115 w9 ho hb hg hat; rw [← Ny114.out] at ho; have n0_ := Aside0.mk (hb); have n1_ := Aside0.mk (ho); clear HB; clear HO_3; have HB := n0_; have HO116 := n1_; clear n0_ n1_; clear ho hb hg hat))
                go_roundg k2
                case measure => have := HK1.out; have := HK2.out; omega
                case rel => exact ⟨(y114), (wrap64 (x5_2 + 1)), (by first | rfl | (simp; done) | (simp [*]; done)), H', ⟨by have := HK1.out; have := HK2.out; omega⟩, ⟨by (with_reducible repeat (first | apply Kd.R_alloc | apply Kd.R_drewN | apply Kd.R_drew)); exact HO116.out⟩, ⟨by repeat (first | (with_reducible first | exact HB.out | apply below_alloc | apply pw_below_drewN | apply below_drew1) | exact HB.out)⟩⟩
              · rw [if_neg c8] at H
                exact absurd H (by simp)
            · rw [if_neg c6] at H
              have c6b0 : decide (x5_2 < 24) = false := decide_eq_false c6
              clear c6
              by_cases c10 : 0 ≤ (l0.length : Int)
              · rw [if_pos c10] at H
                have c10b0 := eq_true c10
                have c10b1 : decide (0 ≤ (l0.length : Int)) = true := decide_eq_true c10
                clear c10
                by_cases c11 : (l0.length : Int) ≤ (x3_2.length : Int)
                · rw [if_pos c11] at H
                  have c11b0 := eq_true c11
                  have c11b1 : decide ((l0.length : Int) ≤ (x3_2.length : Int)) = true := decide_eq_true c11
                  clear c11
                  obtain rfl := Option.some.inj H
                  obtain ⟨Ao12, co12, eo12⟩ := Kd.R_slice HO_3.out
                  subst eo12
                  have q13 : ((l0.length : Int) : Int) ≤ ((x3_2.length : Int) : Int) := of_decide_eq_true (by first | (with_reducible assumption) | assumption)
                  obtain ⟨i013, hi013, _, hsz13, _⟩ := info_parts lent_info3
                  have hcut13 := cut_to (P := Try.prog) 22 3 .i64 Try.underlying22 hi013 Ao12 x3_2.length co12 (l0.length : Int) (of_decide_eq_true (by first | (with_reducible assumption) | assumption)) q13 (Kd.R_reads' HO_3.out).2.1
                  rw [Int.toNat_natCast] at hcut13
                  clear hi013 hsz13
                  replace q13 := eq_true q13
                  go_wp2
                  go_ret
                  exact ⟨_, _, rfl, by (with_reducible repeat (first | apply Kd.R_alloc | apply Kd.R_drewN | apply Kd.R_drew)); exact HO_3.out, by repeat (first | (with_reducible first | exact HB.out | apply below_alloc | apply pw_below_drewN | apply below_drew1) | exact HB.out)⟩
                · rw [if_neg c11] at H
                  exact absurd H (by simp)
              · rw [if_neg c10] at H
                exact absurd H (by simp)

/-- The marks behind a row. -/
def marks : List Int := (List.range 24).map (fun i : Nat => 8000024 + (i : Int))
theorem marks_len : marks.length = 24 := by decide
/-- A row of the call's own, with the marks in its spare room. -/
def LK.R (d : Kd Int) (e : Nat) (w : World) (base : Nat) (ok : Nat → Prop) (v : Value) (xs : List Int) : Prop :=
  d.R e w base ok v xs ∧ ∃ A c, v = .slice A xs.length c ∧ d.R e w base ok (.slice A (xs ++ marks).length c) (xs ++ marks)
section
variable {d : Kd Int} {e : Nat} {w w1 : World} {base : Nat} {ok ok' : Nat → Prop} {v : Value} {xs : List Int}
theorem LK.both {w' : World} {base' : Nat} {ok' : Nat → Prop} (h : LK.R d e w base ok v xs) (f : ∀ u ys, d.R e w base ok u ys → d.R e w' base' ok' u ys) : LK.R d e w' base' ok' v xs := by
  obtain ⟨h1, A, c, h2, h3⟩ := h
  exact ⟨f _ _ h1, A, c, h2, f _ _ h3⟩
theorem LK.R_mono (h : LK.R d e w base ok v xs) (hok : ∀ k, ok k → ok' k) : LK.R d e w base ok' v xs := LK.both h (fun _ _ g => Kd.R_mono g hok)
theorem LK.R_lower {base' : Nat} (h : LK.R d e w base ok v xs) (hb : base' ≤ base) : LK.R d e w base' ok v xs := LK.both h (fun _ _ g => Kd.R_lower g hb)
theorem LK.R_below (h : LK.R d e w base ok v xs) (hb : Below w.heap.size w w1) : LK.R d e w1 base ok v xs := LK.both h (fun _ _ g => Kd.R_below g hb)
theorem LK.R_far (h : LK.R d e w base ok v xs) {p : Addr} (hok : ∀ k, ok k → k ≠ p.block) (u : Value) : LK.R d e (w.setCell p u) base ok v xs := LK.both h (fun _ _ g => Kd.R_far g hok u)
theorem LK.R_types (h : LK.R d e w base ok v xs) {g t : Nat} {cells : Array Value} (hb : w.heap[g]? = some (.cells cells t (0, 0))) (ht : ∀ q, q ∈ e :: d.E → q ≠ t) : LK.R d e w base (fun k => ok k ∧ k ≠ g) v xs := LK.both h (fun _ _ g => Kd.R_types g hb ht)
theorem LK.R_alloc (h : LK.R d e w base ok v xs) (o : Obj) : LK.R d e (w.alloc o) base ok v xs := LK.both h (fun _ _ g => Kd.R_alloc g o)
theorem LK.R_drew (h : LK.R d e w base ok v xs) : LK.R d e w.drew base ok v xs := LK.both h (fun _ _ g => Kd.R_drew g)
theorem LK.R_drewN (h : LK.R d e w base ok v xs) (m : Nat) : LK.R d e (w.drewN m) base ok v xs := LK.both h (fun _ _ g => Kd.R_drewN g m)
theorem LK.R_slice (h : LK.R d e w base ok v xs) : ∃ A c, v = .slice A xs.length c := Kd.R_slice h.1
theorem LK.R_reads' {A : Option Addr} {n c : Nat} (h : LK.R d e w base ok (.slice A n c) xs) : n = xs.length ∧ n ≤ c ∧ d.C w A xs.length xs := Kd.R_reads' h.1
theorem LK.R_lt (h : LK.R d e w base ok v xs) : ∀ k, v.ownBlock = some k → k < w.heap.size := Kd.R_lt h.1
theorem LK.R_base (h : LK.R d e w base ok v xs) : ∀ k, v.ownBlock = some k → base ≤ k := Kd.R_base h.1
theorem LK.R_new' {d : Kd Int} {e : Nat} {W w1 : World} {ok : Nat → Prop} {u v : Value} {xs : List Int} (h : LK.R d e w1 W.heap.size ok v xs) (hlt : ∀ k, u.ownBlock = some k → k < W.heap.size) : LK.R d e w1 W.heap.size (fun k => ok k ∧ some k ≠ u.ownBlock) v xs :=
  LK.both h (fun _ _ g => Kd.R_new' g hlt)
theorem LK.R_elder' {d : Kd Int} {e : Nat} {W w1 : World} {base : Nat} {ok : Nat → Prop} {u v : Value} {xs : List Int} (hu : LK.R d e W base ok u xs) (hbase : ∀ k, v.ownBlock = some k → W.heap.size ≤ k) (hb : Below W.heap.size W w1) : LK.R d e w1 base (fun k => ok k ∧ some k ≠ v.ownBlock) u xs :=
  LK.both hu (fun _ _ g => Kd.R_elder' g hbase hb)
/-- The row and the marks, as they are read. -/
theorem LK.reads {A : Option Addr} {c : Nat} (h : LK.R d e w base ok (.slice A xs.length c) xs) : (xs ++ marks).length ≤ c ∧ d.C w A (xs ++ marks).length (xs ++ marks) := by
  obtain ⟨h1, A', c', h2, h3⟩ := h
  injection h2 with e1 e2 e3
  subst e1 e3
  obtain ⟨q1, q2, q3⟩ := Kd.R_reads' h3
  exact ⟨q2, q3⟩
end
theorem lentW_l1 (l : List Int) (hl : l.length ≤ 17592186044392) (d : Nat) : ∀ (i k : Nat), i + d = 24 → d < k → lentW.l1 k l (l ++ marks.take i) (i : Int) = some (l ++ marks) := by
  induction d with
  | zero =>
    intro i k hi hk
    obtain ⟨k, rfl⟩ : ∃ m, k = m + 1 := ⟨k - 1, by omega⟩
    obtain rfl : i = 24 := by omega
    have e : marks.take 24 = marks := by decide
    rw [lentW.l1, if_neg (by decide), if_pos (by omega), e, if_pos (by rw [List.length_append]; omega)]
  | succ d ih =>
    intro i k hi hk
    obtain ⟨k, rfl⟩ : ∃ m, k = m + 1 := ⟨k - 1, by omega⟩
    have hm : quarrykit_mark.f 1 (i : Int) = some (8000024 + (i : Int)) := by
      unfold quarrykit_mark.f
      have e1 : wrap64 (1 + 7) = 8 := by unfold wrap64; omega
      have e2 : wrap64 (1000003 * 8) = 8000024 := by unfold wrap64; omega
      have e3 : wrap64 (8000024 + (i : Int)) = 8000024 + (i : Int) := by unfold wrap64; omega
      rw [e1, e2, e3]
    have hget : marks[i]? = some (8000024 + (i : Int)) := by
      unfold marks
      rw [List.getElem?_map, List.getElem?_range (by omega)]
      rfl
    have hs : marks.take (i + 1) = marks.take i ++ [8000024 + (i : Int)] := by
      rw [List.take_add_one, hget]
      rfl
    have hw : wrap64 ((i : Int) + 1) = ((i + 1 : Nat) : Int) := by unfold wrap64; omega
    have hu : IntKind.u64.wrap (8000024 + (i : Int)) = 8000024 + (i : Int) := by rw [IntKind.wrap_u64]; omega
    rw [lentW.l1, if_pos (by omega), hm, Option.bind_some, if_pos (by rw [List.length_append, List.length_take]; omega), hw, List.append_assoc]
    first | rw [hu, ← hs] | rw [← hs]
    exact ih (i + 1) k (by omega) (by omega)
theorem lentW_l0 (l : List Int) (hl : l.length ≤ 17592186044392) (d : Nat) : ∀ (i k : Nat), i + d = l.length → d + 30 < k → lentW.l0 k l (l.take i) (i : Int) = some (l ++ marks) := by
  induction d with
  | zero =>
    intro i k hi hk
    obtain ⟨k, rfl⟩ : ∃ m, k = m + 1 := ⟨k - 1, by omega⟩
    rw [lentW.l0, if_neg (by omega), List.take_of_length_le (by omega)]
    have := lentW_l1 l hl 24 0 k (by omega) (by omega)
    rw [List.take_zero, List.append_nil] at this
    exact this
  | succ d ih =>
    intro i k hi hk
    obtain ⟨k, rfl⟩ : ∃ m, k = m + 1 := ⟨k - 1, by omega⟩
    have hw : wrap64 ((i : Int) + 1) = ((i + 1 : Nat) : Int) := by unfold wrap64; omega
    have hs : l.take i ++ [rd l (i : Int)] = l.take (i + 1) := by
      rw [List.take_add_one, List.getElem?_eq_getElem (by omega)]
      unfold rd
      rw [Int.toNat_natCast, List.getD_eq_getElem?_getD, List.getElem?_eq_getElem (by omega)]
      rfl
    rw [lentW.l0, if_pos (by omega), if_pos (by omega), if_pos (by rw [List.length_take]; omega), hw, hs]
    exact ih (i + 1) k (by omega) (by omega)
/-- What LentInts tells: the same row. -/
def quarrykit_LentInts.f (l0 : List Int) : Option (List Int) := if l0.length ≤ 17592186044392 then some l0 else none
theorem quarrykit_LentInts.calls (A0 : Option Addr) (c0 : Nat) (l0 : List Int) (r : List Int) (w : World) (hr0 : Kd.C (Kd.int .i64) w A0 l0.length l0) (hc0 : l0.length ≤ c0) (h : quarrykit_LentInts.f l0 = some r) :
    Calls Try.prog 7 #[.slice A0 l0.length c0] w fun e w' => ∃ v0_ : Value, e = .returned (v0_) ∧ LK.R (Kd.int .i64) 3 w' w.heap.size (fun _ => True) v0_ r ∧ Below w.heap.size w w' := by
  unfold quarrykit_LentInts.f at h
  split at h
  · rename_i hl
    obtain rfl := Option.some.inj h
    have hf : lentW.f (l0.length + 40) l0 = some (l0 ++ marks) := by
      have := lentW_l0 l0 hl l0.length 0 (l0.length + 40) (by omega) (by omega)
      rw [List.take_zero] at this
      exact this
    refine (lentW.calls (l0.length + 40) A0 c0 l0 _ w hr0 hc0 hf ).mono ?_
    rintro e w' ⟨A, c, rfl, hR, hb⟩
    have hT2 := Kd.R_take (m := l0.length) hR (by rw [List.length_append]; omega)
    rw [List.take_left'  rfl] at hT2
    exact ⟨_, rfl, ⟨hT2, A, c, rfl, hR⟩, hb⟩
  · cases h
end Go.Proofs.Ytahmpmlbonpabaa

/- quarrykit.KeptInts over a row with its marks behind it: the same row stands, so the answer is true. -/
namespace Go.Proofs.Ytahmpmlbonpabaa
open Go.RowKit Go.Proofs.Ytahmpmlbonpabaa.PMarkF Go.Proofs.YtahmpmlbonpabaaW.PrintWords Go.Proofs.YtahmpmlbonpabaaW.PrintLast Go.Proofs.YtahmpmlbonpabaaW.PrintMore
set_option linter.unusedVariables false
set_option linter.unusedSimpArgs false
/-- The row and the marks behind it, as they are read. -/
def LK.C (d : Kd Int) (w : World) (A : Option Addr) (c : Nat) (xs : List Int) : Prop := (xs ++ marks).length ≤ c ∧ d.C w A (xs ++ marks).length (xs ++ marks)
section
variable {d : Kd Int} {w w1 : World} {A : Option Addr} {c : Nat} {xs : List Int}
theorem LK.C_below (h : LK.C d w A c xs) (hb : Below w.heap.size w w1) : LK.C d w1 A c xs := ⟨h.1, Kd.C_below h.2 hb⟩
theorem LK.C_alloc (h : LK.C d w A c xs) (o : Obj) : LK.C d (w.alloc o) A c xs := ⟨h.1, Kd.C_alloc h.2 o⟩
theorem LK.C_drew (h : LK.C d w A c xs) : LK.C d w.drew A c xs := ⟨h.1, Kd.C_drew h.2⟩
theorem LK.C_drewN (h : LK.C d w A c xs) (m : Nat) : LK.C d (w.drewN m) A c xs := ⟨h.1, Kd.C_drewN h.2 m⟩
theorem LK.C_of {e base n : Nat} {ok : Nat → Prop} (h : LK.R d e w base ok (.slice A n c) xs) : LK.C d w A c xs := by
  obtain rfl := (LK.R_reads' h).1
  exact LK.reads h
end
theorem lrb {d : Kd Int} {e base : Nat} {w W w' : World} {ok : Nat → Prop} {v : Value} {xs : List Int} (R : Aside0 (LK.R d e w base ok v xs)) (hb : Below W.heap.size W w') (h : LK.R d e w base ok v xs → LK.R d e W base ok v xs := by (intro h_; (with_reducible repeat (first | apply LK.R_alloc | apply LK.R_drewN | apply LK.R_drew)); exact h_)) : LK.R d e w' base ok v xs := LK.R_below (h R.out) hb
theorem cut_past {P : Program} (t e : TypeId) (kh : IntKind) {i : TypeInfo} (ht : P.underlying t = some (.slice e)) (hi : P.info? e = some i) (A : Option Addr) (n c : Nat) (j : Int) (h0 : 0 ≤ j) (hc : j ≤ c) :
    ∀ W : World, (Instr.slice t (.slice A n c) none (some (.int kh j)) none).run P W = .ok (.slice A j.toNat c) W := by
  intro W
  have hel : P.elem t = e := by simp [Program.elem, ht]
  have hu : P.underlying t = some (.slice (P.elem t)) := by rw [hel]; exact ht
  have ha : (A.map fun x => x.add 0) = A := by cases A <;> simp [Addr.add]
  rw [run_slice_h W t A n c hu kh j h0 (by omega), hel]
  simp [sizeOf, typeInfo, hi, sliced, Result.andThen, ha]
/-- What KeptInts tells, of a row and the same row. -/
def quarrykit_KeptInts.f (l0 l1 : List Int) : Option Bool := if l0 = l1 ∧ l1.length ≤ 17592186044392 then some true else none
theorem rd_app (l m : List Int) (i : Nat) (h : i < l.length) : rd (l ++ m) (i : Int) = rd l (i : Int) := by
  unfold rd
  rw [Int.toNat_natCast, List.getD_eq_getElem?_getD, List.getD_eq_getElem?_getD, List.getElem?_append_left h]
theorem rd_mark (l : List Int) (i : Nat) (h : i < 24) : rd (l ++ marks) ((l.length + i : Nat) : Int) = 8000024 + (i : Int) := by
  unfold rd
  rw [Int.toNat_natCast, List.getD_eq_getElem?_getD, List.getElem?_append_right (by omega)]
  unfold marks
  rw [List.getElem?_map, List.getElem?_range (by omega), show l.length + i - l.length = i from by omega]
  rfl
theorem mark_is (i : Nat) (h : i < 24) : quarrykit_mark.f 1 (i : Int) = some (8000024 + (i : Int)) := by
  unfold quarrykit_mark.f
  have e1 : wrap64 (1 + 7) = 8 := by unfold wrap64; omega
  have e2 : wrap64 (1000003 * 8) = 8000024 := by unfold wrap64; omega
  have e3 : wrap64 (8000024 + (i : Int)) = 8000024 + (i : Int) := by unfold wrap64; omega
  rw [e1, e2, e3]
set_option maxHeartbeats 8000000 in
set_option maxRecDepth 100000 in
theorem quarrykit_KeptInts.calls (A0 : Option Addr) (c0 : Nat) (l0 : List Int) (A1 : Option Addr) (c1 : Nat) (l1 : List Int) (r : Bool) (w : World) (hr0 : LK.C (Kd.int .i64) w A0 c0 l0) (hc0 : l0.length ≤ c0) (hr1 : Kd.C (Kd.int .i64) w A1 l1.length l1) (hc1 : l1.length ≤ c1) (h : quarrykit_KeptInts.f l0 l1 = some r) :
    Calls Try.prog 9 #[.slice A0 l0.length c0, .slice A1 l1.length c1] w fun e w' => e = .returned (.bool r) ∧ Below w.heap.size w w' := by
  unfold quarrykit_KeptInts.f at h
  split at h
  case isFalse => cases h
  rename_i hb
  obtain ⟨rfl, hl⟩ := hb
  obtain rfl := Option.some.inj h
  clear h
  have HC := hr0.2
  have hcc : l0.length + 24 ≤ c0 := by have := hr0.1; rw [List.length_append, marks_len] at this; exact this
  obtain ⟨i0, hi0, _, _, _⟩ := info_parts lent_info3
  have hcut := cut_past (P := Try.prog) 22 3 .i64 Try.underlying22 hi0 A0 l0.length c0 ((l0.length : Int) + 24) (by omega) (by omega)
  rw [show ((l0.length : Int) + 24).toNat = (l0 ++ marks).length from by rw [List.length_append, marks_len]; omega] at hcut
  have hw : IntKind.i64.wrap ((l0.length : Int) + 24) = (l0.length : Int) + 24 := by rw [IntKind.wrap_i64]; omega
  have hlen : (((l0 ++ marks).length : Nat) : Int) = (l0.length : Int) + 24 := by rw [List.length_append, marks_len]; omega
  have hrd : ∀ x : Int, 0 ≤ x → x < (l0.length : Int) → rd (l0 ++ marks) x = rd l0 x := by
    intro x h1 h2
    have := rd_app l0 marks x.toNat (by omega)
    rw [Int.toNat_of_nonneg h1] at this
    exact this
  have hrm : ∀ x : Int, (l0.length : Int) ≤ x → x < (l0.length : Int) + 24 → rd (l0 ++ marks) x = 8000024 + (x - (l0.length : Int)) ∧ quarrykit_mark.f 1 (x - (l0.length : Int)) = some (8000024 + (x - (l0.length : Int))) := by
    intro x h1 h2
    obtain ⟨j, hj⟩ : ∃ j : Nat, x = ((l0.length + j : Nat) : Int) := ⟨(x - (l0.length : Int)).toNat, by omega⟩
    have e1 := rd_mark l0 j (by omega)
    have e2 := mark_is j (by omega)
    rw [show x - (l0.length : Int) = (j : Int) from by omega, hj]
    exact ⟨e1, e2⟩
  generalize l0 ++ marks = LL at *
  clear hi0 hr0 hc0
  have HL := Aside0.mk hl
  have HCC := Aside0.mk hcc
  have HRD := Aside0.mk hrd
  have HRM := Aside0.mk hrm
  have HLEN := Aside0.mk hlen
  clear hl hcc hrd hrm hlen
  go_enter Try.func9, Try.ntmps9
  go_wp2
  have HB := Aside0.mk (Below.refl w.heap.size w)
  go_loopg [6] (LL.length + 1) (fun kq v6 w' => ∃ x : Int, v6 = .int .i64 x ∧ Aside0 (0 ≤ x ∧ x.toNat + kq = LL.length + 1) ∧ Aside0 (Below w.heap.size w w'))
  case atStart => exact ⟨0, rfl, ⟨by omega, by omega⟩, HB⟩
  case round =>
    clear HB
    obtain ⟨x, rfl, HK1, HB⟩ := hrel
    obtain ⟨h0, HK⟩ := HK1.out
    have hl := HL.out
    have hlen := HLEN.out
    by_cases c1 : x < (LL.length : Int)
    · obtain ⟨k1, rfl⟩ : ∃ k1, gk = k1 + 1 := ⟨gk - 1, by omega⟩
      have hw1 : IntKind.i64.wrap (x + 1) = x + 1 := by rw [IntKind.wrap_i64]; omega
      have c1b : decide (x < (LL.length : Int)) = true := decide_eq_true c1
      obtain ⟨ad0, e0, hx0⟩ := Kd.at_int HC x h0 c1
      cases e0
      replace hx0 := (HB.out.cell (World.block_lt_of_cell? w _ hx0)).trans hx0
      by_cases c2 : x < (l0.length : Int)
      · have c2b : decide (x < (l0.length : Int)) = true := decide_eq_true c2
        have c2c : decide ((l0.length : Int) ≤ x) = false := decide_eq_false (by omega)
        obtain ⟨ad1, e1, hx1⟩ := Kd.at_int hr1 x h0 c2
        cases e1
        replace hx1 := (HB.out.cell (World.block_lt_of_cell? w _ hx1)).trans hx1
        rw [HRD.out x h0 c2] at hx0
        have rel : 0 ≤ x + 1 ∧ (x + 1).toNat + k1 = LL.length + 1 := by omega
        have c1 := eq_true c1
        have c2 := eq_true c2
        have h0 := eq_true h0
        clear HK HK1 hl hlen
        have REL := Aside0.mk rel
        clear rel
        go_wp2
        go_region
        go_wp2
        go_roundg k1
        case measure => omega
        case rel => exact ⟨_, rfl, REL, ⟨below_drew1 HB.out⟩⟩
      · have c2b : decide (x < (l0.length : Int)) = false := decide_eq_false c2
        have c2c : decide ((l0.length : Int) ≤ x) = true := decide_eq_true (by omega)
        obtain ⟨m1, m2⟩ := HRM.out x (by omega) (by omega)
        obtain ⟨xm, hxm⟩ : ∃ y : Int, y = x - (l0.length : Int) := ⟨_, rfl⟩
        have hws : IntKind.i64.wrap (x - (l0.length : Int)) = xm := by rw [hxm, IntKind.wrap_i64]; omega
        rw [← hxm] at m1 m2
        obtain ⟨mv, hmv⟩ : ∃ y : Int, y = 8000024 + xm := ⟨_, rfl⟩
        rw [← hmv] at m1 m2
        rw [m1] at hx0
        have M2 := Aside0.mk m2
        have rel : 0 ≤ x + 1 ∧ (x + 1).toNat + k1 = LL.length + 1 := by omega
        have c1 := eq_true c1
        have h0 := eq_true h0
        clear HK HK1 hl hlen m1 m2 HRM HRD HLEN HL HCC c2 hxm hmv
        have REL := Aside0.mk rel
        clear rel
        go_wp2
        go_quiet ((go_at_call 17; exact Calls.quiet_of ((quarrykit_mark.calls 1 xm mv _ M2.out).mono (fun _ _ h => ⟨h.1, h.2.out⟩))))
        go_wp2
        go_roundg k1
        case measure => omega
        case rel => exact ⟨_, rfl, REL, ⟨pw_below_drewN HB.out _⟩⟩
    · have c1b : decide (x < (LL.length : Int)) = false := decide_eq_false c1
      clear HK hl hlen
      go_wp2
      go_ret
      exact ⟨rfl, HB.out⟩
end Go.Proofs.Ytahmpmlbonpabaa
