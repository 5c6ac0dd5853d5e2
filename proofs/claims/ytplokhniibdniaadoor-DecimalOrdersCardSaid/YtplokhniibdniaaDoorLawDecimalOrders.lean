/- DecimalOrders: for every input the call returns true, and each argument reads behind the call as it read before. Laid by wip/tools/grow.py out of the pure law and the printed walk. -/
import Derived.Test.YtplokhniibdniaaDoorCards
import Derived.Test.YtplokhniibdniaaDoorTie
import Derived.Deep.DeepHandedRow
import Derived.Lib.LaidTab
import Derived.Test.YtplokhniibdniaaDoorTabN
import Derived.Test.YtplokhniibdniaaDoorStatDecimalOrders
import Derived.Test.YtplokhniibdniaaDoorPureDecimalOrders
import Derived.Test.YtplokhniibdniaaDoorOp
import Derived.WalkKit
import Derived.ProofKit
import Derived.OpenShut
import Derived.ShutString
import Derived.ChangeOld
import Derived.Below
import Derived.SizedLaws
import Derived.Lib.SmallJoins
namespace Go.Proofs.YtplokhniibdniaaDoor.decimalOrders
open Go.ChangeShapes Go.WideShapes Go.ChangeAt Go.RowKit Go.Joins Go.Proofs.YtplokhniibdniaaDoorW.PrintWords Go.Proofs.YtplokhniibdniaaDoor.PDecimalOrders
open Go.ChangeMaps (open_string shut_string)
set_option linter.unusedVariables false
theorem own : ownKnob Tryd.prog.godebug = none := by kernel_rfl
theorem laidOut : laidOutB Tryd.prog = true := by kernel_rfl
theorem contract (H : Type) (enc : TypeId × Value → H) (W : World) (base : Nat) (args : Array Value) (ds gs : List (DataW H)) (before : List MemPlace)
    (hval0 : ∀ (j : Nat) t v, Tryd.f8.params[j]? = some t → args[j]? = some v → Value.okWide Tryd.prog W .any base t v)
    (hW : DataW.Whole enc Tryd.prog Tryd.f8.params.toList Rows.decimalOrdersSpec.vars false W args.toList ds gs before)
    (hsz : (DataW.weightsEach Tryd.prog (Tryd.f8.params.toList ++ Rows.decimalOrdersSpec.plain.varTypes Tryd.prog) (ds ++ gs)).all (· ≤ reachBytes) = true) (hL : laidMetH Tryd.prog Rows.decimalOrdersRow.laid W) :
    Calls Tryd.prog 8 args W fun e W' => ∃ v, e = .returned v ∧ Rows.decimalOrdersSpec.post enc Tryd.prog Tryd.f8 false true false false W args v W' := by
  have hT : TabW W := TabW.of_laid hL
  have hval : ∀ (j : Nat) t v, Tryd.f8.params[j]? = some t → args[j]? = some v → Value.okWide Tryd.prog W .any base t v := hval0
  have hW' := hW
  obtain ⟨p, q, hA0, hV, rfl, hfz, hnd⟩ := hW
  have hA : DataW.TrodAll enc Tryd.prog W 0 (fun _ => true) true Tryd.f8.params.toList args.toList ds p := hA0
  rw [Tryd.params8] at hA hval hsz
  obtain ⟨v0, vs0, d0, ds0, p0, q0, hargs, rfl, rfl, h0, r0⟩ := trodAll_cons hA
  obtain ⟨v1, vs1, d1, ds1, p1, q1, rfl, rfl, rfl, h1, r1⟩ := trodAll_cons r0
  obtain ⟨v2, vs2, d2, ds2, p2, q2, rfl, rfl, rfl, h2, r2⟩ := trodAll_cons r1
  obtain ⟨rfl, rfl, rfl⟩ := trodAll_nil r2
  obtain rfl : args = #[v0, v1, v2] := by cases args; simp_all
  obtain ⟨rfl, rfl⟩ := trodVars_none hV
  have k0 := h0
  have wt0 := wt_at hsz (j := 0) (t := 23) rfl rfl
  have lt0 : ∀ x ∈ p0, x.block < W.heap.size := by obtain ⟨m, hm⟩ := k0; exact DataW.trod_lt m _ _ _ hm
  obtain ⟨c0_0_, c0_1_, c0_2_, y0_0, y0_1, y0_2, m0, rfl, rfl, rfl, t0_0, t0_1, t0_2⟩ := open_agg3 Tryd.underlying23 (by kernel_rfl) (by kernel_rfl) (hval 0 23 v0 rfl rfl) h0
  obtain ⟨a0_0, e0_0, ok0_0⟩ := (opens_bool Tryd.underlying4) enc W _ _ _ _ _ t0_0 (wt_field Tryd.underlying23 wt0 (j := 0) rfl rfl)
  obtain rfl := (List.cons.inj e0_0).1
  obtain ⟨a0_1, e0_1, ok0_1⟩ := (opens_string Tryd.underlying9) enc W _ _ _ _ _ t0_1 (wt_field Tryd.underlying23 wt0 (j := 1) rfl rfl)
  obtain rfl := (List.cons.inj e0_1).1
  obtain ⟨a0_2, e0_2, ok0_2⟩ := (opens_int Tryd.underlying3) enc W _ _ _ _ _ t0_2 (wt_field Tryd.underlying23 wt0 (j := 2) rfl rfl)
  obtain rfl := (List.cons.inj e0_2).1
  have k1 := h1
  have wt1 := wt_at hsz (j := 1) (t := 23) rfl rfl
  have lt1 : ∀ x ∈ p1, x.block < W.heap.size := by obtain ⟨m, hm⟩ := k1; exact DataW.trod_lt m _ _ _ hm
  obtain ⟨c1_0_, c1_1_, c1_2_, y1_0, y1_1, y1_2, m1, rfl, rfl, rfl, t1_0, t1_1, t1_2⟩ := open_agg3 Tryd.underlying23 (by kernel_rfl) (by kernel_rfl) (hval 1 23 v1 rfl rfl) h1
  obtain ⟨a1_0, e1_0, ok1_0⟩ := (opens_bool Tryd.underlying4) enc W _ _ _ _ _ t1_0 (wt_field Tryd.underlying23 wt1 (j := 0) rfl rfl)
  obtain rfl := (List.cons.inj e1_0).1
  obtain ⟨a1_1, e1_1, ok1_1⟩ := (opens_string Tryd.underlying9) enc W _ _ _ _ _ t1_1 (wt_field Tryd.underlying23 wt1 (j := 1) rfl rfl)
  obtain rfl := (List.cons.inj e1_1).1
  obtain ⟨a1_2, e1_2, ok1_2⟩ := (opens_int Tryd.underlying3) enc W _ _ _ _ _ t1_2 (wt_field Tryd.underlying23 wt1 (j := 2) rfl rfl)
  obtain rfl := (List.cons.inj e1_2).1
  have k2 := h2
  have wt2 := wt_at hsz (j := 2) (t := 23) rfl rfl
  have lt2 : ∀ x ∈ p2, x.block < W.heap.size := by obtain ⟨m, hm⟩ := k2; exact DataW.trod_lt m _ _ _ hm
  obtain ⟨c2_0_, c2_1_, c2_2_, y2_0, y2_1, y2_2, m2, rfl, rfl, rfl, t2_0, t2_1, t2_2⟩ := open_agg3 Tryd.underlying23 (by kernel_rfl) (by kernel_rfl) (hval 2 23 v2 rfl rfl) h2
  obtain ⟨a2_0, e2_0, ok2_0⟩ := (opens_bool Tryd.underlying4) enc W _ _ _ _ _ t2_0 (wt_field Tryd.underlying23 wt2 (j := 0) rfl rfl)
  obtain rfl := (List.cons.inj e2_0).1
  obtain ⟨a2_1, e2_1, ok2_1⟩ := (opens_string Tryd.underlying9) enc W _ _ _ _ _ t2_1 (wt_field Tryd.underlying23 wt2 (j := 1) rfl rfl)
  obtain rfl := (List.cons.inj e2_1).1
  obtain ⟨a2_2, e2_2, ok2_2⟩ := (opens_int Tryd.underlying3) enc W _ _ _ _ _ t2_2 (wt_field Tryd.underlying23 wt2 (j := 2) rfl rfl)
  obtain rfl := (List.cons.inj e2_2).1
  have hp := Pure.DecimalOrders a0_0 a0_1 a0_2 a1_0 a1_1 a1_2 a2_0 a2_1 a2_2 ok0_1 ok0_2 ok1_1 ok1_2 ok2_1 ok2_2
  refine (quarrylaw11_DecimalOrders.calls a0_0 a0_1 a0_2 a1_0 a1_1 a1_2 a2_0 a2_1 a2_2 true W  hp hT).mono ?_
  rintro e W' ⟨rfl, hd⟩
  have bel : Below W.heap.size W W' := hd
  exact ⟨_, rfl, _, _, _, [], _, [], hW', trodAll_mk1 (shut_bool Tryd.underlying4 _), (trodAll_cons_mk (Below.trod laidOut (by kernel_rfl) (of_decide_eq_true (by kernel_rfl)) k0 bel lt0) (trodAll_cons_mk (Below.trod laidOut (by kernel_rfl) (of_decide_eq_true (by kernel_rfl)) k1 bel lt1) (trodAll_cons_mk (Below.trod laidOut (by kernel_rfl) (of_decide_eq_true (by kernel_rfl)) k2 bel lt2) trodAll_mk0))), rfl, bel.frame _, fun h => by cases h⟩
theorem laid_met (os : Os) : laidMet Tryd.prog Rows.decimalOrdersRow.laid ((TabW.laidWorld os).forCall (fun _ _ => 0) ⟨#[], #[.agg #[.bool false, .string ByteArray.empty, .int .i64 0], .agg #[.bool false, .string ByteArray.empty, .int .i64 0], .agg #[.bool false, .string ByteArray.empty, .int .i64 0]], []⟩).memory :=
  laidMet_of_run' 8 (by kernel_rfl) (by kernel_rfl)
theorem reads (os : Os) {H : Type} (enc : TypeId × Value → H) : ∃ places, DataW.whole enc Tryd.prog ((TabW.laidWorld os).forCall (fun _ _ => 0) ⟨#[], #[.agg #[.bool false, .string ByteArray.empty, .int .i64 0], .agg #[.bool false, .string ByteArray.empty, .int .i64 0], .agg #[.bool false, .string ByteArray.empty, .int .i64 0]], []⟩).memory Tryd.f8.params.toList Rows.decimalOrdersSpec.vars false (#[.agg #[.bool false, .string ByteArray.empty, .int .i64 0], .agg #[.bool false, .string ByteArray.empty, .int .i64 0], .agg #[.bool false, .string ByteArray.empty, .int .i64 0]] : Array Value).toList 8 = some ([.agg [.lit (.bool false), .lit (.string []), .lit (.int .i64 0)], .agg [.lit (.bool false), .lit (.string []), .lit (.int .i64 0)], .agg [.lit (.bool false), .lit (.string []), .lit (.int .i64 0)]], [], places) :=
  ⟨[], by kernel_rfl⟩
set_option maxRecDepth 100000 in
theorem lifted (os : Os) (started : os.Started) (H : Type) (enc : TypeId × Value → H) (F : Stop.Interp) :
    ReturnsInHanded {} Tryd.checked os 8 .any ((OpenSpec.ofChange Rows.decimalOrdersSpec).preRow enc Tryd.prog Tryd.f8 Rows.decimalOrdersRow.domain false Rows.decimalOrdersRow.laid) (((OpenSpec.ofChange Rows.decimalOrdersSpec).at F).post enc Tryd.prog Tryd.f8 false true false false) := by
  obtain ⟨places, hx⟩ := reads os enc
  refine returnsInHanded_of_row (C := Tryd.checked) (s := OpenSpec.ofChange Rows.decimalOrdersSpec) own started (by kernel_rfl) Tryd.func8
    (witness_row_at (enc := enc) (C := Tryd.checked) false (TabW.laidWorld os) #[.agg #[.bool false, .string ByteArray.empty, .int .i64 0], .agg #[.bool false, .string ByteArray.empty, .int .i64 0], .agg #[.bool false, .string ByteArray.empty, .int .i64 0]] rfl (by kernel_rfl) (by kernel_rfl) (by kernel_rfl)
      (OpenSpec.preRow_of_cond 8 hx (by kernel_rfl) (fun k hk => by cases hk) (by kernel_rfl) (laid_met os))) ?_
  intro W base args ds gs before hval hW _ _ hsz hL _ _
  exact contract H enc W base args ds gs before hval hW hsz hL
theorem said : Rows.DecimalOrdersSaid :=
  OpenClaim.holds_of_cond 8 Tryd.f8 rfl rfl rfl rfl rfl rfl rfl ⟨rfl, rfl, rfl, rfl, rfl⟩ rfl rfl rfl rfl rfl (by kernel_rfl) Tryd.func8 (by kernel_rfl)
    (of_decide_eq_true (by kernel_rfl)) (by unfold Func.isWrapper; first | (rw [if_pos (by decide +kernel)]; kernel_rfl) | (rw [if_neg (by decide +kernel)]; exact ⟨rfl, rfl⟩))
    (fun os started H enc _ F => by rw [OpenClaim.pre_eq_preRow]; exact lifted os started H enc F)
theorem plain (f : FuncId) (fn : Func) (hf : Tryd.pinned.checked.prog.funcNamed "quarry/quarrylaw11.DecimalOrders" = some f) (hfn : Tryd.pinned.checked.prog.funcs[f]? = some fn) :
    false = Tryd.pinned.checked.prog.looks [] ∧ ∀ (j : Nat) t, fn.params[j]? = some t → Tryd.pinned.checked.prog.wantsStandIn t = false := by
  obtain rfl : f = 8 := Option.some.inj ((show Tryd.prog.funcNamed "quarry/quarrylaw11.DecimalOrders" = some 8 by kernel_rfl).symm.trans hf) |>.symm
  obtain rfl : fn = Tryd.f8 := (Option.some.inj (Tryd.func8.symm.trans hfn)).symm
  refine ⟨by kernel_rfl, fun j t ht => ?_⟩
  rw [Tryd.params8] at ht
  have hm := Array.mem_of_getElem? ht
  simp only [List.mem_toArray, List.mem_cons, List.not_mem_nil, or_false] at hm
  rcases hm with rfl | rfl | rfl
  · exact (show Tryd.prog.wantsStandIn 23 = false by kernel_rfl)
  · exact (show Tryd.prog.wantsStandIn 23 = false by kernel_rfl)
  · exact (show Tryd.prog.wantsStandIn 23 = false by kernel_rfl)
theorem proved : Rows.DecimalOrdersCardSaid :=
  Claim7.holds_tied_plain_at .later [] _ _ _ _ said (fun _ h => by cases h) (by kernel_rfl) (fun _ h => by cases h) decimalOrders_row_tie rfl ⟨rfl, rfl⟩ (by kernel_rfl) rfl plain (by kernel_rfl)
#print axioms proved
end Go.Proofs.YtplokhniibdniaaDoor.decimalOrders
namespace Go.Proofs.YtplokhniibdniaaDoor
/-- The row, under a short name, for the claim. -/
theorem decimalOrders_holds : Rows.DecimalOrdersCardSaid := decimalOrders.proved
end Go.Proofs.YtplokhniibdniaaDoor
