/- DecimalCompares: for every input the call returns true, and each argument reads behind the call as it read before. Laid by wip/tools/grow.py out of the pure law and the printed walk. -/
import Derived.Test.YtplokhniibdniaaRows
import Derived.Test.YtplokhniibdniaaStatDecimalCompares
import Derived.Test.YtplokhniibdniaaPureDecimalCompares
import Derived.Test.YtplokhniibdniaaOp
import Derived.WalkKit
import Derived.ProofKit
import Derived.OpenShut
import Derived.ShutString
import Derived.ChangeOld
import Derived.Below
import Derived.SizedLaws
import Derived.Lib.SmallJoins
namespace Go.Proofs.Ytplokhniibdniaa.decimalCompares
open Go.ChangeShapes Go.WideShapes Go.ChangeAt Go.RowKit Go.Joins Go.Proofs.YtplokhniibdniaaW.PrintWords Go.Proofs.Ytplokhniibdniaa.PDecimalCompares
open Go.ChangeMaps (open_string shut_string)
set_option linter.unusedVariables false
theorem own : ownKnob Try.prog.godebug = none := by kernel_rfl
theorem laidOut : laidOutB Try.prog = true := by kernel_rfl
set_option maxRecDepth 100000 in
set_option maxHeartbeats 1000000 in
theorem lifted (os : Os) (started : os.Started) (H : Type) (enc : TypeId × Value → H) :
    ReturnsInHanded {} Try.checked os 3 .any (Rows.decimalComparesSpec.pre6 enc Try.prog Try.f3 Rows.decimalComparesRow.domain false) (Rows.decimalComparesSpec.post enc Try.prog Try.f3 false true false false) := by
  refine returnsInHanded_of_change_sized (C := Try.checked) own started (by kernel_rfl) Try.func3
    (ChangeSpec.witness6 (enc := enc) (C := Try.checked) false ⟨#[], #[.agg #[.bool false, .string ByteArray.empty, .int .i64 0], .agg #[.bool false, .string ByteArray.empty, .int .i64 0]], []⟩ 8 (by kernel_rfl) (by kernel_rfl) (by kernel_rfl) (by kernel_rfl)) ?_
  intro W base args ds gs before hval0 hW hcnd hsz0 _
  have hsz : (DataW.weightsEach Try.prog (Try.f3.params.toList ++ Rows.decimalComparesSpec.plain.varTypes Try.prog) (ds ++ gs)).all (· ≤ reachBytes) = true := hsz0
  have hval : ∀ (j : Nat) t v, Try.f3.params[j]? = some t → args[j]? = some v → Value.okWide Try.prog W .any base t v := hval0
  have hW' := hW
  obtain ⟨p, q, hA0, hV, rfl, hfz, hnd⟩ := hW
  have hA : DataW.TrodAll enc Try.prog W 0 (fun _ => true) true Try.f3.params.toList args.toList ds p := hA0
  rw [Try.params3] at hA hval hsz
  obtain ⟨v0, vs0, d0, ds0, p0, q0, hargs, rfl, rfl, h0, r0⟩ := trodAll_cons hA
  obtain ⟨v1, vs1, d1, ds1, p1, q1, rfl, rfl, rfl, h1, r1⟩ := trodAll_cons r0
  obtain ⟨rfl, rfl, rfl⟩ := trodAll_nil r1
  obtain rfl : args = #[v0, v1] := by cases args; simp_all
  obtain ⟨rfl, rfl⟩ := trodVars_none hV
  have k0 := h0
  have wt0 := wt_at hsz (j := 0) (t := 23) rfl rfl
  have lt0 : ∀ x ∈ p0, x.block < W.heap.size := by obtain ⟨m, hm⟩ := k0; exact DataW.trod_lt m _ _ _ hm
  obtain ⟨c0_0_, c0_1_, c0_2_, y0_0, y0_1, y0_2, m0, rfl, rfl, rfl, t0_0, t0_1, t0_2⟩ := open_agg3 Try.underlying23 (by kernel_rfl) (by kernel_rfl) (hval 0 23 v0 rfl rfl) h0
  obtain ⟨a0_0, e0_0, ok0_0⟩ := (opens_bool Try.underlying4) enc W _ _ _ _ _ t0_0 (wt_field Try.underlying23 wt0 (j := 0) rfl rfl)
  obtain rfl := (List.cons.inj e0_0).1
  obtain ⟨a0_1, e0_1, ok0_1⟩ := (opens_string Try.underlying9) enc W _ _ _ _ _ t0_1 (wt_field Try.underlying23 wt0 (j := 1) rfl rfl)
  obtain rfl := (List.cons.inj e0_1).1
  obtain ⟨a0_2, e0_2, ok0_2⟩ := (opens_int Try.underlying3) enc W _ _ _ _ _ t0_2 (wt_field Try.underlying23 wt0 (j := 2) rfl rfl)
  obtain rfl := (List.cons.inj e0_2).1
  have k1 := h1
  have wt1 := wt_at hsz (j := 1) (t := 23) rfl rfl
  have lt1 : ∀ x ∈ p1, x.block < W.heap.size := by obtain ⟨m, hm⟩ := k1; exact DataW.trod_lt m _ _ _ hm
  obtain ⟨c1_0_, c1_1_, c1_2_, y1_0, y1_1, y1_2, m1, rfl, rfl, rfl, t1_0, t1_1, t1_2⟩ := open_agg3 Try.underlying23 (by kernel_rfl) (by kernel_rfl) (hval 1 23 v1 rfl rfl) h1
  obtain ⟨a1_0, e1_0, ok1_0⟩ := (opens_bool Try.underlying4) enc W _ _ _ _ _ t1_0 (wt_field Try.underlying23 wt1 (j := 0) rfl rfl)
  obtain rfl := (List.cons.inj e1_0).1
  obtain ⟨a1_1, e1_1, ok1_1⟩ := (opens_string Try.underlying9) enc W _ _ _ _ _ t1_1 (wt_field Try.underlying23 wt1 (j := 1) rfl rfl)
  obtain rfl := (List.cons.inj e1_1).1
  obtain ⟨a1_2, e1_2, ok1_2⟩ := (opens_int Try.underlying3) enc W _ _ _ _ _ t1_2 (wt_field Try.underlying23 wt1 (j := 2) rfl rfl)
  obtain rfl := (List.cons.inj e1_2).1
  obtain ⟨k, hp⟩ := Pure.DecimalCompares a0_0 a0_1 a0_2 a1_0 a1_1 a1_2 ok0_1 ok0_2 ok1_1 ok1_2
  refine (quarrylaw11_DecimalCompares.calls k a0_0 a0_1 a0_2 a1_0 a1_1 a1_2 true W  hp).mono ?_
  rintro e W' ⟨rfl, hd⟩
  have bel : Below W.heap.size W W' := hd
  exact ⟨_, rfl, _, _, _, [], _, [], hW', trodAll_mk1 (shut_bool Try.underlying4 _), (trodAll_cons_mk (Below.trod laidOut (by kernel_rfl) (of_decide_eq_true (by kernel_rfl)) k0 bel lt0) (trodAll_cons_mk (Below.trod laidOut (by kernel_rfl) (of_decide_eq_true (by kernel_rfl)) k1 bel lt1) trodAll_mk0)), rfl, bel.frame _, fun h => by cases h⟩
theorem over : Rows.decimalComparesRow.holds Try.pinned (OpenSpec.ofChange Rows.decimalComparesSpec) :=
  OpenClaim.holds_of_wide 3 Try.f3 rfl rfl rfl rfl rfl rfl rfl ⟨rfl, rfl, rfl, rfl, rfl⟩ rfl rfl rfl rfl rfl (by kernel_rfl) Try.func3 (by kernel_rfl)
    (of_decide_eq_true (by kernel_rfl)) (by unfold Func.isWrapper; first | (rw [if_pos (by decide +kernel)]; kernel_rfl) | (rw [if_neg (by decide +kernel)]; exact ⟨rfl, rfl⟩))
    (fun os started H enc _ => lifted os started H enc)
theorem proved : Rows.DecimalComparesSaid := over
#print axioms proved
end Go.Proofs.Ytplokhniibdniaa.decimalCompares
namespace Go.Proofs.Ytplokhniibdniaa
/-- The row, under a short name, for the claim. -/
theorem decimalCompares_holds : Rows.DecimalComparesSaid := decimalCompares.proved
end Go.Proofs.Ytplokhniibdniaa
