/- BitmapMakes: for every input the call returns true, and each argument reads behind the call as it read before. Laid by wip/tools/grow.py out of the pure law and the printed walk. -/
import Derived.Test.YtahmpmlbonpabaaRows
import Derived.Test.YtahmpmlbonpabaaStatBitmapMakes
import Derived.Test.YtahmpmlbonpabaaPureBitmapMakes
import Derived.Test.YtahmpmlbonpabaaOp
import Derived.WalkKit
import Derived.ProofKit
import Derived.OpenShut
import Derived.ShutString
import Derived.ChangeOld
import Derived.Below
import Derived.SizedLaws
import Derived.Lib.SmallJoins
namespace Go.Proofs.Ytahmpmlbonpabaa.bitmapMakes
open Go.ChangeShapes Go.WideShapes Go.ChangeAt Go.RowKit Go.Joins Go.Proofs.YtahmpmlbonpabaaW.PrintWords Go.Proofs.Ytahmpmlbonpabaa.PBitmapMakes
open Go.ChangeMaps (open_string shut_string)
set_option linter.unusedVariables false
theorem own : ownKnob Try.prog.godebug = none := by kernel_rfl
theorem laidOut : laidOutB Try.prog = true := by kernel_rfl
set_option maxRecDepth 100000 in
set_option maxHeartbeats 1000000 in
theorem lifted (os : Os) (started : os.Started) (H : Type) (enc : TypeId × Value → H) :
    ReturnsInHanded {} Try.checked os 3 .any (Rows.bitmapMakesSpec.pre6 enc Try.prog Try.f3 Rows.bitmapMakesRow.domain false) (Rows.bitmapMakesSpec.post enc Try.prog Try.f3 false true false false) := by
  refine returnsInHanded_of_change_sized (C := Try.checked) own started (by kernel_rfl) Try.func3
    (ChangeSpec.witness6 (enc := enc) (C := Try.checked) false ⟨#[], #[.int .i64 0, .slice none 0 0, .agg #[.int .i64 0, .slice none 0 0]], []⟩ 8 (by kernel_rfl) (by kernel_rfl) (by kernel_rfl) (by kernel_rfl)) ?_
  intro W base args ds gs before hval0 hW hcnd hsz0 _
  have hsz : (DataW.weightsEach Try.prog (Try.f3.params.toList ++ Rows.bitmapMakesSpec.plain.varTypes Try.prog) (ds ++ gs)).all (· ≤ reachBytes) = true := hsz0
  have hval := hval0
  have hW' := hW
  obtain ⟨p, q, hA0, hV, rfl, hfz, hnd⟩ := hW
  have hA : DataW.TrodAll enc Try.prog W 0 (fun _ => true) true Try.f3.params.toList args.toList ds p := hA0
  rw [Try.params3] at hA hval hsz
  obtain ⟨v0, vs0, d0, ds0, p0, q0, hargs, rfl, rfl, h0, r0⟩ := trodAll_cons hA
  obtain ⟨v1, vs1, d1, ds1, p1, q1, rfl, rfl, rfl, h1, r1⟩ := trodAll_cons r0
  obtain ⟨v2, vs2, d2, ds2, p2, q2, rfl, rfl, rfl, h2, r2⟩ := trodAll_cons r1
  obtain ⟨rfl, rfl, rfl⟩ := trodAll_nil r2
  obtain rfl : args = #[v0, v1, v2] := by cases args; simp_all
  obtain ⟨rfl, rfl⟩ := trodVars_none hV
  have k0 := h0
  have wt0 := wt_at hsz (j := 0) (t := 3) rfl rfl
  have lt0 : ∀ x ∈ p0, x.block < W.heap.size := by obtain ⟨m, hm⟩ := k0; exact DataW.trod_lt m _ _ _ hm
  obtain ⟨a0, rfl, rfl, rfl, ok0⟩ := open_int Try.underlying3 (hval 0 3 v0 rfl rfl) h0
  have k1 := h1
  have wt1 := wt_at hsz (j := 1) (t := 22) rfl rfl
  have lt1 : ∀ x ∈ p1, x.block < W.heap.size := by obtain ⟨m, hm⟩ := k1; exact DataW.trod_lt m _ _ _ hm
  obtain ⟨s1, len1, cap1, rfl⟩ := okWide_slice Try.underlying22 (hval 1 22 v1 rfl rfl)
  obtain ⟨fu1, hf1⟩ := h1
  obtain ⟨l1, ⟨A1, c1, e1, hc1, hr1⟩, ok1⟩ := (opens_slice Try.underlying22 (by kernel_rfl) (by kernel_rfl) (opens_int Try.underlying3)) enc W _ _ _ _ _ hf1 wt1
  obtain ⟨rfl, rfl, rfl⟩ : s1 = A1 ∧ len1 = l1.length ∧ cap1 = c1 := by simpa [Value.cells] using e1
  have k2 := h2
  have wt2 := wt_at hsz (j := 2) (t := 25) rfl rfl
  have lt2 : ∀ x ∈ p2, x.block < W.heap.size := by obtain ⟨m, hm⟩ := k2; exact DataW.trod_lt m _ _ _ hm
  obtain ⟨c2_0_, c2_1_, y2_0, y2_1, m2, rfl, rfl, rfl, t2_0, t2_1⟩ := open_agg2 Try.underlying25 (by kernel_rfl) (by kernel_rfl) (hval 2 25 v2 rfl rfl) h2
  obtain ⟨a2_0, e2_0, ok2_0⟩ := (opens_int Try.underlying3) enc W _ _ _ _ _ t2_0 (wt_field Try.underlying25 wt2 (j := 0) rfl rfl)
  obtain rfl := (List.cons.inj e2_0).1
  obtain ⟨l2_1, ⟨A2_1, c2_1, e2_1, hc2_1, hr2_1⟩, ok2_1⟩ := (opens_slice Try.underlying23 (by kernel_rfl) (by kernel_rfl) (opens_int Try.underlying35)) enc W _ _ _ _ _ t2_1 (wt_field Try.underlying25 wt2 (j := 1) rfl rfl)
  obtain rfl := (List.cons.inj e2_1).1
  obtain ⟨k, hp⟩ := Pure.BitmapMakes a0 l1 a2_0 l2_1 ok0 ok1 ok2_0 ok2_1
  refine (quarrylaw04_BitmapMakes.calls k a0 _ _ l1 a2_0 _ _ l2_1 true W hr1 hc1 hr2_1 hc2_1 hp).mono ?_
  rintro e W' ⟨rfl, hd⟩
  have bel : Below W.heap.size W W' := hd
  exact ⟨_, rfl, _, _, _, [], _, [], hW', trodAll_mk1 (shut_bool Try.underlying4 _), (trodAll_cons_mk (Below.trod laidOut (by kernel_rfl) (of_decide_eq_true (by kernel_rfl)) k0 bel lt0) (trodAll_cons_mk (Below.trod laidOut (by kernel_rfl) (of_decide_eq_true (by kernel_rfl)) k1 bel lt1) (trodAll_cons_mk (Below.trod laidOut (by kernel_rfl) (of_decide_eq_true (by kernel_rfl)) k2 bel lt2) trodAll_mk0))), rfl, bel.frame _, fun h => by cases h⟩
theorem over : Rows.bitmapMakesRow.holds Try.pinned (OpenSpec.ofChange Rows.bitmapMakesSpec) :=
  OpenClaim.holds_of_wide 3 Try.f3 rfl rfl rfl rfl rfl rfl rfl ⟨rfl, rfl, rfl, rfl, rfl⟩ rfl rfl rfl rfl rfl (by kernel_rfl) Try.func3 (by kernel_rfl)
    (of_decide_eq_true (by kernel_rfl)) (by unfold Func.isWrapper; first | (rw [if_pos (by decide +kernel)]; kernel_rfl) | (rw [if_neg (by decide +kernel)]; exact ⟨rfl, rfl⟩))
    (fun os started H enc _ => lifted os started H enc)
theorem proved : Rows.BitmapMakesSaid := over
#print axioms proved
end Go.Proofs.Ytahmpmlbonpabaa.bitmapMakes
namespace Go.Proofs.Ytahmpmlbonpabaa
/-- The row, under a short name, for the claim. -/
theorem bitmapMakes_holds : Rows.BitmapMakesSaid := bitmapMakes.proved
end Go.Proofs.Ytahmpmlbonpabaa
