/- TriePaths: for every input of bulk at most 1048576 the call returns true, and the argument reads behind the call as it read before. -/
import Derived.Test.YthlneooboiphdaaRows
import Derived.Test.YthlneooboiphdaaTriePathsPathsLaw
import Derived.Test.YthlneooboiphdaaOpB2
import Derived.WalkKit
import Derived.ProofKit
import Derived.OpenShut
import Derived.ShutString
import Derived.ChangeOld
import Derived.Below
import Derived.SizedLaws
import Derived.Lib.SmallJoins
import Derived.Deep.CondSized
import Derived.JoinedCond
namespace Go.Proofs.Ythlneooboiphdaa.triePaths
open Go.ChangeShapes Go.WideShapes Go.ChangeAt Go.RowKit Go.Joins Go.Proofs.YthlneooboiphdaaW.PrintWords Go.Proofs.Ythlneooboiphdaa.PTriePaths
open Go.ChangeMaps (open_string shut_string)
set_option linter.unusedVariables false
set_option linter.unusedSimpArgs false
theorem own : ownKnob Try.prog.godebug = none := by kernel_rfl
theorem laidOut : laidOutB Try.prog = true := by kernel_rfl
/-- A step, opened. -/
theorem bopensStep : BOpens Try.prog 53 k53 (fun s => s.f1.size + 1) := by
  intro H enc w base spare fuel cs y h
  obtain ⟨x0, x1, x2, c0, c1, c2, rfl, k0, k1, k2, hb⟩ := bopens_three Try.underlying53 rfl rfl rfl (by kernel_rfl) (by kernel_rfl) (by kernel_rfl) (by kernel_rfl) (bopens_int Try.underlying3) (bopens_string Try.underlying9) (bopens_int Try.underlying3) enc w base spare fuel cs y h
  refine ⟨⟨x0, x1, x2⟩, ⟨_, _, rfl, k0, ⟨_, _, rfl, k1, k2⟩⟩, ?_⟩
  show x1.size + 1 ≤ _
  omega
def mN (x : S50) : Nat := (x.f0.map (fun s : S53 => s.f1.size + 1)).sum + (x.f1.map (fun _ => 1)).sum + (x.f2.map (fun _ => 1)).sum + 1
/-- A node, opened. -/
theorem bopensNode : BOpens Try.prog 50 k50 mN := by
  intro H enc w base spare fuel cs y h
  obtain ⟨x0, x1, x2, c0, c1, c2, rfl, k0, k1, k2, hb⟩ := bopens_three Try.underlying50 rfl rfl rfl (by kernel_rfl) (by kernel_rfl) (by kernel_rfl) (by kernel_rfl)
    (bopens_slice Try.underlying45 (by kernel_rfl) bopensStep) (bopens_slice Try.underlying32 (by kernel_rfl) (bopens_int Try.underlying3)) (bopens_slice Try.underlying32 (by kernel_rfl) (bopens_int Try.underlying3)) enc w base spare fuel cs y h
  refine ⟨⟨x0, x1, x2⟩, ⟨_, _, rfl, k0, ⟨_, _, rfl, k1, k2⟩⟩, ?_⟩
  show (x0.map (fun s : S53 => s.f1.size + 1)).sum + (x1.map (fun _ => 1)).sum + (x2.map (fun _ => 1)).sum + 1 ≤ _
  omega
theorem mem_sum {α : Type} {m : α → Nat} : ∀ {l : List α} {x : α}, x ∈ l → m x ≤ (l.map m).sum
  | y :: l, x, h => by
    rw [List.map_cons, List.sum_cons]
    rcases List.mem_cons.1 h with rfl | h
    · omega
    · have := mem_sum (m := m) h
      omega
theorem len_sum {α : Type} {m : α → Nat} (hm : ∀ x, 1 ≤ m x) : ∀ (l : List α), l.length ≤ (l.map m).sum
  | [] => Nat.zero_le _
  | y :: l => by
    rw [List.map_cons, List.sum_cons, List.length_cons]
    have := len_sum hm l
    have := hm y
    omega
theorem flat_sum {α : Type} {m : α → Nat} (g : α → List Int) (hm : ∀ x, (g x).length ≤ m x) : ∀ (l : List α), (l.flatMap g).length ≤ (l.map m).sum
  | [] => Nat.zero_le _
  | y :: l => by
    rw [List.map_cons, List.sum_cons, List.flatMap_cons, List.length_append]
    have := flat_sum g hm l
    have := hm y
    omega
theorem small_of (t : List S50) (h : (t.map mN).sum ≤ 1048576) : SmallT t := by
  have m1 : ∀ x : S50, x.f1.length ≤ mN x := fun x => by
    have := len_sum (m := fun _ : Int => 1) (fun _ => Nat.le_refl _) x.f1
    unfold mN
    omega
  have m2 : ∀ x : S50, x.f2.length ≤ mN x := fun x => by
    have := len_sum (m := fun _ : Int => 1) (fun _ => Nat.le_refl _) x.f2
    unfold mN
    omega
  have m0 : ∀ x : S50, x.f0.length ≤ mN x := fun x => by
    have := len_sum (m := fun s : S53 => s.f1.size + 1) (fun _ => Nat.le_add_left _ _) x.f0
    unfold mN
    omega
  refine ⟨?_, fun x hx => ?_, ?_, ?_⟩
  · have := len_sum (m := mN) (fun x => by unfold mN; omega) t
    omega
  · have hx1 := mem_sum (m := mN) hx
    have a0 := m0 x
    have a1 := m1 x
    have a2 := m2 x
    refine ⟨by omega, by omega, by omega, fun s hs => ?_⟩
    have h2 : s.f1.size + 1 ≤ (x.f0.map (fun s : S53 => s.f1.size + 1)).sum := mem_sum (m := fun s : S53 => s.f1.size + 1) hs
    have h3 : (x.f0.map (fun s : S53 => s.f1.size + 1)).sum ≤ mN x := by unfold mN; omega
    omega
  · unfold endS
    rw [List.take_length]
    have := flat_sum (m := mN) (fun x => x.f2) m2 t
    omega
  · unfold toS
    rw [List.take_length]
    have := flat_sum (m := mN) (fun x => x.f1) m1 t
    omega
set_option maxRecDepth 100000 in
set_option maxHeartbeats 1000000 in
theorem lifted (os : Os) (started : os.Started) (H : Type) (enc : TypeId × Value → H) (F : Stop.Interp) :
    ReturnsInHanded {} Try.checked os 5 .any ((Rows.OpenSpec.upto Rows.triePathsSpec).pre6 enc Try.prog Try.f5 Rows.triePathsUptoRow.domain false) (((Rows.OpenSpec.upto Rows.triePathsSpec).at F).post enc Try.prog Try.f5 false true false false) := by
  refine returnsInHanded_of_cond_sized (C := Try.checked) (s := Rows.OpenSpec.upto Rows.triePathsSpec) (k := Rows.uptoSmall) rfl own started (by kernel_rfl) Try.func5
    (OpenSpec.witness (enc := enc) (C := Try.checked) (s := Rows.OpenSpec.upto Rows.triePathsSpec) (k := Rows.uptoSmall) rfl false ⟨#[], #[.slice none 0 0], []⟩ 8 (by kernel_rfl) (by kernel_rfl) (by kernel_rfl)
      (x := ([.nil], [], [])) (by kernel_rfl) (by kernel_rfl) (by kernel_rfl)) ?_
  intro W base args ds gs before hval0 hW _ hk hsz0 _
  have hval := hval0
  have hW' := hW
  obtain ⟨p, q, hA0, hV, rfl, hfz, hnd⟩ := hW
  have hA : DataW.TrodAll enc Try.prog W 0 (fun _ => true) true Try.f5.params.toList args.toList ds p := hA0
  rw [Try.params5] at hA hval
  obtain ⟨v0, vs0, d0, ds0, p0, q0, hargs, rfl, rfl, h0, r0⟩ := trodAll_cons hA
  obtain ⟨rfl, rfl, rfl⟩ := trodAll_nil r0
  obtain rfl : args = #[v0] := by cases args; simp_all
  obtain ⟨rfl, rfl⟩ := trodVars_none hV
  have k0 := h0
  have lt0 : ∀ x ∈ p0, x.block < W.heap.size := by obtain ⟨m, hm⟩ := k0; exact DataW.trod_lt m _ _ _ hm
  obtain ⟨s0, len0, cap0, rfl⟩ := okWide_slice Try.underlying23 (hval 0 23 v0 rfl rfl)
  obtain ⟨fu0, hf0⟩ := h0
  obtain ⟨l0, ⟨A0, c0, e0, hc0, hr0⟩, ok0⟩ := (bopens_slice Try.underlying23 (by kernel_rfl) bopensNode) enc W _ _ _ _ _ hf0
  obtain ⟨rfl, rfl, rfl⟩ : s0 = A0 ∧ len0 = l0.length ∧ cap0 = c0 := by simpa [Value.cells] using e0
  have ok0' : (l0.map mN).sum + 1 ≤ Rows.uptoBulk d0 := ok0
  have hcond := of_decide_eq_true hk
  simp only [List.append_nil, List.cons_append, List.nil_append, Rows.uptoBulkAll] at hcond
  obtain ⟨kk, hpure⟩ := triePaths_pure l0 (small_of l0 (by omega))
  refine (quarrylaw23_TriePaths.calls kk s0 cap0 l0 true W hr0 hc0 hpure).mono ?_
  rintro e W' ⟨rfl, bel⟩
  exact ⟨_, rfl, _, _, _, [], _, [], hW', trodAll_mk1 (shut_bool Try.underlying4 _), (trodAll_cons_mk (Below.trod laidOut (by kernel_rfl) (of_decide_eq_true (by kernel_rfl)) k0 bel lt0) trodAll_mk0), rfl, bel.frame _, fun h => by cases h⟩
theorem over : Rows.triePathsUptoRow.holds Try.pinned (Rows.OpenSpec.upto Rows.triePathsSpec) :=
  OpenClaim.holds_of_cond 5 Try.f5 rfl rfl rfl rfl rfl rfl rfl ⟨rfl, rfl, rfl, rfl, rfl⟩ rfl rfl rfl rfl rfl (by kernel_rfl) Try.func5 (by kernel_rfl)
    (of_decide_eq_true (by kernel_rfl)) (by unfold Func.isWrapper; first | (rw [if_pos (by decide +kernel)]; kernel_rfl) | (rw [if_neg (by decide +kernel)]; exact ⟨rfl, rfl⟩))
    (fun os started H enc _ F => lifted os started H enc F)
theorem proved : Rows.TriePathsUptoSaid := over
#print axioms proved
end Go.Proofs.Ythlneooboiphdaa.triePaths
namespace Go.Proofs.Ythlneooboiphdaa
/-- The row, under a short name, for the claim. -/
theorem triePaths_holds : Rows.TriePathsUptoSaid := triePaths.proved
end Go.Proofs.Ythlneooboiphdaa
