/- TrieShares: for every input of bulk at most 1048576 the call returns true, and the argument reads behind the call as it read before. -/
import Derived.Test.YthlneooboiphdaaRows
import Derived.Test.YthlneooboiphdaaTrieSharesSharesLaw
import Derived.Test.YthlneooboiphdaaOpB
import Derived.WalkKit
import Derived.ProofKit
import Derived.OpenShut
import Derived.ShutString
import Derived.ChangeOld
import Derived.Below
import Derived.SizedLaws
import Derived.Lib.SmallJoins
import Derived.Deep.CondSized
import Derived.JoinedCond
namespace Go.Proofs.Ythlneooboiphdaa.trieShares
open Go.ChangeShapes Go.WideShapes Go.ChangeAt Go.RowKit Go.Joins Go.Proofs.YthlneooboiphdaaW.PrintWords Go.Proofs.Ythlneooboiphdaa.PTrieShares
open Go.ChangeMaps (open_string shut_string)
set_option linter.unusedVariables false
set_option linter.unusedSimpArgs false
theorem own : ownKnob Try.prog.godebug = none := by kernel_rfl
theorem laidOut : laidOutB Try.prog = true := by kernel_rfl
/-- A step, opened. -/
theorem bopensStep : BOpens Try.prog 53 k53 (fun s => s.f1.size + 1) := by
  intro H enc w base spare fuel cs y h
  obtain ⟨x0, x1, x2, c0, c1, c2, rfl, k0, k1, k2, hb⟩ := bopens_three Try.underlying53 rfl rfl rfl (by kernel_rfl) (by kernel_rfl) (by kernel_rfl) (by kernel_rfl) (bopens_int Try.underlying3) (bopens_string Try.underlying9) (bopens_int Try.underlying3) enc w base spare fuel cs y h
  refine ⟨⟨x0, x1, x2⟩, ⟨_, _, rfl, k0, ⟨_, _, rfl, k1, k2⟩⟩, ?_⟩
  show x1.size + 1 ≤ _
  omega
theorem mem_sum {α : Type} {m : α → Nat} : ∀ {l : List α} {x : α}, x ∈ l → m x ≤ (l.map m).sum
  | y :: l, x, h => by
    rw [List.map_cons, List.sum_cons]
    rcases List.mem_cons.1 h with rfl | h
    · omega
    · have := mem_sum (m := m) h
      omega
theorem len_sum {α : Type} {m : α → Nat} (hm : ∀ x, 1 ≤ m x) : ∀ (l : List α), l.length ≤ (l.map m).sum
  | [] => Nat.zero_le _
  | y :: l => by
    rw [List.map_cons, List.sum_cons, List.length_cons]
    have := len_sum hm l
    have := hm y
    omega
theorem tot_sum (l : List (List S53)) (m : List S53 → Nat) (hm : ∀ p, p.length ≤ m p) : ∀ n, n ≤ l.length → totP l n ≤ ((l.take n).map m).sum
  | 0, _ => Nat.zero_le _
  | n + 1, h => by
    have ih := tot_sum l m hm n (by omega)
    rw [List.take_succ_eq_append_getElem (by omega), List.map_append, List.sum_append]
    have hr : rdP l n = l[n] := by unfold rdP; rw [List.getD_eq_getElem?_getD, List.getElem?_eq_getElem (by omega)]; rfl
    have := hm l[n]
    simp only [totP, List.map_cons, List.map_nil, List.sum_cons, List.sum_nil]
    rw [hr]
    omega
set_option maxRecDepth 100000 in
set_option maxHeartbeats 1000000 in
theorem lifted (os : Os) (started : os.Started) (H : Type) (enc : TypeId × Value → H) (F : Stop.Interp) :
    ReturnsInHanded {} Try.checked os 7 .any ((Rows.OpenSpec.upto Rows.trieSharesSpec).pre6 enc Try.prog Try.f7 Rows.trieSharesUptoRow.domain false) (((Rows.OpenSpec.upto Rows.trieSharesSpec).at F).post enc Try.prog Try.f7 false true false false) := by
  refine returnsInHanded_of_cond_sized (C := Try.checked) (s := Rows.OpenSpec.upto Rows.trieSharesSpec) (k := Rows.uptoSmall) rfl own started (by kernel_rfl) Try.func7
    (OpenSpec.witness (enc := enc) (C := Try.checked) (s := Rows.OpenSpec.upto Rows.trieSharesSpec) (k := Rows.uptoSmall) rfl false ⟨#[], #[.slice none 0 0, .int .i64 0], []⟩ 8 (by kernel_rfl) (by kernel_rfl) (by kernel_rfl)
      (x := ([.nil, .lit (.int .i64 0)], [], [])) (by kernel_rfl) (by kernel_rfl) (by kernel_rfl)) ?_
  intro W base args ds gs before hval0 hW _ hk hsz0 _
  have hval := hval0
  have hW' := hW
  obtain ⟨p, q, hA0, hV, rfl, hfz, hnd⟩ := hW
  have hA : DataW.TrodAll enc Try.prog W 0 (fun _ => true) true Try.f7.params.toList args.toList ds p := hA0
  rw [Try.params7] at hA hval
  obtain ⟨v0, vs0, d0, ds0, p0, q0, hargs, rfl, rfl, h0, r0⟩ := trodAll_cons hA
  obtain ⟨v1, vs1, d1, ds1, p1, q1, rfl, rfl, rfl, h1, r1⟩ := trodAll_cons r0
  obtain ⟨rfl, rfl, rfl⟩ := trodAll_nil r1
  obtain rfl : args = #[v0, v1] := by cases args; simp_all
  obtain ⟨rfl, rfl⟩ := trodVars_none hV
  have k0 := h0
  have lt0 : ∀ x ∈ p0, x.block < W.heap.size := by obtain ⟨m, hm⟩ := k0; exact DataW.trod_lt m _ _ _ hm
  obtain ⟨s0, len0, cap0, rfl⟩ := okWide_slice Try.underlying22 (hval 0 22 v0 rfl rfl)
  obtain ⟨fu0, hf0⟩ := h0
  obtain ⟨l0, ⟨A0, c0, e0, hc0, hr0⟩, ok0⟩ := (bopens_slice Try.underlying22 (by kernel_rfl) (bopens_slice Try.underlying45 (by kernel_rfl) bopensStep)) enc W _ _ _ _ _ hf0
  obtain ⟨rfl, rfl, rfl⟩ : s0 = A0 ∧ len0 = l0.length ∧ cap0 = c0 := by simpa [Value.cells] using e0
  have ok1 : (l0.map (fun p => (p.map (fun s : S53 => s.f1.size + 1)).sum + 1)).sum + 1 ≤ Rows.uptoBulk d0 := ok0
  have k1 := h1
  have lt1 : ∀ x ∈ p1, x.block < W.heap.size := by obtain ⟨m, hm⟩ := k1; exact DataW.trod_lt m _ _ _ hm
  obtain ⟨a1, rfl⟩ := okWide_int Try.underlying3 (hval 1 3 v1 rfl rfl)
  have hcond := of_decide_eq_true hk
  simp only [List.append_nil, List.cons_append, List.nil_append, Rows.uptoBulkAll] at hcond
  have hsum : (l0.map (fun p => (p.map (fun s : S53 => s.f1.size + 1)).sum + 1)).sum + 1 ≤ 1048576 := by omega
  have hp : ∀ p ∈ l0, (p.map (fun s : S53 => s.f1.size + 1)).sum + 1 ≤ 1048576 := fun p hp => by
    have := mem_sum (m := fun p => (p.map (fun s : S53 => s.f1.size + 1)).sum + 1) hp
    omega
  have hpl : ∀ p : List S53, p.length ≤ (p.map (fun s : S53 => s.f1.size + 1)).sum := fun p => len_sum (fun _ => Nat.le_add_left _ _) p
  have hsm : SmallL l0 := by
    refine ⟨fun p hpm => ⟨?_, fun s hs => ?_⟩, ?_, ?_⟩
    · have h1 := hp p hpm
      have h2 := hpl p
      omega
    · have h1 := hp p hpm
      have h2 := mem_sum (m := fun s : S53 => s.f1.size + 1) hs
      omega
    · have h1 := tot_sum l0 (fun p => (p.map (fun s : S53 => s.f1.size + 1)).sum + 1) (fun p => Nat.le_trans (hpl p) (Nat.le_add_right _ _)) l0.length (Nat.le_refl _)
      rw [List.take_length] at h1
      omega
    · have h1 := len_sum (m := fun p : List S53 => (p.map (fun s : S53 => s.f1.size + 1)).sum + 1) (fun _ => Nat.le_add_left _ _) l0
      omega
  obtain ⟨kk, hpure⟩ := trieShares_pure l0 a1 hsm
  have hheap : Kd.Heap (Kd.slice 53 k53) := Kd.heap_slice 53 (Kd.heap_iso _ (Kd.heap_pair (Kd.heap_int .i64) (Kd.heap_pair Kd.heap_string (Kd.heap_int .i64))))
  refine (quarrylaw23_TrieShares.calls kk (fun k_ => k_ < W.heap.size) s0 cap0 l0 a1 true W (Kd.V_mk hc0 (Kd.C_F hheap hr0)) hpure).mono ?_
  rintro e W' ⟨rfl, bel⟩
  exact ⟨_, rfl, _, _, _, [], _, [], hW', trodAll_mk1 (shut_bool Try.underlying4 _), (trodAll_cons_mk (Below.trod laidOut (by kernel_rfl) (of_decide_eq_true (by kernel_rfl)) k0 bel lt0) (trodAll_cons_mk (Below.trod laidOut (by kernel_rfl) (of_decide_eq_true (by kernel_rfl)) k1 bel lt1) trodAll_mk0)), rfl, bel.frame _, fun h => by cases h⟩
theorem over : Rows.trieSharesUptoRow.holds Try.pinned (Rows.OpenSpec.upto Rows.trieSharesSpec) :=
  OpenClaim.holds_of_cond 7 Try.f7 rfl rfl rfl rfl rfl rfl rfl ⟨rfl, rfl, rfl, rfl, rfl⟩ rfl rfl rfl rfl rfl (by kernel_rfl) Try.func7 (by kernel_rfl)
    (of_decide_eq_true (by kernel_rfl)) (by unfold Func.isWrapper; first | (rw [if_pos (by decide +kernel)]; kernel_rfl) | (rw [if_neg (by decide +kernel)]; exact ⟨rfl, rfl⟩))
    (fun os started H enc _ F => lifted os started H enc F)
theorem proved : Rows.TrieSharesUptoSaid := over
#print axioms proved
end Go.Proofs.Ythlneooboiphdaa.trieShares
namespace Go.Proofs.Ythlneooboiphdaa
/-- The row, under a short name, for the claim. -/
theorem trieShares_holds : Rows.TrieSharesUptoSaid := trieShares.proved
end Go.Proofs.Ythlneooboiphdaa
