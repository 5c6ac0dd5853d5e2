/- WordsRuns: the walk (printed by genruns.py out of its three parts). -/
import Derived.Laws.EntriesVeiled
import Derived.Test.YtjjnmpidlkjeiaaDoorRefRuns
set_option linter.unusedVariables false
namespace Go.Proofs.YtjjnmpidlkjeiaaDoor
open Go.RowKit Go.Shelf Go.Proofs.YtjjnmpidlkjeiaaDoorW.PrintWords
attribute [local go_sem] Oper.semAt_some
attribute [local go_sem] seq2_some
theorem runs_same (x0 : Nat) (hx0 : x0 < 18446744073709551616) (Bn : Nat) (A A2 : Option Addr) (c c2 : Nat) (w : World) (hBn : Bn < w.heap.size) (hc : w.cell? ⟨Bn, 0, none⟩ = some (.int .u64 (x0 : Int))) (hT : TzTab w) (hTb : 0 < w.heap.size)
    (hl : ReadsOf (fun i : Int => Value.int .i64 i) 0 w A (runs x0 64 0).length (fsts (runs x0 64 0))) (hl2 : ReadsOf (fun i : Int => Value.int .i64 i) 0 w A2 (runs x0 64 0).length (snds (runs x0 64 0))) (hlc : (runs x0 64 0).length ≤ c) (hlc2 : (runs x0 64 0).length ≤ c2) :
    Calls Tryd.prog 12 #[.func (.func 20) #[] #[.pointer (some ⟨Bn, 0, none⟩)], .slice A (runs x0 64 0).length c, .slice A2 (runs x0 64 0).length c2] w fun e W' => e = .returned (.bool true) ∧ Below w.heap.size w W' := by
  have h := runsg_calls x0 hx0 Bn A A2 c c2 (runs x0 64 0) w hBn hc hT hTb hl hl2 hlc hlc2
  rw [decide_eq_true rfl] at h
  exact h
theorem one_reads (w : World) (a : Int) (c : Nat) (t : TypeId) : ReadsOf (fun i : Int => Value.int .i64 i) 0 (w.alloc (.cells #[.int .i64 a] t)) (some ⟨w.heap.size, 0, none⟩) 1 [a] := by
  refine ⟨rfl, by decide, fun _ => ⟨_, rfl, ?_⟩⟩
  intro j hj
  obtain rfl : j = 0 := by omega
  exact (cell_new_l w (.int .i64 a) t).1
theorem runs_short (x : Nat) : ∀ n i, (runs x n i).length ≤ n
  | 0, _ => Nat.le_refl _
  | n + 1, i => by
    have := runs_short x n (i + 1)
    unfold runs
    split
    · rw [List.length_cons]; omega
    · omega
set_option maxHeartbeats 4000000 in
theorem runsw_calls (x : Nat) (hx : x < 18446744073709551616) (k : Int) (w : World) (hT : TzTab w) (hTb : 0 < w.heap.size) :
    Calls Tryd.prog 4 #[.int .u64 (x : Int), .int .i64 k] w fun e W' => e = .returned (.bool true) ∧ Below w.heap.size w W' := by
  refine (callsIn_wide (n := 3)).1 ?_
  have hro : Fence.wide.round = none := rfl
  refine callsIn_of_wp_marks Tryd.func4 rfl trivial ?_ rfl
  simp only [Tryd.ntmps4, List.size_toArray, List.length_cons, List.length_nil, Nat.reduceAdd, Nat.reduceSub, Array.replicate_succ, Array.replicate_zero, List.push_toArray, List.append_toArray, List.nil_append, List.cons_append]
  gi_wp2_with (first
    | (refine ⟨trivial, ?_⟩; gi_at_call 10; refine (callsIn_wide.2 (refr_calls x hx _)).mono ?_; rintro e w3 ⟨A, A2, c, c2, rfl, hlc, hlc2, hl, hl2, hb3⟩)
    | (refine ⟨trivial, ?_⟩; gi_at_call 11; refine (callsIn_wide.2 (runsf_calls _ _)).mono ?_; rintro e w' ⟨rfl, rfl⟩)
    | fail)
  have hB2 : Below w.heap.size w ((w.alloc (.cells #[.int .i64 k] 3)).alloc (.cells #[.bool false] 4)) := ((Below.refl _ w).alloc (Nat.le_refl _) _).alloc (by simp) _
  have c0 := cell_new_l w (.int .i64 k) 3
  have c1 := cell_new_l (w.alloc (.cells #[.int .i64 k] 3)) (.bool false) 4
  have hsz : ((w.alloc (.cells #[.int .i64 k] 3)).alloc (.cells #[.bool false] 4)).heap.size = w.heap.size + 1 + 1 := by simp
  rw [World.size_alloc] at c1
  have hB3 : Below w.heap.size w w3 := hB2.trans (hb3.mono (by omega))
  have d0 : w3.cell? ⟨w.heap.size, 0, none⟩ = some (.int .i64 k) := (hb3.cell (p := ⟨w.heap.size, 0, none⟩) (by show w.heap.size < _; omega)).trans (cell_alloc_l _ c0.1)
  have d1 : w3.cell? ⟨w.heap.size + 1, 0, none⟩ = some (.bool false) := (hb3.cell (p := ⟨w.heap.size + 1, 0, none⟩) (by show w.heap.size + 1 < _; omega)).trans c1.1
  have d2 : w3.frozen? ⟨w.heap.size + 1, 0, none⟩ = false := (hb3.frozen (p := ⟨w.heap.size + 1, 0, none⟩) (by show w.heap.size + 1 < _; omega)).trans c1.2
  have hs3 : w.heap.size + 1 + 1 ≤ w3.heap.size := by have := hb3.size; omega
  have e5 := cell_new_l w3 (.slice A (runs x 64 0).length c) 23
  have e5b := cell_new_l (w3.alloc (.cells #[.slice A (runs x 64 0).length c] 23)) (.slice A2 (runs x 64 0).length c2) 23
  have ex := cell_new_l ((w3.alloc (.cells #[.slice A (runs x 64 0).length c] 23)).alloc (.cells #[.slice A2 (runs x 64 0).length c2] 23)) (.int .u64 (x : Int)) 22
  have e6 := cell_new_l (((w3.alloc (.cells #[.slice A (runs x 64 0).length c] 23)).alloc (.cells #[.slice A2 (runs x 64 0).length c2] 23)).alloc (.cells #[.int .u64 (x : Int)] 22)) (.func (.func 20) #[] #[.pointer (some ⟨w3.heap.size + 1 + 1, 0, none⟩)]) 33
  simp only [World.size_alloc] at e5b ex e6
  have fx := cell_alloc_l (.cells #[(.func (.func 20) #[] #[.pointer (some ⟨w3.heap.size + 1 + 1, 0, none⟩)])] 33) ex.1
  have f5b := cell_alloc_l (.cells #[(.func (.func 20) #[] #[.pointer (some ⟨w3.heap.size + 1 + 1, 0, none⟩)])] 33) (cell_alloc_l (.cells #[.int .u64 (x : Int)] 22) e5b.1)
  have f5 := cell_alloc_l (.cells #[(.func (.func 20) #[] #[.pointer (some ⟨w3.heap.size + 1 + 1, 0, none⟩)])] 33) (cell_alloc_l (.cells #[.int .u64 (x : Int)] 22) (cell_alloc_l (.cells #[.slice A2 (runs x 64 0).length c2] 23) e5.1))
  have f6 := e6.1
  have hB6 : Below w3.heap.size w3 ((((w3.alloc (.cells #[.slice A (runs x 64 0).length c] 23)).alloc (.cells #[.slice A2 (runs x 64 0).length c2] 23)).alloc (.cells #[.int .u64 (x : Int)] 22)).alloc (.cells #[(.func (.func 20) #[] #[.pointer (some ⟨w3.heap.size + 1 + 1, 0, none⟩)])] 33)) := ((((Below.refl _ w3).alloc (Nat.le_refl _) _).alloc (by simp) _).alloc (by simp; omega) _).alloc (by simp; omega) _
  have hz6 : ((((w3.alloc (.cells #[.slice A (runs x 64 0).length c] 23)).alloc (.cells #[.slice A2 (runs x 64 0).length c2] 23)).alloc (.cells #[.int .u64 (x : Int)] 22)).alloc (.cells #[(.func (.func 20) #[] #[.pointer (some ⟨w3.heap.size + 1 + 1, 0, none⟩)])] 33)).heap.size = w3.heap.size + 1 + 1 + 1 + 1 := by simp
  generalize ((((w3.alloc (.cells #[.slice A (runs x 64 0).length c] 23)).alloc (.cells #[.slice A2 (runs x 64 0).length c2] 23)).alloc (.cells #[.int .u64 (x : Int)] 22)).alloc (.cells #[(.func (.func 20) #[] #[.pointer (some ⟨w3.heap.size + 1 + 1, 0, none⟩)])] 33)) = w6 at f5 f5b fx f6 hB6 hz6 ⊢
  have g5 := cell_new_l w6 (.int .u64 6) 22
  have hz7 : (w6.alloc (.cells #[.int .u64 6] 22)).heap.size = w3.heap.size + 1 + 1 + 1 + 1 + 1 := by rw [World.size_alloc, hz6]
  have hz8 : ((w6.alloc (.cells #[.int .u64 6] 22)).alloc (.cells #[.int .i64 1] 3)).heap.size = w3.heap.size + 1 + 1 + 1 + 1 + 1 + 1 := by rw [World.size_alloc, hz7]
  have hr1 := one_reads (w6.alloc (.cells #[.int .u64 6] 22)) 1 0 3
  have hr2 := one_reads ((w6.alloc (.cells #[.int .u64 6] 22)).alloc (.cells #[.int .i64 1] 3)) 2 0 3
  rw [hz7] at hr1
  rw [hz8] at hr2
  have hBq : Below w.heap.size w (((w6.alloc (.cells #[.int .u64 6] 22)).alloc (.cells #[.int .i64 1] 3)).alloc (.cells #[.int .i64 2] 3)) := (((hB3.trans (hB6.mono (by omega))).alloc (by omega) _).alloc (by simp; omega) _).alloc (by simp; omega) _
  refine ⟨trivial, ?_⟩
  refine (callsIn_wide.2 (runsg_calls 6 (by decide) (w3.heap.size + 1 + 1 + 1 + 1) (some ⟨w3.heap.size + 1 + 1 + 1 + 1 + 1, 0, none⟩) (some ⟨w3.heap.size + 1 + 1 + 1 + 1 + 1 + 1, 0, none⟩) 1 1 [(1, 2)] _ ?_ ?_ ?_ ?_ ?_ ?_ ?_ ?_)).mono ?_
  · simp only [World.size_alloc]; omega
  · rw [← hz6]; exact cell_alloc_l _ (cell_alloc_l _ g5.1)
  · exact hT.below hTb hBq
  · simp only [World.size_alloc]; omega
  · exact hr1.below (below_alloc (Below.refl _ _) _)
  · exact hr2
  · decide
  · decide
  rintro e w4 ⟨rfl, hb4⟩
  rw [decide_eq_true (show ([(1, 2)] : List (Nat × Nat)) = runs 6 64 0 by decide)]
  have hq6 : Below w6.heap.size w6 w4 := (((Below.refl _ w6).alloc (Nat.le_refl _) _ |>.alloc (by simp) _).alloc (by simp; omega) _).trans (hb4.mono (by simp; omega))
  clear hb4 hr1 hr2
  have hB4 : Below w.heap.size w w4 := (hB3.trans (hB6.mono (by omega))).trans (hq6.mono (by omega))
  have k0 : w4.cell? ⟨w.heap.size, 0, none⟩ = some (.int .i64 k) := (hq6.cell (p := ⟨w.heap.size, 0, none⟩) (by show w.heap.size < _; omega)).trans ((hB6.cell (p := ⟨w.heap.size, 0, none⟩) (by show w.heap.size < _; omega)).trans d0)
  have k1 : w4.cell? ⟨w.heap.size + 1, 0, none⟩ = some (.bool false) := (hq6.cell (p := ⟨w.heap.size + 1, 0, none⟩) (by show w.heap.size + 1 < _; omega)).trans ((hB6.cell (p := ⟨w.heap.size + 1, 0, none⟩) (by show w.heap.size + 1 < _; omega)).trans d1)
  have k2 : w4.frozen? ⟨w.heap.size + 1, 0, none⟩ = false := (hq6.frozen (p := ⟨w.heap.size + 1, 0, none⟩) (by show w.heap.size + 1 < _; omega)).trans ((hB6.frozen (p := ⟨w.heap.size + 1, 0, none⟩) (by show w.heap.size + 1 < _; omega)).trans d2)
  have k5 : w4.cell? ⟨w3.heap.size, 0, none⟩ = _ := (hq6.cell (p := ⟨w3.heap.size, 0, none⟩) (by show w3.heap.size < _; omega)).trans f5
  have k5b : w4.cell? ⟨w3.heap.size + 1, 0, none⟩ = _ := (hq6.cell (p := ⟨w3.heap.size + 1, 0, none⟩) (by show w3.heap.size + 1 < _; omega)).trans f5b
  have kx : w4.cell? ⟨w3.heap.size + 1 + 1, 0, none⟩ = _ := (hq6.cell (p := ⟨w3.heap.size + 1 + 1, 0, none⟩) (by show w3.heap.size + 1 + 1 < _; omega)).trans fx
  have k6 : w4.cell? ⟨w3.heap.size + 1 + 1 + 1, 0, none⟩ = _ := (hq6.cell (p := ⟨w3.heap.size + 1 + 1 + 1, 0, none⟩) (by show w3.heap.size + 1 + 1 + 1 < _; omega)).trans f6
  have hl4 := hl.below (hB6.trans (hq6.mono (by omega)))
  have hl4b := hl2.below (hB6.trans (hq6.mono (by omega)))
  have hs4 : w3.heap.size + 1 + 1 + 1 + 1 ≤ w4.heap.size := by have := hq6.size; omega
  have hT4 : TzTab w4 := hT.below hTb hB4
  clear f5 f5b fx f6 hq6 hB6 hBq g5 d0 d1 d2 hB2 c0 c1 e5 e5b ex e6 hl hl2 hb3 hsz hz7 hz8
  have n0 := cell_alloc_l (.cells #[.int .i64 0] 3) k0
  have n1 := cell_alloc_l (.cells #[.int .i64 0] 3) k1
  have n2 := frozen_alloc_l (.cells #[.int .i64 0] 3) k1 k2
  have n5 := cell_alloc_l (.cells #[.int .i64 0] 3) k5
  have n5b := cell_alloc_l (.cells #[.int .i64 0] 3) k5b
  have nx := cell_alloc_l (.cells #[.int .i64 0] 3) kx
  have n6 := cell_alloc_l (.cells #[.int .i64 0] 3) k6
  have n7 := cell_new_l w4 (.int .i64 0) 3
  have hlN := hl4.below (below_alloc (Below.refl _ _) (.cells #[.int .i64 0] 3))
  have hlNb := hl4b.below (below_alloc (Below.refl _ _) (.cells #[.int .i64 0] 3))
  have hTN := hT4.below (n := w.heap.size) hTb ((Below.refl _ w4).alloc (by omega) (.cells #[.int .i64 0] 3))
  have hBN : Below w.heap.size w (w4.alloc (.cells #[.int .i64 0] 3)) := hB4.alloc (by omega) _
  gi_wp2
  rename_i Q1 K1 hK1
  have hmax : (runs x 64 0).length ≤ 64 := runs_short x 64 0
  have rest : ∀ (D : Nat) (W : World) (nv : Int), w4.heap.size + 1 ≤ D → (nv = k ∨ nv = ((runs x 64 0).length : Int)) → W.cell? ⟨w4.heap.size, 0, none⟩ = some (.int .i64 nv) → W.frozen? ⟨w4.heap.size, 0, none⟩ = false → Below w4.heap.size w4 W → W.heap[D]? = some (.deferred (some [])) → K1 { tmps := #[.int .u64 (x : Int), .int .i64 k, undef, .pointer (some ⟨w.heap.size, 0, none⟩), .pointer (some ⟨w.heap.size + 1, 0, none⟩), .pointer (some ⟨w3.heap.size, 0, none⟩), .pointer (some ⟨w3.heap.size + 1, 0, none⟩), .pointer (some ⟨w3.heap.size + 1 + 1 + 1, 0, none⟩), .pointer (some ⟨w4.heap.size, 0, none⟩), undef, undef, undef, undef, .tuple #[.slice A (runs x 64 0).length c, .slice A2 (runs x 64 0).length c2], .int .u64 (x : Int), .tuple #[.slice A (runs x 64 0).length c, .slice A2 (runs x 64 0).length c2], .slice A (runs x 64 0).length c, .slice A2 (runs x 64 0).length c2, .int .u64 (x : Int), (.func (.func 20) #[] #[.pointer (some ⟨w3.heap.size + 1 + 1, 0, none⟩)]), (.func (.func 20) #[] #[.pointer (some ⟨w3.heap.size + 1 + 1, 0, none⟩)]), .bool false, .bool false, .func (.func 20) #[] #[.pointer (some ⟨w3.heap.size + 1 + 1 + 1 + 1, 0, none⟩)], .slice (some ⟨w3.heap.size + 1 + 1 + 1 + 1 + 1, 0, none⟩) 1 1, .slice (some ⟨w3.heap.size + 1 + 1 + 1 + 1 + 1 + 1, 0, none⟩) 1 1, .bool true, .bool false, .bool false, (.func (.func 20) #[] #[.pointer (some ⟨w3.heap.size + 1 + 1, 0, none⟩)]), undef, undef, undef, undef, undef, undef, undef, undef, undef, undef, undef, undef, undef, undef, undef, undef, undef, undef, undef, undef, undef, undef, undef, undef, undef, undef, undef, undef, undef, undef, undef, undef, undef, undef, undef, undef, undef, undef, undef, undef, undef, undef, undef, undef, undef, undef, undef, undef, undef, undef, undef, undef, undef, undef, undef, undef, undef, undef, undef, undef, undef, undef, undef, undef, undef, undef, undef, undef, undef, undef, undef, undef, undef, undef, undef, undef, undef, undef, undef, undef, undef, undef], defers := [{ target := .collected D, args := #[] }] } W := by
    intro D W nv hD hnv hcn hfn hB hK
    apply hK1
    have m0 := (hB.cell (p := ⟨w.heap.size, 0, none⟩) (by show w.heap.size < _; omega)).trans k0
    have m1 := (hB.cell (p := ⟨w.heap.size + 1, 0, none⟩) (by show w.heap.size + 1 < _; omega)).trans k1
    have m2 := (hB.frozen (p := ⟨w.heap.size + 1, 0, none⟩) (by show w.heap.size + 1 < _; omega)).trans k2
    have m5 := (hB.cell (p := ⟨w3.heap.size, 0, none⟩) (by show w3.heap.size < _; omega)).trans k5
    have m6 := ((hB.setCell (p := ⟨w4.heap.size, 0, none⟩) (Nat.le_refl _) (.int .i64 0)).cell (p := ⟨w3.heap.size + 1 + 1 + 1, 0, none⟩) (by show w3.heap.size + 1 + 1 + 1 < _; omega)).trans k6
    have hv : ((nv != k) = false ∧ nv = nv) ∨ ((nv != k) = true ∧ (nv != ((runs x 64 0).length : Int)) = false) := by
      by_cases h : nv = k
      · left; simp [h]
      · right
        rcases hnv with h1 | h1
        · exact absurd h1 h
        · exact ⟨bne_iff_ne.2 h, bne_eq_false_iff_eq.2 h1⟩
    have hBV := hB.setCell (p := ⟨w4.heap.size, 0, none⟩) (Nat.le_refl _) (.int .i64 0)
    have v7 := World.cell?_setCell_same' W ⟨w4.heap.size, 0, none⟩ (.int .i64 0) (by rw [hcn]; rfl)
    have v7f : (W.setCell ⟨w4.heap.size, 0, none⟩ (.int .i64 0)).frozen? ⟨w4.heap.size, 0, none⟩ = false := by rw [World.frozen?_setCell]; exact hfn
    have hKV := (KeepsOthers.setCell W ⟨w4.heap.size, 0, none⟩ (.int .i64 0)).same D _ hK rfl
    rcases hv with ⟨hv1, hv2⟩ | ⟨hv1, hv2⟩
    all_goals gi_wp2
    all_goals clear hB hcn hfn hK m0 m1 m2 m5 m6
    all_goals generalize W.setCell ⟨w4.heap.size, 0, none⟩ (.int .i64 0) = V at hBV v7 v7f hKV ⊢
    all_goals clear W
    · have hVD : D < V.heap.size := (Array.getElem?_eq_some_iff.1 hKV).1
      have vx := (hBV.cell (p := ⟨w3.heap.size + 1 + 1, 0, none⟩) (by show w3.heap.size + 1 + 1 < _; omega)).trans kx
      have hTV := hT4.below (n := w4.heap.size) (by omega) hBV
      refine wpIn_rangeFunc_ownF hro (by decide) (gf := 20) (lb := #[.pointer (some ⟨w3.heap.size + 1 + 1, 0, none⟩)]) rfl trivial (enters_of Tryd.func20 (by kernel_rfl) rfl)
        (runs_stops (3 - 1) (w3.heap.size + 1 + 1) w4.heap.size (by omega) x hx V (by omega) (by omega) vx hTV) belowK_t (belowK_b (by omega)) (Below.refl _ _) (fun _ => rfl)
        (fun pre W => ((pre <+: runs x 64 0 ∧ W.cell? ⟨w4.heap.size, 0, none⟩ = some (.int .i64 (pre.length : Int)) ∧ W.frozen? ⟨w4.heap.size, 0, none⟩ = false) ∧ Below w4.heap.size w4 W) ∧ W.heap[D]? = some (.deferred (some [])))
        (fun c pre W => c = .ret ∧ ¬ pre <+: runs x 64 0)
        (OwnFrom.and (OwnFrom.and (Own.from (fun s A B row hs hg hr => ⟨hs.1, cell_kept hs.2.1 hg hr, (frozen_kept hs.2.1 hg hr).trans hs.2.2⟩) _) (ownFrom_below (Nat.le_refl _) (by omega))) (fun s A B row hs hg hr => (hg.block D (Array.getElem?_eq_some_iff.1 hs).1 (fun e => by have := (hr D (by first | exact e | exact e.symm)).1; omega)).trans hs))
        (fun c s W W' row hs hg hr => hs)
        ⟨⟨⟨List.nil_prefix, v7, v7f⟩, hBV⟩, hKV⟩ (fun y => { tmps := #[.int .u64 (x : Int), .int .i64 k, undef, .pointer (some ⟨w.heap.size, 0, none⟩), .pointer (some ⟨w.heap.size + 1, 0, none⟩), .pointer (some ⟨w3.heap.size, 0, none⟩), .pointer (some ⟨w3.heap.size + 1, 0, none⟩), .pointer (some ⟨w3.heap.size + 1 + 1 + 1, 0, none⟩), .pointer (some ⟨w4.heap.size, 0, none⟩), undef, undef, .int .i64 (y.1 : Int), .int .i64 (y.2 : Int), .tuple #[.slice A (runs x 64 0).length c, .slice A2 (runs x 64 0).length c2], .int .u64 (x : Int), .tuple #[.slice A (runs x 64 0).length c, .slice A2 (runs x 64 0).length c2], .slice A (runs x 64 0).length c, .slice A2 (runs x 64 0).length c2, .int .u64 (x : Int), (.func (.func 20) #[] #[.pointer (some ⟨w3.heap.size + 1 + 1, 0, none⟩)]), (.func (.func 20) #[] #[.pointer (some ⟨w3.heap.size + 1 + 1, 0, none⟩)]), .bool false, .bool false, .func (.func 20) #[] #[.pointer (some ⟨w3.heap.size + 1 + 1 + 1 + 1, 0, none⟩)], .slice (some ⟨w3.heap.size + 1 + 1 + 1 + 1 + 1, 0, none⟩) 1 1, .slice (some ⟨w3.heap.size + 1 + 1 + 1 + 1 + 1 + 1, 0, none⟩) 1 1, .bool true, .bool false, .bool false, (.func (.func 20) #[] #[.pointer (some ⟨w3.heap.size + 1 + 1, 0, none⟩)]), undef, undef, undef, undef, undef, undef, undef, undef, undef, undef, undef, undef, undef, undef, undef, undef, undef, undef, undef, undef, undef, undef, undef, undef, undef, undef, undef, .int .i64 nv, .int .i64 k, .bool false, .bool false, undef, undef, undef, undef, .bool false, (.func (.func 20) #[] #[.pointer (some ⟨w3.heap.size + 1 + 1, 0, none⟩)]), .int .i64 (y.1 : Int), .int .i64 (y.2 : Int), undef, undef, undef, undef, undef, undef, undef, undef, undef, undef, undef, undef, undef, undef, undef, undef, undef, undef, undef, undef, undef, undef, undef, undef, undef, undef, undef, undef, undef, undef, undef, undef, undef, undef, undef, undef, undef, undef, undef, undef, undef, undef, undef], defers := [] }) ?assign ?body ?done ?stop
      case assign =>
        intro lr y W K hK
        gi_wp2
        exact hK
      case body =>
        clear hK1
        rintro lr pre y U ⟨⟨⟨hp, hcn, hfn⟩, hB⟩, hKD⟩ hlt
        have hUD : D < U.heap.size := (Array.getElem?_eq_some_iff.1 hKD).1
        have hlW := hl4.below hB
        have hlW2 := hl4b.below hB
        have m1 := (hB.cell (p := ⟨w.heap.size + 1, 0, none⟩) (by show w.heap.size + 1 < _; omega)).trans k1
        have m2 := (hB.frozen (p := ⟨w.heap.size + 1, 0, none⟩) (by show w.heap.size + 1 < _; omega)).trans k2
        have m5 := (hB.cell (p := ⟨w3.heap.size, 0, none⟩) (by show w3.heap.size < _; omega)).trans k5
        have m5b := (hB.cell (p := ⟨w3.heap.size + 1, 0, none⟩) (by show w3.heap.size + 1 < _; omega)).trans k5b
        have m6 := (hB.cell (p := ⟨w3.heap.size + 1 + 1 + 1, 0, none⟩) (by show w3.heap.size + 1 + 1 + 1 < _; omega)).trans k6
        have mx := (hB.cell (p := ⟨w3.heap.size + 1 + 1, 0, none⟩) (by show w3.heap.size + 1 + 1 < _; omega)).trans kx
        have hg := fun (_ : True) => runs_same x hx (w3.heap.size + 1 + 1) A A2 c c2 U (by omega) mx (hT4.below (n := w4.heap.size) (by omega) hB) (by omega) hlW hlW2 hlc hlc2
        have hge : decide ((runs x 64 0).length ≤ pre.length) = false := decide_eq_false (by omega)
        obtain ⟨ad, rfl, hcell⟩ := hlW.at_ (pre.length : Int) (by omega) (by omega)
        obtain ⟨ad2, rfl, hcell2⟩ := hlW2.at_ (pre.length : Int) (by omega) (by omega)
        have hrd : rdOf 0 (fsts (runs x 64 0)) (pre.length : Int) = (((runs x 64 0).getD pre.length (0, 0)).1 : Int) := by
          simp [rdOf, fsts, List.getElem?_eq_getElem hlt]
        have hrd2 : rdOf 0 (snds (runs x 64 0)) (pre.length : Int) = (((runs x 64 0).getD pre.length (0, 0)).2 : Int) := by
          simp [rdOf, snds, List.getElem?_eq_getElem hlt]
        rw [hrd, Int.toNat_natCast] at hcell
        rw [hrd2, Int.toNat_natCast] at hcell2
        have hps := row_snoc pre y (runs x 64 0) hlt hp
        clear hrd hrd2
        generalize (runs x 64 0).getD pre.length (0, 0) = v at hcell hcell2 hps
        obtain ⟨y1, y2⟩ := y
        obtain ⟨v1, v2⟩ := v
        have bad : (y1 ≠ v1 ∨ y2 ≠ v2) → ¬ pre ++ [(y1, y2)] <+: runs x 64 0 := by
          intro h h'
          have e := hps.1 h'
          cases e
          rcases h with h | h <;> exact h rfl
        have goes : ∀ (a : Act) (U2 : World), Below U.heap.size U U2 → pre ++ [(y1, y2)] <+: runs x 64 0 → ownPostK (Below w4.heap.size) (fun pre W => ((pre <+: runs x 64 0 ∧ W.cell? ⟨w4.heap.size, 0, none⟩ = some (.int .i64 (pre.length : Int)) ∧ W.frozen? ⟨w4.heap.size, 0, none⟩ = false) ∧ Below w4.heap.size w4 W) ∧ W.heap[D]? = some (.deferred (some []))) (fun c pre W => c = .ret ∧ ¬ pre <+: runs x 64 0) (pre ++ [(y1, y2)]) U .normal a (U2.setCell ⟨w4.heap.size, 0, none⟩ (.int .i64 ((pre.length : Int) + 1))) := by
          intro a U2 hb hgood
          have q7 := (hb.cell (p := ⟨w4.heap.size, 0, none⟩) (by show w4.heap.size < _; omega)).trans hcn
          have q7f := (hb.frozen (p := ⟨w4.heap.size, 0, none⟩) (by show w4.heap.size < _; omega)).trans hfn
          have hko : KeepsOthers U (U2.setCell ⟨w4.heap.size, 0, none⟩ (.int .i64 ((pre.length : Int) + 1))) := KeepsOthers.trans ⟨hb.size, fun kk o h1 _ => (hb.block kk (Array.getElem?_eq_some_iff.1 h1).1).trans h1⟩ (KeepsOthers.setCell _ _ _)
          refine ⟨hko, (hb.mono (B' := w4.heap.size) (by omega)).setCell (p := ⟨w4.heap.size, 0, none⟩) (Nat.le_refl _) _, ⟨⟨hgood, ?_, ?_⟩, (hB.trans (hb.mono (B' := w4.heap.size) (by omega))).setCell (p := ⟨w4.heap.size, 0, none⟩) (Nat.le_refl _) _⟩, hko.same D _ hKD rfl⟩
          · rw [List.length_append]; exact World.cell?_setCell_same' _ _ _ (by rw [q7]; rfl)
          · rw [World.frozen?_setCell]; exact q7f
        by_cases h1 : (y1 : Int) = (v1 : Int)
        · have q1 : ((y1 : Int) != (v1 : Int)) = false := bne_eq_false_iff_eq.2 h1
          by_cases h2 : (y2 : Int) = (v2 : Int)
          · have q2 : ((y2 : Int) != (v2 : Int)) = false := bne_eq_false_iff_eq.2 h2
            have good : pre ++ [(y1, y2)] <+: runs x 64 0 := hps.2 (by rw [Int.ofNat_inj.1 h1, Int.ofNat_inj.1 h2])
            clear h1 h2 hps bad
            by_cases h3 : pre.length < 3
            · have h3b : decide (pre.length < 3) = true := decide_eq_true h3
              gi_wp2
              refine ⟨trivial, ?_⟩
              refine (CallsIn.inRound lr (callsIn_wide.2 (hg trivial))).mono ?_
              clear hg
              rintro e U2 ⟨rfl, hb⟩
              have q7 := (hb.cell (p := ⟨w4.heap.size, 0, none⟩) (by show w4.heap.size < _; omega)).trans hcn
              have q7f := (hb.frozen (p := ⟨w4.heap.size, 0, none⟩) (by show w4.heap.size < _; omega)).trans hfn
              gi_wp2
              exact goes _ U2 hb good
            · have h3b : decide (pre.length < 3) = false := decide_eq_false h3
              clear hg
              gi_wp2
              refine ⟨trivial, ?_⟩
              gi_wp2
              exact goes _ U (Below.refl _ _) good
          · have q2 : ((y2 : Int) != (v2 : Int)) = true := bne_iff_ne.2 h2
            have nb := bad (.inr (by omega))
            clear hg h1 h2 hps bad goes
            gi_wp2
            · rename_i hu _
              cases hu
            · rename_i hu _
              cases hu
            · refine ⟨trivial, ?_⟩
              gi_wp2
              exact ⟨KeepsOthers.setCell _ _ _, rfl, nb⟩
        · have q1 : ((y1 : Int) != (v1 : Int)) = true := bne_iff_ne.2 h1
          have nb := bad (.inl (by omega))
          clear hg h1 hps bad goes
          gi_wp2
          · rename_i hu _
            cases hu
          · rename_i hu _
            cases hu
          · refine ⟨trivial, ?_⟩
            gi_wp2
            exact ⟨KeepsOthers.setCell _ _ _, rfl, nb⟩
      case done =>
        rintro D2 ys U hD2 rfl ⟨⟨⟨hp, hcn, hfn⟩, hB⟩, hKD⟩ hK2
        have hUD : D < U.heap.size := (Array.getElem?_eq_some_iff.1 hKD).1
        have hUD2 : D2 < U.heap.size := (Array.getElem?_eq_some_iff.1 hK2).1
        have hlW := hl4.below hB
        have hlW2 := hl4b.below hB
        have m1 := (hB.cell (p := ⟨w.heap.size + 1, 0, none⟩) (by show w.heap.size + 1 < _; omega)).trans k1
        have m2 := (hB.frozen (p := ⟨w.heap.size + 1, 0, none⟩) (by show w.heap.size + 1 < _; omega)).trans k2
        have m5 := (hB.cell (p := ⟨w3.heap.size, 0, none⟩) (by show w3.heap.size < _; omega)).trans k5
        have m5b := (hB.cell (p := ⟨w3.heap.size + 1, 0, none⟩) (by show w3.heap.size + 1 < _; omega)).trans k5b
        have m6 := (hB.cell (p := ⟨w3.heap.size + 1 + 1 + 1, 0, none⟩) (by show w3.heap.size + 1 + 1 + 1 < _; omega)).trans k6
        have mx := (hB.cell (p := ⟨w3.heap.size + 1 + 1, 0, none⟩) (by show w3.heap.size + 1 + 1 < _; omega)).trans kx
        have hg := fun (_ : True) => runs_same x hx (w3.heap.size + 1 + 1) A A2 c c2 U (by omega) mx (hT4.below (n := w4.heap.size) (by omega) hB) (by omega) hlW hlW2 hlc hlc2
        have heq : (((runs x 64 0).length : Int) == ((runs x 64 0).length : Int)) = true := beq_self_eq_true _
        gi_wp2
        refine ⟨trivial, ?_⟩
        refine (callsIn_wide.2 (hg trivial)).mono ?_
        clear hg
        rintro e U2 ⟨rfl, hb⟩
        have p1 := (hb.cell (p := ⟨w.heap.size + 1, 0, none⟩) (by show w.heap.size + 1 < _; omega)).trans m1
        have p2 := (hb.frozen (p := ⟨w.heap.size + 1, 0, none⟩) (by show w.heap.size + 1 < _; omega)).trans m2
        gi_wp2
        have hU2 : U2.heap[D2]? = some (.deferred (some [])) := (hb.block D2 hUD2).trans hK2
        have hU1 : U2.heap[D]? = some (.deferred (some [])) := (hb.block D hUD).trans hKD
        have x2 := (KeepsOthers.setCell U2 ⟨w.heap.size + 1, 0, none⟩ (.bool true)).same D2 _ hU2 rfl
        have x1 := (KeepsOthers.setCell U2 ⟨w.heap.size + 1, 0, none⟩ (.bool true)).same D _ hU1 rfl
        have xc := World.cell?_setCell_same' U2 ⟨w.heap.size + 1, 0, none⟩ (.bool true) (by rw [p1]; rfl)
        have xB : Below w.heap.size w (U2.setCell ⟨w.heap.size + 1, 0, none⟩ (.bool true)) := (hB4.trans ((hB.mono (B' := w.heap.size) (by omega)).trans (hb.mono (B' := w.heap.size) (by omega)))).setCell (p := ⟨w.heap.size + 1, 0, none⟩) (Nat.le_succ _) _
        generalize U2.setCell ⟨w.heap.size + 1, 0, none⟩ (.bool true) = X at x2 x1 xc xB ⊢
        refine ⟨by simp, .inl ⟨_, _, rfl, run_takeDeferred x2, ?_⟩⟩
        have y1 : (X.putObj D2 (.deferred none)).heap[D]? = some (.deferred (some [])) := (World.putObj_heap_other (by omega)).trans x1
        have yc := cell_kept xc (grownBy_putObj' X D2 (.deferred none)) (fun r e => by cases e; exact ⟨_, x2, rfl⟩)
        have yB : Below w.heap.size w (X.putObj D2 (.deferred none)) := xB.trans (belowK_b (w := w) (Nat.le_refl _) X D2 _ _ (by omega) x2 rfl rfl)
        generalize X.putObj D2 (.deferred none) = Y at y1 yc yB ⊢
        refine ⟨by simp, .inl ⟨_, _, rfl, run_takeDeferred y1, ?_⟩⟩
        have zc := cell_kept yc (grownBy_putObj' Y D (.deferred none)) (fun r e => by cases e; exact ⟨_, y1, rfl⟩)
        have zB : Below w.heap.size w (Y.putObj D (.deferred none)) := yB.trans (belowK_b (w := w) (Nat.le_refl _) Y D _ _ (by omega) y1 rfl rfl)
        refine ⟨.bool true, ?_, rfl, zB⟩
        simp [results, Tryd.f4, go_sem, zc]
      case stop =>
        rintro D2 cc pre U hD2 hpre ⟨rfl, hin⟩ hK2
        exact absurd hpre hin
    · have hVD : D < V.heap.size := (Array.getElem?_eq_some_iff.1 hKV).1
      have vx := (hBV.cell (p := ⟨w3.heap.size + 1 + 1, 0, none⟩) (by show w3.heap.size + 1 + 1 < _; omega)).trans kx
      have hTV := hT4.below (n := w4.heap.size) (by omega) hBV
      refine wpIn_rangeFunc_ownF hro (by decide) (gf := 20) (lb := #[.pointer (some ⟨w3.heap.size + 1 + 1, 0, none⟩)]) rfl trivial (enters_of Tryd.func20 (by kernel_rfl) rfl)
        (runs_stops (3 - 1) (w3.heap.size + 1 + 1) w4.heap.size (by omega) x hx V (by omega) (by omega) vx hTV) belowK_t (belowK_b (by omega)) (Below.refl _ _) (fun _ => rfl)
        (fun pre W => ((pre <+: runs x 64 0 ∧ W.cell? ⟨w4.heap.size, 0, none⟩ = some (.int .i64 (pre.length : Int)) ∧ W.frozen? ⟨w4.heap.size, 0, none⟩ = false) ∧ Below w4.heap.size w4 W) ∧ W.heap[D]? = some (.deferred (some [])))
        (fun c pre W => c = .ret ∧ ¬ pre <+: runs x 64 0)
        (OwnFrom.and (OwnFrom.and (Own.from (fun s A B row hs hg hr => ⟨hs.1, cell_kept hs.2.1 hg hr, (frozen_kept hs.2.1 hg hr).trans hs.2.2⟩) _) (ownFrom_below (Nat.le_refl _) (by omega))) (fun s A B row hs hg hr => (hg.block D (Array.getElem?_eq_some_iff.1 hs).1 (fun e => by have := (hr D (by first | exact e | exact e.symm)).1; omega)).trans hs))
        (fun c s W W' row hs hg hr => hs)
        ⟨⟨⟨List.nil_prefix, v7, v7f⟩, hBV⟩, hKV⟩ (fun y => { tmps := #[.int .u64 (x : Int), .int .i64 k, undef, .pointer (some ⟨w.heap.size, 0, none⟩), .pointer (some ⟨w.heap.size + 1, 0, none⟩), .pointer (some ⟨w3.heap.size, 0, none⟩), .pointer (some ⟨w3.heap.size + 1, 0, none⟩), .pointer (some ⟨w3.heap.size + 1 + 1 + 1, 0, none⟩), .pointer (some ⟨w4.heap.size, 0, none⟩), undef, undef, .int .i64 (y.1 : Int), .int .i64 (y.2 : Int), .tuple #[.slice A (runs x 64 0).length c, .slice A2 (runs x 64 0).length c2], .int .u64 (x : Int), .tuple #[.slice A (runs x 64 0).length c, .slice A2 (runs x 64 0).length c2], .slice A (runs x 64 0).length c, .slice A2 (runs x 64 0).length c2, .int .u64 (x : Int), (.func (.func 20) #[] #[.pointer (some ⟨w3.heap.size + 1 + 1, 0, none⟩)]), (.func (.func 20) #[] #[.pointer (some ⟨w3.heap.size + 1 + 1, 0, none⟩)]), .bool false, .bool false, .func (.func 20) #[] #[.pointer (some ⟨w3.heap.size + 1 + 1 + 1 + 1, 0, none⟩)], .slice (some ⟨w3.heap.size + 1 + 1 + 1 + 1 + 1, 0, none⟩) 1 1, .slice (some ⟨w3.heap.size + 1 + 1 + 1 + 1 + 1 + 1, 0, none⟩) 1 1, .bool true, .bool false, .bool false, (.func (.func 20) #[] #[.pointer (some ⟨w3.heap.size + 1 + 1, 0, none⟩)]), undef, undef, undef, undef, undef, undef, undef, undef, undef, undef, undef, undef, undef, undef, undef, undef, undef, undef, undef, undef, undef, undef, undef, undef, undef, undef, undef, .int .i64 nv, .int .i64 k, .bool true, .bool true, .int .i64 nv, .slice A (runs x 64 0).length c, .int .i64 ((runs x 64 0).length : Int), .bool false, .bool false, (.func (.func 20) #[] #[.pointer (some ⟨w3.heap.size + 1 + 1, 0, none⟩)]), .int .i64 (y.1 : Int), .int .i64 (y.2 : Int), undef, undef, undef, undef, undef, undef, undef, undef, undef, undef, undef, undef, undef, undef, undef, undef, undef, undef, undef, undef, undef, undef, undef, undef, undef, undef, undef, undef, undef, undef, undef, undef, undef, undef, undef, undef, undef, undef, undef, undef, undef, undef, undef], defers := [] }) ?assign ?body ?done ?stop
      case assign =>
        intro lr y W K hK
        gi_wp2
        exact hK
      case body =>
        clear hK1
        rintro lr pre y U ⟨⟨⟨hp, hcn, hfn⟩, hB⟩, hKD⟩ hlt
        have hUD : D < U.heap.size := (Array.getElem?_eq_some_iff.1 hKD).1
        have hlW := hl4.below hB
        have hlW2 := hl4b.below hB
        have m1 := (hB.cell (p := ⟨w.heap.size + 1, 0, none⟩) (by show w.heap.size + 1 < _; omega)).trans k1
        have m2 := (hB.frozen (p := ⟨w.heap.size + 1, 0, none⟩) (by show w.heap.size + 1 < _; omega)).trans k2
        have m5 := (hB.cell (p := ⟨w3.heap.size, 0, none⟩) (by show w3.heap.size < _; omega)).trans k5
        have m5b := (hB.cell (p := ⟨w3.heap.size + 1, 0, none⟩) (by show w3.heap.size + 1 < _; omega)).trans k5b
        have m6 := (hB.cell (p := ⟨w3.heap.size + 1 + 1 + 1, 0, none⟩) (by show w3.heap.size + 1 + 1 + 1 < _; omega)).trans k6
        have mx := (hB.cell (p := ⟨w3.heap.size + 1 + 1, 0, none⟩) (by show w3.heap.size + 1 + 1 < _; omega)).trans kx
        have hg := fun (_ : True) => runs_same x hx (w3.heap.size + 1 + 1) A A2 c c2 U (by omega) mx (hT4.below (n := w4.heap.size) (by omega) hB) (by omega) hlW hlW2 hlc hlc2
        have hge : decide ((runs x 64 0).length ≤ pre.length) = false := decide_eq_false (by omega)
        obtain ⟨ad, rfl, hcell⟩ := hlW.at_ (pre.length : Int) (by omega) (by omega)
        obtain ⟨ad2, rfl, hcell2⟩ := hlW2.at_ (pre.length : Int) (by omega) (by omega)
        have hrd : rdOf 0 (fsts (runs x 64 0)) (pre.length : Int) = (((runs x 64 0).getD pre.length (0, 0)).1 : Int) := by
          simp [rdOf, fsts, List.getElem?_eq_getElem hlt]
        have hrd2 : rdOf 0 (snds (runs x 64 0)) (pre.length : Int) = (((runs x 64 0).getD pre.length (0, 0)).2 : Int) := by
          simp [rdOf, snds, List.getElem?_eq_getElem hlt]
        rw [hrd, Int.toNat_natCast] at hcell
        rw [hrd2, Int.toNat_natCast] at hcell2
        have hps := row_snoc pre y (runs x 64 0) hlt hp
        clear hrd hrd2
        generalize (runs x 64 0).getD pre.length (0, 0) = v at hcell hcell2 hps
        obtain ⟨y1, y2⟩ := y
        obtain ⟨v1, v2⟩ := v
        have bad : (y1 ≠ v1 ∨ y2 ≠ v2) → ¬ pre ++ [(y1, y2)] <+: runs x 64 0 := by
          intro h h'
          have e := hps.1 h'
          cases e
          rcases h with h | h <;> exact h rfl
        have goes : ∀ (a : Act) (U2 : World), Below U.heap.size U U2 → pre ++ [(y1, y2)] <+: runs x 64 0 → ownPostK (Below w4.heap.size) (fun pre W => ((pre <+: runs x 64 0 ∧ W.cell? ⟨w4.heap.size, 0, none⟩ = some (.int .i64 (pre.length : Int)) ∧ W.frozen? ⟨w4.heap.size, 0, none⟩ = false) ∧ Below w4.heap.size w4 W) ∧ W.heap[D]? = some (.deferred (some []))) (fun c pre W => c = .ret ∧ ¬ pre <+: runs x 64 0) (pre ++ [(y1, y2)]) U .normal a (U2.setCell ⟨w4.heap.size, 0, none⟩ (.int .i64 ((pre.length : Int) + 1))) := by
          intro a U2 hb hgood
          have q7 := (hb.cell (p := ⟨w4.heap.size, 0, none⟩) (by show w4.heap.size < _; omega)).trans hcn
          have q7f := (hb.frozen (p := ⟨w4.heap.size, 0, none⟩) (by show w4.heap.size < _; omega)).trans hfn
          have hko : KeepsOthers U (U2.setCell ⟨w4.heap.size, 0, none⟩ (.int .i64 ((pre.length : Int) + 1))) := KeepsOthers.trans ⟨hb.size, fun kk o h1 _ => (hb.block kk (Array.getElem?_eq_some_iff.1 h1).1).trans h1⟩ (KeepsOthers.setCell _ _ _)
          refine ⟨hko, (hb.mono (B' := w4.heap.size) (by omega)).setCell (p := ⟨w4.heap.size, 0, none⟩) (Nat.le_refl _) _, ⟨⟨hgood, ?_, ?_⟩, (hB.trans (hb.mono (B' := w4.heap.size) (by omega))).setCell (p := ⟨w4.heap.size, 0, none⟩) (Nat.le_refl _) _⟩, hko.same D _ hKD rfl⟩
          · rw [List.length_append]; exact World.cell?_setCell_same' _ _ _ (by rw [q7]; rfl)
          · rw [World.frozen?_setCell]; exact q7f
        by_cases h1 : (y1 : Int) = (v1 : Int)
        · have q1 : ((y1 : Int) != (v1 : Int)) = false := bne_eq_false_iff_eq.2 h1
          by_cases h2 : (y2 : Int) = (v2 : Int)
          · have q2 : ((y2 : Int) != (v2 : Int)) = false := bne_eq_false_iff_eq.2 h2
            have good : pre ++ [(y1, y2)] <+: runs x 64 0 := hps.2 (by rw [Int.ofNat_inj.1 h1, Int.ofNat_inj.1 h2])
            clear h1 h2 hps bad
            by_cases h3 : pre.length < 3
            · have h3b : decide (pre.length < 3) = true := decide_eq_true h3
              gi_wp2
              refine ⟨trivial, ?_⟩
              refine (CallsIn.inRound lr (callsIn_wide.2 (hg trivial))).mono ?_
              clear hg
              rintro e U2 ⟨rfl, hb⟩
              have q7 := (hb.cell (p := ⟨w4.heap.size, 0, none⟩) (by show w4.heap.size < _; omega)).trans hcn
              have q7f := (hb.frozen (p := ⟨w4.heap.size, 0, none⟩) (by show w4.heap.size < _; omega)).trans hfn
              gi_wp2
              exact goes _ U2 hb good
            · have h3b : decide (pre.length < 3) = false := decide_eq_false h3
              clear hg
              gi_wp2
              refine ⟨trivial, ?_⟩
              gi_wp2
              exact goes _ U (Below.refl _ _) good
          · have q2 : ((y2 : Int) != (v2 : Int)) = true := bne_iff_ne.2 h2
            have nb := bad (.inr (by omega))
            clear hg h1 h2 hps bad goes
            gi_wp2
            · rename_i hu _
              cases hu
            · rename_i hu _
              cases hu
            · refine ⟨trivial, ?_⟩
              gi_wp2
              exact ⟨KeepsOthers.setCell _ _ _, rfl, nb⟩
        · have q1 : ((y1 : Int) != (v1 : Int)) = true := bne_iff_ne.2 h1
          have nb := bad (.inl (by omega))
          clear hg h1 hps bad goes
          gi_wp2
          · rename_i hu _
            cases hu
          · rename_i hu _
            cases hu
          · refine ⟨trivial, ?_⟩
            gi_wp2
            exact ⟨KeepsOthers.setCell _ _ _, rfl, nb⟩
      case done =>
        rintro D2 ys U hD2 rfl ⟨⟨⟨hp, hcn, hfn⟩, hB⟩, hKD⟩ hK2
        have hUD : D < U.heap.size := (Array.getElem?_eq_some_iff.1 hKD).1
        have hUD2 : D2 < U.heap.size := (Array.getElem?_eq_some_iff.1 hK2).1
        have hlW := hl4.below hB
        have hlW2 := hl4b.below hB
        have m1 := (hB.cell (p := ⟨w.heap.size + 1, 0, none⟩) (by show w.heap.size + 1 < _; omega)).trans k1
        have m2 := (hB.frozen (p := ⟨w.heap.size + 1, 0, none⟩) (by show w.heap.size + 1 < _; omega)).trans k2
        have m5 := (hB.cell (p := ⟨w3.heap.size, 0, none⟩) (by show w3.heap.size < _; omega)).trans k5
        have m5b := (hB.cell (p := ⟨w3.heap.size + 1, 0, none⟩) (by show w3.heap.size + 1 < _; omega)).trans k5b
        have m6 := (hB.cell (p := ⟨w3.heap.size + 1 + 1 + 1, 0, none⟩) (by show w3.heap.size + 1 + 1 + 1 < _; omega)).trans k6
        have mx := (hB.cell (p := ⟨w3.heap.size + 1 + 1, 0, none⟩) (by show w3.heap.size + 1 + 1 < _; omega)).trans kx
        have hg := fun (_ : True) => runs_same x hx (w3.heap.size + 1 + 1) A A2 c c2 U (by omega) mx (hT4.below (n := w4.heap.size) (by omega) hB) (by omega) hlW hlW2 hlc hlc2
        have heq : (((runs x 64 0).length : Int) == ((runs x 64 0).length : Int)) = true := beq_self_eq_true _
        gi_wp2
        refine ⟨trivial, ?_⟩
        refine (callsIn_wide.2 (hg trivial)).mono ?_
        clear hg
        rintro e U2 ⟨rfl, hb⟩
        have p1 := (hb.cell (p := ⟨w.heap.size + 1, 0, none⟩) (by show w.heap.size + 1 < _; omega)).trans m1
        have p2 := (hb.frozen (p := ⟨w.heap.size + 1, 0, none⟩) (by show w.heap.size + 1 < _; omega)).trans m2
        gi_wp2
        have hU2 : U2.heap[D2]? = some (.deferred (some [])) := (hb.block D2 hUD2).trans hK2
        have hU1 : U2.heap[D]? = some (.deferred (some [])) := (hb.block D hUD).trans hKD
        have x2 := (KeepsOthers.setCell U2 ⟨w.heap.size + 1, 0, none⟩ (.bool true)).same D2 _ hU2 rfl
        have x1 := (KeepsOthers.setCell U2 ⟨w.heap.size + 1, 0, none⟩ (.bool true)).same D _ hU1 rfl
        have xc := World.cell?_setCell_same' U2 ⟨w.heap.size + 1, 0, none⟩ (.bool true) (by rw [p1]; rfl)
        have xB : Below w.heap.size w (U2.setCell ⟨w.heap.size + 1, 0, none⟩ (.bool true)) := (hB4.trans ((hB.mono (B' := w.heap.size) (by omega)).trans (hb.mono (B' := w.heap.size) (by omega)))).setCell (p := ⟨w.heap.size + 1, 0, none⟩) (Nat.le_succ _) _
        generalize U2.setCell ⟨w.heap.size + 1, 0, none⟩ (.bool true) = X at x2 x1 xc xB ⊢
        refine ⟨by simp, .inl ⟨_, _, rfl, run_takeDeferred x2, ?_⟩⟩
        have y1 : (X.putObj D2 (.deferred none)).heap[D]? = some (.deferred (some [])) := (World.putObj_heap_other (by omega)).trans x1
        have yc := cell_kept xc (grownBy_putObj' X D2 (.deferred none)) (fun r e => by cases e; exact ⟨_, x2, rfl⟩)
        have yB : Below w.heap.size w (X.putObj D2 (.deferred none)) := xB.trans (belowK_b (w := w) (Nat.le_refl _) X D2 _ _ (by omega) x2 rfl rfl)
        generalize X.putObj D2 (.deferred none) = Y at y1 yc yB ⊢
        refine ⟨by simp, .inl ⟨_, _, rfl, run_takeDeferred y1, ?_⟩⟩
        have zc := cell_kept yc (grownBy_putObj' Y D (.deferred none)) (fun r e => by cases e; exact ⟨_, y1, rfl⟩)
        have zB : Below w.heap.size w (Y.putObj D (.deferred none)) := yB.trans (belowK_b (w := w) (Nat.le_refl _) Y D _ _ (by omega) y1 rfl rfl)
        refine ⟨.bool true, ?_, rfl, zB⟩
        simp [results, Tryd.f4, go_sem, zc]
      case stop =>
        rintro D2 cc pre U hD2 hpre ⟨rfl, hin⟩ hK2
        exact absurd hpre hin
  have hz5 : (w4.alloc (.cells #[.int .i64 0] 3)).heap.size = w4.heap.size + 1 := by simp
  refine wpIn_rangeFunc_ownF hro (by decide) (gf := 20) (lb := #[.pointer (some ⟨w3.heap.size + 1 + 1, 0, none⟩)]) rfl trivial (enters_of Tryd.func20 (by kernel_rfl) rfl)
    (runs_stops (3 - 1) (w3.heap.size + 1 + 1) w4.heap.size (by omega) x hx _ (by omega) (by omega) nx hTN) belowK_t (belowK_b (by omega)) (Below.refl _ _) (fun _ => rfl)
    (fun pre W => (pre <+: runs x 64 0 ∧ W.cell? ⟨w4.heap.size, 0, none⟩ = some (.int .i64 (pre.length : Int)) ∧ W.frozen? ⟨w4.heap.size, 0, none⟩ = false) ∧ Below w4.heap.size w4 W)
    (fun c pre W => (c = .ret ∧ ¬ pre <+: runs x 64 0) ∨ (c = .exit 0 ∧ (W.cell? ⟨w4.heap.size, 0, none⟩ = some (.int .i64 k) ∧ W.frozen? ⟨w4.heap.size, 0, none⟩ = false) ∧ Below w4.heap.size w4 W))
    (OwnFrom.and (Own.from (fun s A B row hs hg hr => ⟨hs.1, cell_kept hs.2.1 hg hr, (frozen_kept hs.2.1 hg hr).trans hs.2.2⟩) _) (ownFrom_below (Nat.le_refl _) (by omega)))
    (fun c s W W' row hs hg hr => hs.elim .inl (fun h => .inr ⟨h.1, ⟨cell_kept h.2.1.1 hg (fun r e => (hr r e).2), (frozen_kept h.2.1.1 hg (fun r e => (hr r e).2)).trans h.2.1.2⟩, h.2.2.grown hg h.2.2.size (fun r e => by have := (hr r e).1; omega)⟩))
    ⟨⟨List.nil_prefix, n7.1, n7.2⟩, (Below.refl _ w4).alloc (Nat.le_refl _) _⟩
    (fun y => { tmps := #[.int .u64 (x : Int), .int .i64 k, undef, .pointer (some ⟨w.heap.size, 0, none⟩), .pointer (some ⟨w.heap.size + 1, 0, none⟩), .pointer (some ⟨w3.heap.size, 0, none⟩), .pointer (some ⟨w3.heap.size + 1, 0, none⟩), .pointer (some ⟨w3.heap.size + 1 + 1 + 1, 0, none⟩), .pointer (some ⟨w4.heap.size, 0, none⟩), .int .i64 (y.1 : Int), .int .i64 (y.2 : Int), undef, undef, .tuple #[.slice A (runs x 64 0).length c, .slice A2 (runs x 64 0).length c2], .int .u64 (x : Int), .tuple #[.slice A (runs x 64 0).length c, .slice A2 (runs x 64 0).length c2], .slice A (runs x 64 0).length c, .slice A2 (runs x 64 0).length c2, .int .u64 (x : Int), (.func (.func 20) #[] #[.pointer (some ⟨w3.heap.size + 1 + 1, 0, none⟩)]), (.func (.func 20) #[] #[.pointer (some ⟨w3.heap.size + 1 + 1, 0, none⟩)]), .bool false, .bool false, .func (.func 20) #[] #[.pointer (some ⟨w3.heap.size + 1 + 1 + 1 + 1, 0, none⟩)], .slice (some ⟨w3.heap.size + 1 + 1 + 1 + 1 + 1, 0, none⟩) 1 1, .slice (some ⟨w3.heap.size + 1 + 1 + 1 + 1 + 1 + 1, 0, none⟩) 1 1, .bool true, .bool false, .bool false, (.func (.func 20) #[] #[.pointer (some ⟨w3.heap.size + 1 + 1, 0, none⟩)]), .int .i64 (y.1 : Int), .int .i64 (y.2 : Int), undef, undef, undef, undef, undef, undef, undef, undef, undef, undef, undef, undef, undef, undef, undef, undef, undef, undef, undef, undef, undef, undef, undef, undef, undef, undef, undef, undef, undef, undef, undef, undef, undef, undef, undef, undef, undef, undef, undef, undef, undef, undef, undef, undef, undef, undef, undef, undef, undef, undef, undef, undef, undef, undef, undef, undef, undef, undef, undef, undef, undef, undef, undef, undef, undef, undef, undef, undef, undef, undef, undef, undef, undef, undef, undef, undef, undef, undef, undef, undef], defers := [] }) ?assign ?body ?done ?stop
  case assign =>
    intro lr y W K hK
    gi_wp2
    exact hK
  case body =>
    rintro lr pre y W ⟨⟨hp, hcn, hfn⟩, hB⟩ hlt
    have hlW := hl4.below hB
    have hlW2 := hl4b.below hB
    have m0 := (hB.cell (p := ⟨w.heap.size, 0, none⟩) (by show w.heap.size < _; omega)).trans k0
    have m1 := (hB.cell (p := ⟨w.heap.size + 1, 0, none⟩) (by show w.heap.size + 1 < _; omega)).trans k1
    have m2 := (hB.frozen (p := ⟨w.heap.size + 1, 0, none⟩) (by show w.heap.size + 1 < _; omega)).trans k2
    have m5 := (hB.cell (p := ⟨w3.heap.size, 0, none⟩) (by show w3.heap.size < _; omega)).trans k5
    have m5b := (hB.cell (p := ⟨w3.heap.size + 1, 0, none⟩) (by show w3.heap.size + 1 < _; omega)).trans k5b
    have hge : decide ((runs x 64 0).length ≤ pre.length) = false := decide_eq_false (by omega)
    obtain ⟨ad, rfl, hcell⟩ := hlW.at_ (pre.length : Int) (by omega) (by omega)
    obtain ⟨ad2, rfl, hcell2⟩ := hlW2.at_ (pre.length : Int) (by omega) (by omega)
    have hrd : rdOf 0 (fsts (runs x 64 0)) (pre.length : Int) = (((runs x 64 0).getD pre.length (0, 0)).1 : Int) := by
      simp [rdOf, fsts, List.getElem?_eq_getElem hlt]
    have hrd2 : rdOf 0 (snds (runs x 64 0)) (pre.length : Int) = (((runs x 64 0).getD pre.length (0, 0)).2 : Int) := by
      simp [rdOf, snds, List.getElem?_eq_getElem hlt]
    rw [hrd, Int.toNat_natCast] at hcell
    rw [hrd2, Int.toNat_natCast] at hcell2
    have hps := row_snoc pre y (runs x 64 0) hlt hp
    clear hrd hrd2
    generalize (runs x 64 0).getD pre.length (0, 0) = v at hcell hcell2 hps
    obtain ⟨y1, y2⟩ := y
    obtain ⟨v1, v2⟩ := v
    have bad : (y1 ≠ v1 ∨ y2 ≠ v2) → ¬ pre ++ [(y1, y2)] <+: runs x 64 0 := by
      intro h h'
      have e := hps.1 h'
      cases e
      rcases h with h | h <;> exact h rfl
    by_cases h1 : (y1 : Int) = (v1 : Int)
    · have q1 : ((y1 : Int) != (v1 : Int)) = false := bne_eq_false_iff_eq.2 h1
      by_cases h2 : (y2 : Int) = (v2 : Int)
      · have q2 : ((y2 : Int) != (v2 : Int)) = false := bne_eq_false_iff_eq.2 h2
        have good : pre ++ [(y1, y2)] <+: runs x 64 0 := hps.2 (by rw [Int.ofNat_inj.1 h1, Int.ofNat_inj.1 h2])
        clear h1 h2 hps bad
        gi_wp2
        · rename_i hx2
          refine ⟨KeepsOthers.refl _, .inr ⟨rfl, ⟨?_, hfn⟩, hB⟩⟩
          rw [hcn, eq_of_beq hx2]
        · refine ⟨KeepsOthers.setCell _ _ _, (Below.refl w4.heap.size W).setCell (p := ⟨w4.heap.size, 0, none⟩) (Nat.le_refl _) _, ⟨good, ?_, ?_⟩, hB.setCell (p := ⟨w4.heap.size, 0, none⟩) (Nat.le_refl _) _⟩
          · rw [List.length_append]; exact World.cell?_setCell_same' _ _ _ (by rw [hcn]; rfl)
          · rw [World.frozen?_setCell]; exact hfn
      · have q2 : ((y2 : Int) != (v2 : Int)) = true := bne_iff_ne.2 h2
        have nb := bad (.inr (by omega))
        clear h1 h2 hps bad
        gi_wp2
        exact ⟨KeepsOthers.setCell _ _ _, .inl ⟨rfl, nb⟩⟩
    · have q1 : ((y1 : Int) != (v1 : Int)) = true := bne_iff_ne.2 h1
      have nb := bad (.inl (by omega))
      clear h1 hps bad
      gi_wp2
      exact ⟨KeepsOthers.setCell _ _ _, .inl ⟨rfl, nb⟩⟩
  case done =>
    rintro D ys W hD rfl ⟨⟨hp, hcn, hfn⟩, hB⟩ hK
    exact rest D W _ (by omega) (.inr rfl) hcn hfn hB hK
  case stop =>
    rintro D cc pre W hD hpre (⟨rfl, hin⟩ | ⟨rfl, ⟨hcn, hfn⟩, hB⟩) hK
    · exact absurd hpre hin
    · exact wpIn_exit (rest D W _ (by omega) (.inl rfl) hcn hfn hB hK)
end Go.Proofs.YtjjnmpidlkjeiaaDoor
