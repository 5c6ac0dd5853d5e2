/- WordsSets: the walk. -/
import Derived.Laws.EntriesVeiled
import Derived.Test.YtjjnmpidlkjeiaaDoorGives
import Derived.Test.YtjjnmpidlkjeiaaDoorRefEach
set_option linter.unusedVariables false
namespace Go.Proofs.YtjjnmpidlkjeiaaDoor
open Go.RowKit Go.Shelf Go.Proofs.YtjjnmpidlkjeiaaDoorW.PrintWords
attribute [local go_sem] Oper.semAt_some
attribute [local go_sem] seq_some

theorem pair_cell (w7 : World) (a b : Value) (t : TypeId) : (w7.alloc (.cells #[a, b] t)).cell? ((⟨w7.heap.size, 0, none⟩ : Addr).add 0) = some a ∧ (w7.alloc (.cells #[a, b] t)).cell? ((⟨w7.heap.size, 0, none⟩ : Addr).add 1) = some b := by
  have h := World.alloc_heap_new w7 (Obj.cells #[a, b] t)
  have e0 : ((⟨w7.heap.size, 0, none⟩ : Addr).add 0) = ⟨w7.heap.size, 0, none⟩ := rfl
  have e1 : ((⟨w7.heap.size, 0, none⟩ : Addr).add 1) = ⟨w7.heap.size, 1, none⟩ := rfl
  rw [e0, e1]
  constructor
  · unfold World.cell?
    simp only [h]
    rfl
  · unfold World.cell?
    simp only [h]
    rfl
theorem gives_same (x0 : Nat) (hx0 : x0 < 18446744073709551616) (Bn : Nat) (A : Option Addr) (c : Nat) (w : World) (hBn : Bn < w.heap.size) (hc : w.cell? ⟨Bn, 0, none⟩ = some (.int .u64 (x0 : Int))) (hT : TzTab w) (hTb : 0 < w.heap.size)
    (hl : ReadsOf (fun i : Int => Value.int .i64 i) 0 w A (places x0).length ((places x0).map (fun i : Nat => (i : Int)))) (hlc : (places x0).length ≤ c) :
    Calls Tryd.prog 9 #[.func (.func 18) #[] #[.pointer (some ⟨Bn, 0, none⟩)], .slice A (places x0).length c] w fun e W' => e = .returned (.bool true) ∧ Below w.heap.size w W' := by
  have h := gives_calls x0 hx0 Bn A c ((places x0).map (fun i : Nat => (i : Int))) w hBn hc hT hTb (by rw [List.length_map]; exact hl) (by rw [List.length_map]; exact hlc)
  rw [List.length_map, decide_eq_true rfl] at h
  exact h
set_option maxHeartbeats 4000000 in
theorem sets_calls (x : Nat) (hx : x < 18446744073709551616) (k : Int) (w : World) (hT : TzTab w) (hTb : 0 < w.heap.size) :
    Calls Tryd.prog 3 #[.int .u64 (x : Int), .int .i64 k] w fun e W' => e = .returned (.bool true) ∧ Below w.heap.size w W' := by
  refine (callsIn_wide (n := 3)).1 ?_
  have hro : Fence.wide.round = none := rfl
  refine callsIn_of_wp_marks Tryd.func3 rfl trivial ?_ rfl
  simp only [Tryd.ntmps3, List.size_toArray, List.length_cons, List.length_nil, Nat.reduceAdd, Nat.reduceSub, Array.replicate_succ, Array.replicate_zero, List.push_toArray, List.append_toArray, List.nil_append, List.cons_append]
  gi_wp2_with (first
    | (refine ⟨trivial, ?_⟩; gi_at_call 7; refine (callsIn_wide.2 (ref_calls x hx _)).mono ?_; rintro e w3 ⟨A, c, rfl, hlc, hl, hb3⟩)
    | (refine ⟨trivial, ?_⟩; gi_at_call 8; refine (callsIn_wide.2 (each_calls _ _)).mono ?_; rintro e w' ⟨rfl, rfl⟩)
    | fail)
  simp only [List.length_map] at hlc hl
  have hB2 : Below w.heap.size w ((w.alloc (.cells #[.int .i64 k] 3)).alloc (.cells #[.bool false] 4)) := ((Below.refl _ w).alloc (Nat.le_refl _) _).alloc (by simp) _
  have c0 := cell_new_l w (.int .i64 k) 3
  have c1 := cell_new_l (w.alloc (.cells #[.int .i64 k] 3)) (.bool false) 4
  have hsz : ((w.alloc (.cells #[.int .i64 k] 3)).alloc (.cells #[.bool false] 4)).heap.size = w.heap.size + 1 + 1 := by simp
  rw [World.size_alloc] at c1
  have hB3 : Below w.heap.size w w3 := hB2.trans (hb3.mono (by omega))
  have d0 : w3.cell? ⟨w.heap.size, 0, none⟩ = some (.int .i64 k) := (hb3.cell (p := ⟨w.heap.size, 0, none⟩) (by show w.heap.size < _; omega)).trans (cell_alloc_l _ c0.1)
  have d1 : w3.cell? ⟨w.heap.size + 1, 0, none⟩ = some (.bool false) := (hb3.cell (p := ⟨w.heap.size + 1, 0, none⟩) (by show w.heap.size + 1 < _; omega)).trans c1.1
  have d2 : w3.frozen? ⟨w.heap.size + 1, 0, none⟩ = false := (hb3.frozen (p := ⟨w.heap.size + 1, 0, none⟩) (by show w.heap.size + 1 < _; omega)).trans c1.2
  have hs3 : w.heap.size + 1 + 1 ≤ w3.heap.size := by have := hb3.size; omega
  have e5 := cell_new_l w3 (.slice A (places x).length c) 23
  have ex := cell_new_l (w3.alloc (.cells #[.slice A (places x).length c] 23)) (.int .u64 (x : Int)) 22
  have e6 := cell_new_l ((w3.alloc (.cells #[.slice A (places x).length c] 23)).alloc (.cells #[.int .u64 (x : Int)] 22)) (.func (.func 18) #[] #[.pointer (some ⟨w3.heap.size + 1, 0, none⟩)]) 26
  simp only [World.size_alloc] at ex e6
  have f5 := cell_alloc_l (.cells #[.func (.func 18) #[] #[.pointer (some ⟨w3.heap.size + 1, 0, none⟩)]] 26) (cell_alloc_l (.cells #[.int .u64 (x : Int)] 22) e5.1)
  have fx := cell_alloc_l (.cells #[.func (.func 18) #[] #[.pointer (some ⟨w3.heap.size + 1, 0, none⟩)]] 26) ex.1
  have f6 := e6.1
  have hB6 : Below w3.heap.size w3 (((w3.alloc (.cells #[.slice A (places x).length c] 23)).alloc (.cells #[.int .u64 (x : Int)] 22)).alloc (.cells #[.func (.func 18) #[] #[.pointer (some ⟨w3.heap.size + 1, 0, none⟩)]] 26)) := (((Below.refl _ w3).alloc (Nat.le_refl _) _).alloc (by simp) _).alloc (by simp; omega) _
  have hz6 : (((w3.alloc (.cells #[.slice A (places x).length c] 23)).alloc (.cells #[.int .u64 (x : Int)] 22)).alloc (.cells #[.func (.func 18) #[] #[.pointer (some ⟨w3.heap.size + 1, 0, none⟩)]] 26)).heap.size = w3.heap.size + 1 + 1 + 1 := by simp
  generalize (((w3.alloc (.cells #[.slice A (places x).length c] 23)).alloc (.cells #[.int .u64 (x : Int)] 22)).alloc (.cells #[.func (.func 18) #[] #[.pointer (some ⟨w3.heap.size + 1, 0, none⟩)]] 26)) = w6 at f5 fx f6 hB6 hz6 ⊢
  have g5 := cell_new_l w6 (.int .u64 5) 22
  have hBq : Below w.heap.size w ((w6.alloc (.cells #[.int .u64 5] 22)).alloc (.cells #[.int .i64 0, .int .i64 2] 3)) := ((hB3.trans (hB6.mono (by omega))).alloc (by omega) _).alloc (by simp; omega) _
  refine ⟨trivial, ?_⟩
  refine (callsIn_wide.2 (gives_calls 5 (by decide) (w3.heap.size + 1 + 1 + 1) (some ⟨w3.heap.size + 1 + 1 + 1 + 1, 0, none⟩) 2 [0, 2] _ ?_ ?_ ?_ ?_ ?_ ?_)).mono ?_
  · simp only [World.size_alloc]; omega
  · rw [← hz6]; exact cell_alloc_l _ g5.1
  · exact hT.below hTb hBq
  · simp only [World.size_alloc]; omega
  · refine ⟨rfl, by decide, fun _ => ⟨_, rfl, ?_⟩⟩
    intro j hj
    have hz7 : (w6.alloc (.cells #[.int .u64 5] 22)).heap.size = w3.heap.size + 1 + 1 + 1 + 1 := by rw [World.size_alloc, hz6]
    rw [← hz7]
    generalize w6.alloc (.cells #[.int .u64 5] 22) = w7
    have hj2 : j = 0 ∨ j = 1 := by
      have : j < 2 := hj
      omega
    rcases hj2 with rfl | rfl
    · exact (pair_cell w7 (.int .i64 0) (.int .i64 2) 3).1
    · exact (pair_cell w7 (.int .i64 0) (.int .i64 2) 3).2
  · decide
  rintro e w4 ⟨rfl, hb4⟩
  rw [decide_eq_true (show ([0, 2] : List Int) = (places 5).map (fun i : Nat => (i : Int)) by decide)]
  have hq6 : Below w6.heap.size w6 w4 := ((Below.refl _ w6).alloc (Nat.le_refl _) _ |>.alloc (by simp) _).trans (hb4.mono (by simp; omega))
  clear hb4
  have hB4 : Below w.heap.size w w4 := (hB3.trans (hB6.mono (by omega))).trans (hq6.mono (by omega))
  have k0 : w4.cell? ⟨w.heap.size, 0, none⟩ = some (.int .i64 k) := (hq6.cell (p := ⟨w.heap.size, 0, none⟩) (by show w.heap.size < _; omega)).trans ((hB6.cell (p := ⟨w.heap.size, 0, none⟩) (by show w.heap.size < _; omega)).trans d0)
  have k1 : w4.cell? ⟨w.heap.size + 1, 0, none⟩ = some (.bool false) := (hq6.cell (p := ⟨w.heap.size + 1, 0, none⟩) (by show w.heap.size + 1 < _; omega)).trans ((hB6.cell (p := ⟨w.heap.size + 1, 0, none⟩) (by show w.heap.size + 1 < _; omega)).trans d1)
  have k2 : w4.frozen? ⟨w.heap.size + 1, 0, none⟩ = false := (hq6.frozen (p := ⟨w.heap.size + 1, 0, none⟩) (by show w.heap.size + 1 < _; omega)).trans ((hB6.frozen (p := ⟨w.heap.size + 1, 0, none⟩) (by show w.heap.size + 1 < _; omega)).trans d2)
  have k5 : w4.cell? ⟨w3.heap.size, 0, none⟩ = _ := (hq6.cell (p := ⟨w3.heap.size, 0, none⟩) (by show w3.heap.size < _; omega)).trans f5
  have kx : w4.cell? ⟨w3.heap.size + 1, 0, none⟩ = _ := (hq6.cell (p := ⟨w3.heap.size + 1, 0, none⟩) (by show w3.heap.size + 1 < _; omega)).trans fx
  have k6 : w4.cell? ⟨w3.heap.size + 1 + 1, 0, none⟩ = _ := (hq6.cell (p := ⟨w3.heap.size + 1 + 1, 0, none⟩) (by show w3.heap.size + 1 + 1 < _; omega)).trans f6
  have hl4 := hl.below (hB6.trans (hq6.mono (by omega)))
  have hs4 : w3.heap.size + 1 + 1 + 1 ≤ w4.heap.size := by have := hq6.size; omega
  have hT4 : TzTab w4 := hT.below hTb hB4
  clear f5 fx f6 hq6 hB6 hBq g5 d0 d1 d2 hB2 c0 c1 e5 ex e6 hl hb3 hsz
  have n0 := cell_alloc_l (.cells #[.int .i64 0] 3) k0
  have n1 := cell_alloc_l (.cells #[.int .i64 0] 3) k1
  have n2 := frozen_alloc_l (.cells #[.int .i64 0] 3) k1 k2
  have n5 := cell_alloc_l (.cells #[.int .i64 0] 3) k5
  have nx := cell_alloc_l (.cells #[.int .i64 0] 3) kx
  have n6 := cell_alloc_l (.cells #[.int .i64 0] 3) k6
  have n7 := cell_new_l w4 (.int .i64 0) 3
  have hlN := hl4.below (below_alloc (Below.refl _ _) (.cells #[.int .i64 0] 3))
  have hTN := hT4.below (n := w.heap.size) hTb ((Below.refl _ w4).alloc (by omega) (.cells #[.int .i64 0] 3))
  have hBN : Below w.heap.size w (w4.alloc (.cells #[.int .i64 0] 3)) := hB4.alloc (by omega) _
  gi_wp2
  rename_i Q1 K1 hK1
  have rest : ∀ (D : Nat) (W : World) (nv : Int), w4.heap.size + 1 ≤ D → (nv = k ∨ nv = ((places x).length : Int)) → W.cell? ⟨w4.heap.size, 0, none⟩ = some (.int .i64 nv) → W.frozen? ⟨w4.heap.size, 0, none⟩ = false → Below w4.heap.size w4 W → W.heap[D]? = some (.deferred (some [])) → K1 { tmps := #[.int .u64 (x : Int), .int .i64 k, undef, .pointer (some ⟨w.heap.size, 0, none⟩), .pointer (some ⟨w.heap.size + 1, 0, none⟩), .pointer (some ⟨w3.heap.size, 0, none⟩), .pointer (some ⟨w3.heap.size + 1 + 1, 0, none⟩), .pointer (some ⟨w4.heap.size, 0, none⟩), undef, undef, .int .u64 (x : Int), .slice A (places x).length c, .int .u64 (x : Int), (.func (.func 18) #[] #[.pointer (some ⟨w3.heap.size + 1, 0, none⟩)]), (.func (.func 18) #[] #[.pointer (some ⟨w3.heap.size + 1, 0, none⟩)]), .bool false, .bool false, .func (.func 18) #[] #[.pointer (some ⟨w3.heap.size + 1 + 1 + 1, 0, none⟩)], .slice (some ⟨w3.heap.size + 1 + 1 + 1 + 1, 0, none⟩) 2 2, .bool true, .bool false, .bool false, (.func (.func 18) #[] #[.pointer (some ⟨w3.heap.size + 1, 0, none⟩)]), undef, undef, undef, undef, undef, undef, undef, undef, undef, undef, undef, undef, undef, undef, undef, undef, undef, undef, undef, undef, undef, undef, undef, undef, undef, undef, undef, undef, undef, undef, undef, undef, undef, undef, undef, undef, undef, undef, undef, undef, undef, undef, undef, undef, undef, undef, undef, undef, undef, undef, undef, undef, undef, undef, undef, undef, undef, undef, undef, undef, undef, undef], defers := [{ target := .collected D, args := #[] }] } W := by
    intro D W nv hD hnv hcn hfn hB hK
    apply hK1
    have m0 := (hB.cell (p := ⟨w.heap.size, 0, none⟩) (by show w.heap.size < _; omega)).trans k0
    have m1 := (hB.cell (p := ⟨w.heap.size + 1, 0, none⟩) (by show w.heap.size + 1 < _; omega)).trans k1
    have m2 := (hB.frozen (p := ⟨w.heap.size + 1, 0, none⟩) (by show w.heap.size + 1 < _; omega)).trans k2
    have m5 := (hB.cell (p := ⟨w3.heap.size, 0, none⟩) (by show w3.heap.size < _; omega)).trans k5
    have m6 := ((hB.setCell (p := ⟨w4.heap.size, 0, none⟩) (Nat.le_refl _) (.int .i64 0)).cell (p := ⟨w3.heap.size + 1 + 1, 0, none⟩) (by show w3.heap.size + 1 + 1 < _; omega)).trans k6
    have hv : ((nv != k) = false ∧ nv = nv) ∨ ((nv != k) = true ∧ (nv != ((places x).length : Int)) = false) := by
      by_cases h : nv = k
      · left; simp [h]
      · right
        rcases hnv with h1 | h1
        · exact absurd h1 h
        · exact ⟨bne_iff_ne.2 h, bne_eq_false_iff_eq.2 h1⟩
    have hBV := hB.setCell (p := ⟨w4.heap.size, 0, none⟩) (Nat.le_refl _) (.int .i64 0)
    have v7 := World.cell?_setCell_same' W ⟨w4.heap.size, 0, none⟩ (.int .i64 0) (by rw [hcn]; rfl)
    have v7f : (W.setCell ⟨w4.heap.size, 0, none⟩ (.int .i64 0)).frozen? ⟨w4.heap.size, 0, none⟩ = false := by rw [World.frozen?_setCell]; exact hfn
    have hKV := (KeepsOthers.setCell W ⟨w4.heap.size, 0, none⟩ (.int .i64 0)).same D _ hK rfl
    have hlen : ((places x).map (fun i : Nat => (i : Int))).length = (places x).length := List.length_map _
    have hmax : (places x).length ≤ 64 := places_length x
    rcases hv with ⟨hv1, hv2⟩ | ⟨hv1, hv2⟩
    all_goals gi_wp2
    all_goals clear hB hcn hfn hK m0 m1 m2 m5 m6
    all_goals generalize W.setCell ⟨w4.heap.size, 0, none⟩ (.int .i64 0) = V at hBV v7 v7f hKV ⊢
    all_goals clear W
    · have hVD : D < V.heap.size := (Array.getElem?_eq_some_iff.1 hKV).1
      have vx := (hBV.cell (p := ⟨w3.heap.size + 1, 0, none⟩) (by show w3.heap.size + 1 < _; omega)).trans kx
      have hTV := hT4.below (n := w4.heap.size) (by omega) hBV
      refine wpIn_rangeFunc_ownF hro (by decide) (gf := 18) (lb := #[.pointer (some ⟨w3.heap.size + 1, 0, none⟩)]) rfl trivial (enters_of Tryd.func18 (by kernel_rfl) rfl)
        (each_stops (3 - 1) (w3.heap.size + 1) w4.heap.size (by omega) x hx V (by omega) (by omega) vx hTV) belowK_t (belowK_b (by omega)) (Below.refl _ _) (fun _ => rfl)
        (fun pre W => ((pre.map (fun i : Nat => (i : Int)) <+: (places x).map (fun i : Nat => (i : Int)) ∧ W.cell? ⟨w4.heap.size, 0, none⟩ = some (.int .i64 (pre.length : Int)) ∧ W.frozen? ⟨w4.heap.size, 0, none⟩ = false) ∧ Below w4.heap.size w4 W) ∧ W.heap[D]? = some (.deferred (some [])))
        (fun c pre W => c = .ret ∧ ¬ pre.map (fun i : Nat => (i : Int)) <+: (places x).map (fun i : Nat => (i : Int)))
        (OwnFrom.and (OwnFrom.and (Own.from (fun s A B row hs hg hr => ⟨hs.1, cell_kept hs.2.1 hg hr, (frozen_kept hs.2.1 hg hr).trans hs.2.2⟩) _) (ownFrom_below (Nat.le_refl _) (by omega))) (fun s A B row hs hg hr => (hg.block D (Array.getElem?_eq_some_iff.1 hs).1 (fun e => by have := (hr D (by first | exact e | exact e.symm)).1; omega)).trans hs))
        (fun c s W W' row hs hg hr => hs)
        ⟨⟨⟨List.nil_prefix, v7, v7f⟩, hBV⟩, hKV⟩ (fun y => { tmps := #[.int .u64 (x : Int), .int .i64 k, undef, .pointer (some ⟨w.heap.size, 0, none⟩), .pointer (some ⟨w.heap.size + 1, 0, none⟩), .pointer (some ⟨w3.heap.size, 0, none⟩), .pointer (some ⟨w3.heap.size + 1 + 1, 0, none⟩), .pointer (some ⟨w4.heap.size, 0, none⟩), undef, .int .i64 (y : Int), .int .u64 (x : Int), .slice A (places x).length c, .int .u64 (x : Int), (.func (.func 18) #[] #[.pointer (some ⟨w3.heap.size + 1, 0, none⟩)]), (.func (.func 18) #[] #[.pointer (some ⟨w3.heap.size + 1, 0, none⟩)]), .bool false, .bool false, .func (.func 18) #[] #[.pointer (some ⟨w3.heap.size + 1 + 1 + 1, 0, none⟩)], .slice (some ⟨w3.heap.size + 1 + 1 + 1 + 1, 0, none⟩) 2 2, .bool true, .bool false, .bool false, (.func (.func 18) #[] #[.pointer (some ⟨w3.heap.size + 1, 0, none⟩)]), undef, undef, undef, undef, undef, undef, undef, undef, undef, undef, undef, undef, undef, undef, undef, undef, undef, undef, .int .i64 nv, .int .i64 k, .bool false, .bool false, undef, undef, undef, undef, .bool false, (.func (.func 18) #[] #[.pointer (some ⟨w3.heap.size + 1, 0, none⟩)]), .int .i64 (y : Int), undef, undef, undef, undef, undef, undef, undef, undef, undef, undef, undef, undef, undef, undef, undef, undef, undef, undef, undef, undef, undef, undef, undef, undef, undef, undef, undef, undef, undef, undef, undef, undef, undef], defers := [] }) ?assign ?body ?done ?stop
      case assign =>
        intro lr y W K hK
        gi_wp2
        exact hK
      case body =>
        clear hK1
        rintro lr pre y U ⟨⟨⟨hp, hcn, hfn⟩, hB⟩, hKD⟩ hlt
        have hUD : D < U.heap.size := (Array.getElem?_eq_some_iff.1 hKD).1
        have hlW := hl4.below hB
        have m1 := (hB.cell (p := ⟨w.heap.size + 1, 0, none⟩) (by show w.heap.size + 1 < _; omega)).trans k1
        have m2 := (hB.frozen (p := ⟨w.heap.size + 1, 0, none⟩) (by show w.heap.size + 1 < _; omega)).trans k2
        have m5 := (hB.cell (p := ⟨w3.heap.size, 0, none⟩) (by show w3.heap.size < _; omega)).trans k5
        have m6 := (hB.cell (p := ⟨w3.heap.size + 1 + 1, 0, none⟩) (by show w3.heap.size + 1 + 1 < _; omega)).trans k6
        have mx := (hB.cell (p := ⟨w3.heap.size + 1, 0, none⟩) (by show w3.heap.size + 1 < _; omega)).trans kx
        have hg := fun (_ : True) => gives_same x hx (w3.heap.size + 1) A c U (by omega) mx (hT4.below (n := w4.heap.size) (by omega) hB) (by omega) hlW hlc
        have hge : decide ((places x).length ≤ pre.length) = false := decide_eq_false (by omega)
        obtain ⟨ad, rfl, hcell⟩ := hlW.at_ (pre.length : Int) (by omega) (by omega)
        have hrd : rdOf 0 ((places x).map (fun i : Nat => (i : Int))) (pre.length : Int) = ((places x).map (fun i : Nat => (i : Int))).getD pre.length 0 := by simp [rdOf]
        rw [hrd, Int.toNat_natCast] at hcell
        have hps := pre_snoc pre y _ (by rw [hlen]; exact hlt) hp
        have hgd : ((places x).map (fun i : Nat => (i : Int))).getD pre.length 0 = ((places x).map (fun i : Nat => (i : Int)))[pre.length]'(by rw [hlen]; exact hlt) := by rw [List.getD_eq_getElem?_getD, List.getElem?_eq_getElem (by rw [hlen]; exact hlt)]; rfl
        rw [← hgd] at hps
        generalize ((places x).map (fun i : Nat => (i : Int))).getD pre.length 0 = v at hcell hps
        have goes : ∀ (a : Act) (U2 : World), Below U.heap.size U U2 → (y : Int) = v → ownPostK (Below w4.heap.size) (fun pre W => ((pre.map (fun i : Nat => (i : Int)) <+: (places x).map (fun i : Nat => (i : Int)) ∧ W.cell? ⟨w4.heap.size, 0, none⟩ = some (.int .i64 (pre.length : Int)) ∧ W.frozen? ⟨w4.heap.size, 0, none⟩ = false) ∧ Below w4.heap.size w4 W) ∧ W.heap[D]? = some (.deferred (some []))) (fun c pre W => c = .ret ∧ ¬ pre.map (fun i : Nat => (i : Int)) <+: (places x).map (fun i : Nat => (i : Int))) (pre ++ [y]) U .normal a (U2.setCell ⟨w4.heap.size, 0, none⟩ (.int .i64 ((pre.length : Int) + 1))) := by
          intro a U2 hb hyv
          have q7 := (hb.cell (p := ⟨w4.heap.size, 0, none⟩) (by show w4.heap.size < _; omega)).trans hcn
          have q7f := (hb.frozen (p := ⟨w4.heap.size, 0, none⟩) (by show w4.heap.size < _; omega)).trans hfn
          have hko : KeepsOthers U (U2.setCell ⟨w4.heap.size, 0, none⟩ (.int .i64 ((pre.length : Int) + 1))) := KeepsOthers.trans ⟨hb.size, fun kk o h1 _ => (hb.block kk (Array.getElem?_eq_some_iff.1 h1).1).trans h1⟩ (KeepsOthers.setCell _ _ _)
          refine ⟨hko, (hb.mono (B' := w4.heap.size) (by omega)).setCell (p := ⟨w4.heap.size, 0, none⟩) (Nat.le_refl _) _, ⟨⟨hps.2 hyv, ?_, ?_⟩, (hB.trans (hb.mono (B' := w4.heap.size) (by omega))).setCell (p := ⟨w4.heap.size, 0, none⟩) (Nat.le_refl _) _⟩, hko.same D _ hKD rfl⟩
          · rw [List.length_append]; exact World.cell?_setCell_same' _ _ _ (by rw [q7]; rfl)
          · rw [World.frozen?_setCell]; exact q7f
        by_cases hyv : (y : Int) = v
        · by_cases h3 : pre.length < 3
          · have h3b : decide (pre.length < 3) = true := decide_eq_true h3
            gi_wp2
            refine ⟨trivial, ?_⟩
            refine (CallsIn.inRound lr (callsIn_wide.2 (hg trivial))).mono ?_
            clear hg
            rintro e U2 ⟨rfl, hb⟩
            have q7 := (hb.cell (p := ⟨w4.heap.size, 0, none⟩) (by show w4.heap.size < _; omega)).trans hcn
            have q7f := (hb.frozen (p := ⟨w4.heap.size, 0, none⟩) (by show w4.heap.size < _; omega)).trans hfn
            gi_wp2
            exact goes _ U2 hb hyv
          · have h3b : decide (pre.length < 3) = false := decide_eq_false h3
            clear hg
            gi_wp2
            refine ⟨trivial, ?_⟩
            gi_wp2
            exact goes _ U (Below.refl _ _) hyv
        · clear hg
          gi_wp2
          · rename_i hu _
            cases hu
          · rename_i hu _
            cases hu
          · refine ⟨trivial, ?_⟩
            gi_wp2
            exact ⟨KeepsOthers.setCell _ _ _, rfl, fun h => hyv (hps.1 h)⟩
      case done =>
        rintro D2 ys U hD2 rfl ⟨⟨⟨hp, hcn, hfn⟩, hB⟩, hKD⟩ hK2
        have hUD : D < U.heap.size := (Array.getElem?_eq_some_iff.1 hKD).1
        have hUD2 : D2 < U.heap.size := (Array.getElem?_eq_some_iff.1 hK2).1
        have hlW := hl4.below hB
        have m1 := (hB.cell (p := ⟨w.heap.size + 1, 0, none⟩) (by show w.heap.size + 1 < _; omega)).trans k1
        have m2 := (hB.frozen (p := ⟨w.heap.size + 1, 0, none⟩) (by show w.heap.size + 1 < _; omega)).trans k2
        have m5 := (hB.cell (p := ⟨w3.heap.size, 0, none⟩) (by show w3.heap.size < _; omega)).trans k5
        have m6 := (hB.cell (p := ⟨w3.heap.size + 1 + 1, 0, none⟩) (by show w3.heap.size + 1 + 1 < _; omega)).trans k6
        have mx := (hB.cell (p := ⟨w3.heap.size + 1, 0, none⟩) (by show w3.heap.size + 1 < _; omega)).trans kx
        have hg := fun (_ : True) => gives_same x hx (w3.heap.size + 1) A c U (by omega) mx (hT4.below (n := w4.heap.size) (by omega) hB) (by omega) hlW hlc
        have heq : (((places x).length : Int) == ((places x).length : Int)) = true := beq_self_eq_true _
        gi_wp2
        refine ⟨trivial, ?_⟩
        refine (callsIn_wide.2 (hg trivial)).mono ?_
        clear hg
        rintro e U2 ⟨rfl, hb⟩
        have p1 := (hb.cell (p := ⟨w.heap.size + 1, 0, none⟩) (by show w.heap.size + 1 < _; omega)).trans m1
        have p2 := (hb.frozen (p := ⟨w.heap.size + 1, 0, none⟩) (by show w.heap.size + 1 < _; omega)).trans m2
        gi_wp2
        have hU2 : U2.heap[D2]? = some (.deferred (some [])) := (hb.block D2 hUD2).trans hK2
        have hU1 : U2.heap[D]? = some (.deferred (some [])) := (hb.block D hUD).trans hKD
        have x2 := (KeepsOthers.setCell U2 ⟨w.heap.size + 1, 0, none⟩ (.bool true)).same D2 _ hU2 rfl
        have x1 := (KeepsOthers.setCell U2 ⟨w.heap.size + 1, 0, none⟩ (.bool true)).same D _ hU1 rfl
        have xc := World.cell?_setCell_same' U2 ⟨w.heap.size + 1, 0, none⟩ (.bool true) (by rw [p1]; rfl)
        have xB : Below w.heap.size w (U2.setCell ⟨w.heap.size + 1, 0, none⟩ (.bool true)) := (hB4.trans ((hB.mono (B' := w.heap.size) (by omega)).trans (hb.mono (B' := w.heap.size) (by omega)))).setCell (p := ⟨w.heap.size + 1, 0, none⟩) (Nat.le_succ _) _
        generalize U2.setCell ⟨w.heap.size + 1, 0, none⟩ (.bool true) = X at x2 x1 xc xB ⊢
        refine ⟨by simp, .inl ⟨_, _, rfl, run_takeDeferred x2, ?_⟩⟩
        have y1 : (X.putObj D2 (.deferred none)).heap[D]? = some (.deferred (some [])) := (World.putObj_heap_other (by omega)).trans x1
        have yc := cell_kept xc (grownBy_putObj' X D2 (.deferred none)) (fun r e => by cases e; exact ⟨_, x2, rfl⟩)
        have yB : Below w.heap.size w (X.putObj D2 (.deferred none)) := xB.trans (belowK_b (w := w) (Nat.le_refl _) X D2 _ _ (by omega) x2 rfl rfl)
        generalize X.putObj D2 (.deferred none) = Y at y1 yc yB ⊢
        refine ⟨by simp, .inl ⟨_, _, rfl, run_takeDeferred y1, ?_⟩⟩
        have zc := cell_kept yc (grownBy_putObj' Y D (.deferred none)) (fun r e => by cases e; exact ⟨_, y1, rfl⟩)
        have zB : Below w.heap.size w (Y.putObj D (.deferred none)) := yB.trans (belowK_b (w := w) (Nat.le_refl _) Y D _ _ (by omega) y1 rfl rfl)
        refine ⟨.bool true, ?_, rfl, zB⟩
        simp [results, Tryd.f3, go_sem, zc]
      case stop =>
        rintro D2 cc pre U hD2 hpre ⟨rfl, hin⟩ hK2
        exact absurd (hpre.map _) hin
    · have hVD : D < V.heap.size := (Array.getElem?_eq_some_iff.1 hKV).1
      have vx := (hBV.cell (p := ⟨w3.heap.size + 1, 0, none⟩) (by show w3.heap.size + 1 < _; omega)).trans kx
      have hTV := hT4.below (n := w4.heap.size) (by omega) hBV
      refine wpIn_rangeFunc_ownF hro (by decide) (gf := 18) (lb := #[.pointer (some ⟨w3.heap.size + 1, 0, none⟩)]) rfl trivial (enters_of Tryd.func18 (by kernel_rfl) rfl)
        (each_stops (3 - 1) (w3.heap.size + 1) w4.heap.size (by omega) x hx V (by omega) (by omega) vx hTV) belowK_t (belowK_b (by omega)) (Below.refl _ _) (fun _ => rfl)
        (fun pre W => ((pre.map (fun i : Nat => (i : Int)) <+: (places x).map (fun i : Nat => (i : Int)) ∧ W.cell? ⟨w4.heap.size, 0, none⟩ = some (.int .i64 (pre.length : Int)) ∧ W.frozen? ⟨w4.heap.size, 0, none⟩ = false) ∧ Below w4.heap.size w4 W) ∧ W.heap[D]? = some (.deferred (some [])))
        (fun c pre W => c = .ret ∧ ¬ pre.map (fun i : Nat => (i : Int)) <+: (places x).map (fun i : Nat => (i : Int)))
        (OwnFrom.and (OwnFrom.and (Own.from (fun s A B row hs hg hr => ⟨hs.1, cell_kept hs.2.1 hg hr, (frozen_kept hs.2.1 hg hr).trans hs.2.2⟩) _) (ownFrom_below (Nat.le_refl _) (by omega))) (fun s A B row hs hg hr => (hg.block D (Array.getElem?_eq_some_iff.1 hs).1 (fun e => by have := (hr D (by first | exact e | exact e.symm)).1; omega)).trans hs))
        (fun c s W W' row hs hg hr => hs)
        ⟨⟨⟨List.nil_prefix, v7, v7f⟩, hBV⟩, hKV⟩ (fun y => { tmps := #[.int .u64 (x : Int), .int .i64 k, undef, .pointer (some ⟨w.heap.size, 0, none⟩), .pointer (some ⟨w.heap.size + 1, 0, none⟩), .pointer (some ⟨w3.heap.size, 0, none⟩), .pointer (some ⟨w3.heap.size + 1 + 1, 0, none⟩), .pointer (some ⟨w4.heap.size, 0, none⟩), undef, .int .i64 (y : Int), .int .u64 (x : Int), .slice A (places x).length c, .int .u64 (x : Int), (.func (.func 18) #[] #[.pointer (some ⟨w3.heap.size + 1, 0, none⟩)]), (.func (.func 18) #[] #[.pointer (some ⟨w3.heap.size + 1, 0, none⟩)]), .bool false, .bool false, .func (.func 18) #[] #[.pointer (some ⟨w3.heap.size + 1 + 1 + 1, 0, none⟩)], .slice (some ⟨w3.heap.size + 1 + 1 + 1 + 1, 0, none⟩) 2 2, .bool true, .bool false, .bool false, (.func (.func 18) #[] #[.pointer (some ⟨w3.heap.size + 1, 0, none⟩)]), undef, undef, undef, undef, undef, undef, undef, undef, undef, undef, undef, undef, undef, undef, undef, undef, undef, undef, .int .i64 nv, .int .i64 k, .bool true, .bool true, .int .i64 nv, .slice A (places x).length c, .int .i64 ((places x).length : Int), .bool false, .bool false, (.func (.func 18) #[] #[.pointer (some ⟨w3.heap.size + 1, 0, none⟩)]), .int .i64 (y : Int), undef, undef, undef, undef, undef, undef, undef, undef, undef, undef, undef, undef, undef, undef, undef, undef, undef, undef, undef, undef, undef, undef, undef, undef, undef, undef, undef, undef, undef, undef, undef, undef, undef], defers := [] }) ?assign ?body ?done ?stop
      case assign =>
        intro lr y W K hK
        gi_wp2
        exact hK
      case body =>
        clear hK1
        rintro lr pre y U ⟨⟨⟨hp, hcn, hfn⟩, hB⟩, hKD⟩ hlt
        have hUD : D < U.heap.size := (Array.getElem?_eq_some_iff.1 hKD).1
        have hlW := hl4.below hB
        have m1 := (hB.cell (p := ⟨w.heap.size + 1, 0, none⟩) (by show w.heap.size + 1 < _; omega)).trans k1
        have m2 := (hB.frozen (p := ⟨w.heap.size + 1, 0, none⟩) (by show w.heap.size + 1 < _; omega)).trans k2
        have m5 := (hB.cell (p := ⟨w3.heap.size, 0, none⟩) (by show w3.heap.size < _; omega)).trans k5
        have m6 := (hB.cell (p := ⟨w3.heap.size + 1 + 1, 0, none⟩) (by show w3.heap.size + 1 + 1 < _; omega)).trans k6
        have mx := (hB.cell (p := ⟨w3.heap.size + 1, 0, none⟩) (by show w3.heap.size + 1 < _; omega)).trans kx
        have hg := fun (_ : True) => gives_same x hx (w3.heap.size + 1) A c U (by omega) mx (hT4.below (n := w4.heap.size) (by omega) hB) (by omega) hlW hlc
        have hge : decide ((places x).length ≤ pre.length) = false := decide_eq_false (by omega)
        obtain ⟨ad, rfl, hcell⟩ := hlW.at_ (pre.length : Int) (by omega) (by omega)
        have hrd : rdOf 0 ((places x).map (fun i : Nat => (i : Int))) (pre.length : Int) = ((places x).map (fun i : Nat => (i : Int))).getD pre.length 0 := by simp [rdOf]
        rw [hrd, Int.toNat_natCast] at hcell
        have hps := pre_snoc pre y _ (by rw [hlen]; exact hlt) hp
        have hgd : ((places x).map (fun i : Nat => (i : Int))).getD pre.length 0 = ((places x).map (fun i : Nat => (i : Int)))[pre.length]'(by rw [hlen]; exact hlt) := by rw [List.getD_eq_getElem?_getD, List.getElem?_eq_getElem (by rw [hlen]; exact hlt)]; rfl
        rw [← hgd] at hps
        generalize ((places x).map (fun i : Nat => (i : Int))).getD pre.length 0 = v at hcell hps
        have goes : ∀ (a : Act) (U2 : World), Below U.heap.size U U2 → (y : Int) = v → ownPostK (Below w4.heap.size) (fun pre W => ((pre.map (fun i : Nat => (i : Int)) <+: (places x).map (fun i : Nat => (i : Int)) ∧ W.cell? ⟨w4.heap.size, 0, none⟩ = some (.int .i64 (pre.length : Int)) ∧ W.frozen? ⟨w4.heap.size, 0, none⟩ = false) ∧ Below w4.heap.size w4 W) ∧ W.heap[D]? = some (.deferred (some []))) (fun c pre W => c = .ret ∧ ¬ pre.map (fun i : Nat => (i : Int)) <+: (places x).map (fun i : Nat => (i : Int))) (pre ++ [y]) U .normal a (U2.setCell ⟨w4.heap.size, 0, none⟩ (.int .i64 ((pre.length : Int) + 1))) := by
          intro a U2 hb hyv
          have q7 := (hb.cell (p := ⟨w4.heap.size, 0, none⟩) (by show w4.heap.size < _; omega)).trans hcn
          have q7f := (hb.frozen (p := ⟨w4.heap.size, 0, none⟩) (by show w4.heap.size < _; omega)).trans hfn
          have hko : KeepsOthers U (U2.setCell ⟨w4.heap.size, 0, none⟩ (.int .i64 ((pre.length : Int) + 1))) := KeepsOthers.trans ⟨hb.size, fun kk o h1 _ => (hb.block kk (Array.getElem?_eq_some_iff.1 h1).1).trans h1⟩ (KeepsOthers.setCell _ _ _)
          refine ⟨hko, (hb.mono (B' := w4.heap.size) (by omega)).setCell (p := ⟨w4.heap.size, 0, none⟩) (Nat.le_refl _) _, ⟨⟨hps.2 hyv, ?_, ?_⟩, (hB.trans (hb.mono (B' := w4.heap.size) (by omega))).setCell (p := ⟨w4.heap.size, 0, none⟩) (Nat.le_refl _) _⟩, hko.same D _ hKD rfl⟩
          · rw [List.length_append]; exact World.cell?_setCell_same' _ _ _ (by rw [q7]; rfl)
          · rw [World.frozen?_setCell]; exact q7f
        by_cases hyv : (y : Int) = v
        · by_cases h3 : pre.length < 3
          · have h3b : decide (pre.length < 3) = true := decide_eq_true h3
            gi_wp2
            refine ⟨trivial, ?_⟩
            refine (CallsIn.inRound lr (callsIn_wide.2 (hg trivial))).mono ?_
            clear hg
            rintro e U2 ⟨rfl, hb⟩
            have q7 := (hb.cell (p := ⟨w4.heap.size, 0, none⟩) (by show w4.heap.size < _; omega)).trans hcn
            have q7f := (hb.frozen (p := ⟨w4.heap.size, 0, none⟩) (by show w4.heap.size < _; omega)).trans hfn
            gi_wp2
            exact goes _ U2 hb hyv
          · have h3b : decide (pre.length < 3) = false := decide_eq_false h3
            clear hg
            gi_wp2
            refine ⟨trivial, ?_⟩
            gi_wp2
            exact goes _ U (Below.refl _ _) hyv
        · clear hg
          gi_wp2
          · rename_i hu _
            cases hu
          · rename_i hu _
            cases hu
          · refine ⟨trivial, ?_⟩
            gi_wp2
            exact ⟨KeepsOthers.setCell _ _ _, rfl, fun h => hyv (hps.1 h)⟩
      case done =>
        rintro D2 ys U hD2 rfl ⟨⟨⟨hp, hcn, hfn⟩, hB⟩, hKD⟩ hK2
        have hUD : D < U.heap.size := (Array.getElem?_eq_some_iff.1 hKD).1
        have hUD2 : D2 < U.heap.size := (Array.getElem?_eq_some_iff.1 hK2).1
        have hlW := hl4.below hB
        have m1 := (hB.cell (p := ⟨w.heap.size + 1, 0, none⟩) (by show w.heap.size + 1 < _; omega)).trans k1
        have m2 := (hB.frozen (p := ⟨w.heap.size + 1, 0, none⟩) (by show w.heap.size + 1 < _; omega)).trans k2
        have m5 := (hB.cell (p := ⟨w3.heap.size, 0, none⟩) (by show w3.heap.size < _; omega)).trans k5
        have m6 := (hB.cell (p := ⟨w3.heap.size + 1 + 1, 0, none⟩) (by show w3.heap.size + 1 + 1 < _; omega)).trans k6
        have mx := (hB.cell (p := ⟨w3.heap.size + 1, 0, none⟩) (by show w3.heap.size + 1 < _; omega)).trans kx
        have hg := fun (_ : True) => gives_same x hx (w3.heap.size + 1) A c U (by omega) mx (hT4.below (n := w4.heap.size) (by omega) hB) (by omega) hlW hlc
        have heq : (((places x).length : Int) == ((places x).length : Int)) = true := beq_self_eq_true _
        gi_wp2
        refine ⟨trivial, ?_⟩
        refine (callsIn_wide.2 (hg trivial)).mono ?_
        clear hg
        rintro e U2 ⟨rfl, hb⟩
        have p1 := (hb.cell (p := ⟨w.heap.size + 1, 0, none⟩) (by show w.heap.size + 1 < _; omega)).trans m1
        have p2 := (hb.frozen (p := ⟨w.heap.size + 1, 0, none⟩) (by show w.heap.size + 1 < _; omega)).trans m2
        gi_wp2
        have hU2 : U2.heap[D2]? = some (.deferred (some [])) := (hb.block D2 hUD2).trans hK2
        have hU1 : U2.heap[D]? = some (.deferred (some [])) := (hb.block D hUD).trans hKD
        have x2 := (KeepsOthers.setCell U2 ⟨w.heap.size + 1, 0, none⟩ (.bool true)).same D2 _ hU2 rfl
        have x1 := (KeepsOthers.setCell U2 ⟨w.heap.size + 1, 0, none⟩ (.bool true)).same D _ hU1 rfl
        have xc := World.cell?_setCell_same' U2 ⟨w.heap.size + 1, 0, none⟩ (.bool true) (by rw [p1]; rfl)
        have xB : Below w.heap.size w (U2.setCell ⟨w.heap.size + 1, 0, none⟩ (.bool true)) := (hB4.trans ((hB.mono (B' := w.heap.size) (by omega)).trans (hb.mono (B' := w.heap.size) (by omega)))).setCell (p := ⟨w.heap.size + 1, 0, none⟩) (Nat.le_succ _) _
        generalize U2.setCell ⟨w.heap.size + 1, 0, none⟩ (.bool true) = X at x2 x1 xc xB ⊢
        refine ⟨by simp, .inl ⟨_, _, rfl, run_takeDeferred x2, ?_⟩⟩
        have y1 : (X.putObj D2 (.deferred none)).heap[D]? = some (.deferred (some [])) := (World.putObj_heap_other (by omega)).trans x1
        have yc := cell_kept xc (grownBy_putObj' X D2 (.deferred none)) (fun r e => by cases e; exact ⟨_, x2, rfl⟩)
        have yB : Below w.heap.size w (X.putObj D2 (.deferred none)) := xB.trans (belowK_b (w := w) (Nat.le_refl _) X D2 _ _ (by omega) x2 rfl rfl)
        generalize X.putObj D2 (.deferred none) = Y at y1 yc yB ⊢
        refine ⟨by simp, .inl ⟨_, _, rfl, run_takeDeferred y1, ?_⟩⟩
        have zc := cell_kept yc (grownBy_putObj' Y D (.deferred none)) (fun r e => by cases e; exact ⟨_, y1, rfl⟩)
        have zB : Below w.heap.size w (Y.putObj D (.deferred none)) := yB.trans (belowK_b (w := w) (Nat.le_refl _) Y D _ _ (by omega) y1 rfl rfl)
        refine ⟨.bool true, ?_, rfl, zB⟩
        simp [results, Tryd.f3, go_sem, zc]
      case stop =>
        rintro D2 cc pre U hD2 hpre ⟨rfl, hin⟩ hK2
        exact absurd (hpre.map _) hin
  have hz5 : (w4.alloc (.cells #[.int .i64 0] 3)).heap.size = w4.heap.size + 1 := by simp
  have hlen : ((places x).map (fun i : Nat => (i : Int))).length = (places x).length := List.length_map _
  have hmax : (places x).length ≤ 64 := places_length x
  refine wpIn_rangeFunc_ownF hro (by decide) (gf := 18) (lb := #[.pointer (some ⟨w3.heap.size + 1, 0, none⟩)]) rfl trivial (enters_of Tryd.func18 (by kernel_rfl) rfl)
    (each_stops (3 - 1) (w3.heap.size + 1) w4.heap.size (by omega) x hx _ (by omega) (by omega) nx hTN) belowK_t (belowK_b (by omega)) (Below.refl _ _) (fun _ => rfl)
    (fun pre W => (pre.map (fun i : Nat => (i : Int)) <+: (places x).map (fun i : Nat => (i : Int)) ∧ W.cell? ⟨w4.heap.size, 0, none⟩ = some (.int .i64 (pre.length : Int)) ∧ W.frozen? ⟨w4.heap.size, 0, none⟩ = false) ∧ Below w4.heap.size w4 W)
    (fun c pre W => (c = .ret ∧ ¬ pre.map (fun i : Nat => (i : Int)) <+: (places x).map (fun i : Nat => (i : Int))) ∨ (c = .exit 0 ∧ (W.cell? ⟨w4.heap.size, 0, none⟩ = some (.int .i64 k) ∧ W.frozen? ⟨w4.heap.size, 0, none⟩ = false) ∧ Below w4.heap.size w4 W))
    (OwnFrom.and (Own.from (fun s A B row hs hg hr => ⟨hs.1, cell_kept hs.2.1 hg hr, (frozen_kept hs.2.1 hg hr).trans hs.2.2⟩) _) (ownFrom_below (Nat.le_refl _) (by omega)))
    (fun c s W W' row hs hg hr => hs.elim .inl (fun h => .inr ⟨h.1, ⟨cell_kept h.2.1.1 hg (fun r e => (hr r e).2), (frozen_kept h.2.1.1 hg (fun r e => (hr r e).2)).trans h.2.1.2⟩, h.2.2.grown hg h.2.2.size (fun r e => by have := (hr r e).1; omega)⟩))
    ⟨⟨List.nil_prefix, n7.1, n7.2⟩, (Below.refl _ w4).alloc (Nat.le_refl _) _⟩
    (fun y => { tmps := #[.int .u64 (x : Int), .int .i64 k, undef, .pointer (some ⟨w.heap.size, 0, none⟩), .pointer (some ⟨w.heap.size + 1, 0, none⟩), .pointer (some ⟨w3.heap.size, 0, none⟩), .pointer (some ⟨w3.heap.size + 1 + 1, 0, none⟩), .pointer (some ⟨w4.heap.size, 0, none⟩), .int .i64 (y : Int), undef, .int .u64 (x : Int), .slice A (places x).length c, .int .u64 (x : Int), (.func (.func 18) #[] #[.pointer (some ⟨w3.heap.size + 1, 0, none⟩)]), (.func (.func 18) #[] #[.pointer (some ⟨w3.heap.size + 1, 0, none⟩)]), .bool false, .bool false, .func (.func 18) #[] #[.pointer (some ⟨w3.heap.size + 1 + 1 + 1, 0, none⟩)], .slice (some ⟨w3.heap.size + 1 + 1 + 1 + 1, 0, none⟩) 2 2, .bool true, .bool false, .bool false, (.func (.func 18) #[] #[.pointer (some ⟨w3.heap.size + 1, 0, none⟩)]), .int .i64 (y : Int), undef, undef, undef, undef, undef, undef, undef, undef, undef, undef, undef, undef, undef, undef, undef, undef, undef, undef, undef, undef, undef, undef, undef, undef, undef, undef, undef, undef, undef, undef, undef, undef, undef, undef, undef, undef, undef, undef, undef, undef, undef, undef, undef, undef, undef, undef, undef, undef, undef, undef, undef, undef, undef, undef, undef, undef, undef, undef, undef, undef, undef], defers := [] }) ?assign ?body ?done ?stop
  case assign =>
    intro lr y W K hK
    gi_wp2
    exact hK
  case body =>
    rintro lr pre y W ⟨⟨hp, hcn, hfn⟩, hB⟩ hlt
    have hlW := hl4.below hB
    have m0 := (hB.cell (p := ⟨w.heap.size, 0, none⟩) (by show w.heap.size < _; omega)).trans k0
    have m1 := (hB.cell (p := ⟨w.heap.size + 1, 0, none⟩) (by show w.heap.size + 1 < _; omega)).trans k1
    have m2 := (hB.frozen (p := ⟨w.heap.size + 1, 0, none⟩) (by show w.heap.size + 1 < _; omega)).trans k2
    have m5 := (hB.cell (p := ⟨w3.heap.size, 0, none⟩) (by show w3.heap.size < _; omega)).trans k5
    have hple : pre.length ≤ (places x).length := by have := hp.length_le; simpa using this
    have hge : decide ((places x).length ≤ pre.length) = false := decide_eq_false (by omega)
    obtain ⟨ad, rfl, hcell⟩ := hlW.at_ (pre.length : Int) (by omega) (by omega)
    have hrd : rdOf 0 ((places x).map (fun i : Nat => (i : Int))) (pre.length : Int) = ((places x).map (fun i : Nat => (i : Int))).getD pre.length 0 := by simp [rdOf]
    rw [hrd, Int.toNat_natCast] at hcell
    have hps := pre_snoc pre y _ (by rw [hlen]; exact hlt) hp
    have hgd : ((places x).map (fun i : Nat => (i : Int))).getD pre.length 0 = ((places x).map (fun i : Nat => (i : Int)))[pre.length]'(by rw [hlen]; exact hlt) := by rw [List.getD_eq_getElem?_getD, List.getElem?_eq_getElem (by rw [hlen]; exact hlt)]; rfl
    rw [← hgd] at hps
    generalize ((places x).map (fun i : Nat => (i : Int))).getD pre.length 0 = v at hcell hps
    gi_wp2
    · rename_i hx1
      refine ⟨KeepsOthers.setCell _ _ _, .inl ⟨rfl, ?_⟩⟩
      rw [hps]
      simpa using hx1
    · rename_i hx1 hx2
      refine ⟨KeepsOthers.refl _, .inr ⟨rfl, ⟨?_, hfn⟩, hB⟩⟩
      rw [hcn, eq_of_beq hx2]
    · rename_i hx1 hx2
      refine ⟨KeepsOthers.setCell _ _ _, (Below.refl w4.heap.size W).setCell (p := ⟨w4.heap.size, 0, none⟩) (Nat.le_refl _) _, ⟨hps.2 (by simpa using hx1), ?_, ?_⟩, hB.setCell (p := ⟨w4.heap.size, 0, none⟩) (Nat.le_refl _) _⟩
      · rw [List.length_append]; exact World.cell?_setCell_same' _ _ _ (by rw [hcn]; rfl)
      · rw [World.frozen?_setCell]; exact hfn
  case done =>
    rintro D ys W hD rfl ⟨⟨hp, hcn, hfn⟩, hB⟩ hK
    exact rest D W _ (by omega) (.inr rfl) hcn hfn hB hK
  case stop =>
    rintro D cc pre W hD hpre (⟨rfl, hin⟩ | ⟨rfl, ⟨hcn, hfn⟩, hB⟩) hK
    · exact absurd (hpre.map _) hin
    · exact wpIn_exit (rest D W _ (by omega) (.inl rfl) hcn hfn hB hK)
end Go.Proofs.YtjjnmpidlkjeiaaDoor
