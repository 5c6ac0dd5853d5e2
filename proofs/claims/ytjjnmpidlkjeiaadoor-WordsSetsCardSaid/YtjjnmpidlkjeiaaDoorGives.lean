/- quarrylaw03.gives: does words.Each's function give just the row? -/
import Derived.RangeFuncFrom
import Derived.Test.YtjjnmpidlkjeiaaDoorEachIt
import Derived.Test.YtjjnmpidlkjeiaaDoorSelect
import Derived.Test.YtjjnmpidlkjeiaaDoorWWords
set_option linter.unusedVariables false
namespace Go.Proofs.YtjjnmpidlkjeiaaDoor
open Go.RowKit Go.Shelf Go.Proofs.YtjjnmpidlkjeiaaDoorW.PrintWords
attribute [local go_sem] Oper.semAt_some

theorem pre_snoc (pre : List Nat) (x : Nat) (l : List Int) (hlt : pre.length < l.length) (hp : pre.map (fun i : Nat => (i : Int)) <+: l) : (pre ++ [x]).map (fun i : Nat => (i : Int)) <+: l ↔ (x : Int) = l[pre.length] := by
  obtain ⟨t, rfl⟩ := hp
  cases t with
  | nil => simp at hlt
  | cons y t =>
    rw [List.map_append, List.prefix_append_right_inj]
    simp [List.getElem_append_right]
theorem seq_some (f : Fn) (a cs : Array Value) (W : World) : Sem.run Tryd.prog (binOp .eql 26 (.func f a cs) .nilFunc) W = .ok (.bool false) W := by
  first | rfl | (simp [binOp, Op.equal, go_sem, Tryd.underlying26]; done) | (simp [binOp, Op.equal, go_sem])
attribute [local go_sem] seq_some
set_option maxHeartbeats 2000000 in
theorem gives_calls (x0 : Nat) (hx0 : x0 < 18446744073709551616) (Bn : Nat) (A : Option Addr) (c : Nat) (l : List Int) (w : World) (hBn : Bn < w.heap.size) (hc : w.cell? ⟨Bn, 0, none⟩ = some (.int .u64 (x0 : Int))) (hT : TzTab w) (hTb : 0 < w.heap.size)
    (hl : ReadsOf (fun i : Int => Value.int .i64 i) 0 w A l.length l) (hlc : l.length ≤ c) :
    Calls Tryd.prog 9 #[.func (.func 18) #[] #[.pointer (some ⟨Bn, 0, none⟩)], .slice A l.length c] w fun e W' => e = .returned (.bool (decide (l = (places x0).map (fun i : Nat => (i : Int))))) ∧ Below w.heap.size w W' := by
  refine (callsIn_wide (n := 3)).1 ?_
  have hro : Fence.wide.round = none := rfl
  refine callsIn_of_wp_marks Tryd.func9 rfl trivial ?_ rfl
  simp only [Tryd.ntmps9, List.size_toArray, List.length_cons, List.length_nil, Nat.reduceAdd, Nat.reduceSub, Array.replicate_succ, Array.replicate_zero, List.push_toArray, List.append_toArray, List.nil_append, List.cons_append]
  gi_wp2
  have c0 := cell_new_l w (.slice A l.length c) 23
  have c1 := cell_new_l (w.alloc (.cells #[.slice A l.length c] 23)) (.bool false) 4
  have c2 := cell_new_l ((w.alloc (.cells #[.slice A l.length c] 23)).alloc (.cells #[.bool false] 4)) (.int .i64 0) 3
  simp only [World.size_alloc] at c1 c2
  have hB0 : Below w.heap.size w (((w.alloc (.cells #[.slice A l.length c] 23)).alloc (.cells #[.bool false] 4)).alloc (.cells #[.int .i64 0] 3)) := (((Below.refl _ w).alloc (Nat.le_refl _) _).alloc (by simp) _).alloc (by simp; omega) _
  have hmax := hl.2.1
  refine wpIn_rangeFunc_ownF hro (by decide) (gf := 18) (lb := #[.pointer (some ⟨Bn, 0, none⟩)]) rfl trivial (enters_of Tryd.func18 (by kernel_rfl) rfl)
    (each_stops (3 - 1) Bn w.heap.size hTb x0 hx0 _ (by simp; omega) (by simp; omega) ((hB0.cell (p := ⟨Bn, 0, none⟩) hBn).trans hc) (hT.below hTb hB0)) belowK_t (belowK_b (by simp; omega)) (Below.refl _ _) (fun _ => rfl)
    (fun pre W => (pre.map (fun i : Nat => (i : Int)) <+: l ∧ W.cell? ⟨w.heap.size, 0, none⟩ = some (.slice A l.length c) ∧ W.cell? ⟨w.heap.size + 1, 0, none⟩ = some (.bool false) ∧ W.frozen? ⟨w.heap.size + 1, 0, none⟩ = false ∧ W.cell? ⟨w.heap.size + 1 + 1, 0, none⟩ = some (.int .i64 (pre.length : Int)) ∧ W.frozen? ⟨w.heap.size + 1 + 1, 0, none⟩ = false) ∧ Below w.heap.size w W)
    (fun c pre W => (c = .ret ∧ (¬ pre.map (fun i : Nat => (i : Int)) <+: l) ∧ W.cell? ⟨w.heap.size + 1, 0, none⟩ = some (.bool false)) ∧ Below w.heap.size w W)
    (OwnFrom.and (Own.from (fun s A B row hs hg hr => ⟨hs.1, cell_kept hs.2.1 hg hr, cell_kept hs.2.2.1 hg hr, (frozen_kept hs.2.2.1 hg hr).trans hs.2.2.2.1, cell_kept hs.2.2.2.2.1 hg hr, (frozen_kept hs.2.2.2.2.1 hg hr).trans hs.2.2.2.2.2⟩) _) (ownFrom_below (Nat.le_refl _) (by simp; omega)))
    (fun c => OwnFrom.and (Own.from (fun s A B row hs hg hr => ⟨hs.1, hs.2.1, cell_kept hs.2.2 hg hr⟩) _) (ownFrom_below (Nat.le_refl _) (by simp; omega)))
    ⟨⟨List.nil_prefix, cell_alloc_l _ (cell_alloc_l _ c0.1), cell_alloc_l _ c1.1, frozen_alloc_l _ c1.1 c1.2, c2.1, c2.2⟩, hB0⟩
    (fun x => { tmps := #[.func (.func 18) #[] #[.pointer (some ⟨Bn, 0, none⟩)], .slice A l.length c, undef, .pointer (some ⟨w.heap.size, 0, none⟩), .pointer (some ⟨w.heap.size + 1, 0, none⟩), .pointer (some ⟨w.heap.size + 1 + 1, 0, none⟩), .int .i64 (x : Int), .func (.func 18) #[] #[.pointer (some ⟨Bn, 0, none⟩)], .bool false, .func (.func 18) #[] #[.pointer (some ⟨Bn, 0, none⟩)], .int .i64 (x : Int), undef, undef, undef, undef, undef, undef, undef, undef, undef, undef, undef, undef, undef, undef, undef, undef, undef, undef], defers := [] }) ?assign ?body ?done ?stop
  case assign =>
    intro lr x W K hK
    gi_wp2
    exact hK
  case body =>
    rintro lr pre x W ⟨⟨hp, hcw, hcr, hfr, hcn, hfn⟩, hB⟩ _
    have hlW := hl.below hB
    have hple : pre.length ≤ l.length := by have := hp.length_le; simpa using this
    have hset : ∀ v : Value, (W.setCell ⟨w.heap.size + 1, 0, none⟩ v).cell? ⟨w.heap.size + 1, 0, none⟩ = some v := fun v => World.cell?_setCell_same' _ _ _ (by rw [hcr]; rfl)
    by_cases hlt : pre.length < l.length
    · have hge : decide (l.length ≤ pre.length) = false := decide_eq_false (by omega)
      obtain ⟨ad, rfl, hcell⟩ := hlW.at_ (pre.length : Int) (by omega) (by omega)
      have hrd : rdOf 0 l (pre.length : Int) = l.getD pre.length 0 := by simp [rdOf]
      rw [hrd, Int.toNat_natCast] at hcell
      have hps := pre_snoc pre x l hlt hp
      gi_wp2
      · rename_i hx
        refine ⟨KeepsOthers.setCell _ _ _, ⟨rfl, ?_, hset _⟩, hB.setCell (p := ⟨w.heap.size + 1, 0, none⟩) (by simp) _⟩
        rw [hps]
        simpa using hx
      · rename_i hx
        refine ⟨KeepsOthers.setCell _ _ _, (Below.refl w.heap.size W).setCell (p := ⟨w.heap.size + 1 + 1, 0, none⟩) (by simp; omega) _, ⟨hps.2 (by simpa using hx), ?_, ?_, ?_, ?_, ?_⟩, hB.setCell (p := ⟨w.heap.size + 1 + 1, 0, none⟩) (by simp; omega) _⟩
        · exact (((Below.refl (w.heap.size + 1 + 1) W).setCell (p := ⟨w.heap.size + 1 + 1, 0, none⟩) (Nat.le_refl _) _).cell (p := ⟨w.heap.size, 0, none⟩) (by show w.heap.size < _; omega)).trans hcw
        · exact (((Below.refl (w.heap.size + 1 + 1) W).setCell (p := ⟨w.heap.size + 1 + 1, 0, none⟩) (Nat.le_refl _) _).cell (p := ⟨w.heap.size + 1, 0, none⟩) (by show w.heap.size + 1 < _; omega)).trans hcr
        · rw [World.frozen?_setCell]; exact hfr
        · rw [List.length_append]; exact World.cell?_setCell_same' _ _ _ (by rw [hcn]; rfl)
        · rw [World.frozen?_setCell]; exact hfn
    · have hge : decide (l.length ≤ pre.length) = true := decide_eq_true (by omega)
      gi_wp2
      refine ⟨KeepsOthers.setCell _ _ _, ⟨rfl, ?_, hset _⟩, hB.setCell (p := ⟨w.heap.size + 1, 0, none⟩) (by simp) _⟩
      intro h
      have := h.length_le
      simp at this
      omega
  case done =>
    rintro D ys W hD rfl ⟨⟨hp, hcw, hcr, hfr, hcn, hfn⟩, hB⟩ hK
    gi_wp2
    have hK' := (KeepsOthers.setCell W ⟨w.heap.size + 1, 0, none⟩ (.bool (((places x0).length : Int) == (l.length : Int)))).same D _ hK rfl
    refine ⟨by simp, .inl ⟨_, _, rfl, run_takeDeferred hK', ?_⟩⟩
    have hc5 := cell_kept (World.cell?_setCell_same' W ⟨w.heap.size + 1, 0, none⟩ (.bool (((places x0).length : Int) == (l.length : Int))) (by rw [hcr]; rfl)) (grownBy_putObj' _ D (.deferred none)) (fun r e => by cases e; exact ⟨_, hK', rfl⟩)
    refine ⟨.bool (((places x0).length : Int) == (l.length : Int)), ?_, ?_, (hB.setCell (p := ⟨w.heap.size + 1, 0, none⟩) (by simp) _).trans (belowK_b (w := w) (Nat.le_refl _) _ D _ _ (by simp at hD; omega) hK' rfl rfl)⟩
    · simp [results, Tryd.f9, go_sem, hc5]
    · congr 2
      rw [Bool.eq_iff_iff, beq_iff_eq, decide_eq_true_eq]
      constructor
      · intro h
        exact (hp.eq_of_length (by rw [List.length_map]; omega)).symm
      · intro h
        rw [h, List.length_map]
  case stop =>
    rintro D c pre W hD hpre ⟨⟨rfl, hin, hcr⟩, hB⟩ hK
    gi_wp2
    refine ⟨by simp, .inl ⟨_, _, rfl, run_takeDeferred hK, ?_⟩⟩
    have hc5 := cell_kept hcr (grownBy_putObj' _ D (.deferred none)) (fun r e => by cases e; exact ⟨_, hK, rfl⟩)
    refine ⟨.bool false, ?_, by rw [decide_eq_false]; rintro rfl; exact hin (hpre.map _), hB.trans (belowK_b (w := w) (Nat.le_refl _) W D _ _ (by simp at hD; omega) hK rfl rfl)⟩
    simp [results, Tryd.f9, go_sem, hc5]
end Go.Proofs.YtjjnmpidlkjeiaaDoor
