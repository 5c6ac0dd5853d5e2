/- quarrylaw03.runs: does words.Runs' function give just these rows? -/
import Derived.RangeFuncFrom
import Derived.Laws.EntriesVeiled
import Derived.Test.YtjjnmpidlkjeiaaDoorRunsIt
import Derived.Test.YtjjnmpidlkjeiaaDoorSelect
import Derived.Test.YtjjnmpidlkjeiaaDoorWWords
set_option linter.unusedVariables false
namespace Go.Proofs.YtjjnmpidlkjeiaaDoor
open Go.RowKit Go.Shelf Go.Proofs.YtjjnmpidlkjeiaaDoorW.PrintWords
attribute [local go_sem] Oper.semAt_some

theorem row_snoc (pre : List (Nat × Nat)) (x : Nat × Nat) (l : List (Nat × Nat)) (hlt : pre.length < l.length) (hp : pre <+: l) : pre ++ [x] <+: l ↔ x = l.getD pre.length (0, 0) := by
  obtain ⟨t, rfl⟩ := hp
  cases t with
  | nil => simp at hlt
  | cons y t =>
    rw [List.prefix_append_right_inj]
    simp
theorem seq2_some (f : Fn) (a cs : Array Value) (W : World) : Sem.run Tryd.prog (binOp .eql 33 (.func f a cs) .nilFunc) W = .ok (.bool false) W := by
  first | rfl | (simp [binOp, Op.equal, go_sem, Tryd.underlying33]; done) | (simp [binOp, Op.equal, go_sem])
attribute [local go_sem] seq2_some
/-- The first and the second numbers of the rows. -/
def fsts (l : List (Nat × Nat)) : List Int := l.map (fun p => (p.1 : Int))
def snds (l : List (Nat × Nat)) : List Int := l.map (fun p => (p.2 : Int))
set_option maxHeartbeats 2000000 in
theorem runsg_calls (x0 : Nat) (hx0 : x0 < 18446744073709551616) (Bn : Nat) (A A2 : Option Addr) (c c2 : Nat) (l : List (Nat × Nat)) (w : World) (hBn : Bn < w.heap.size) (hc : w.cell? ⟨Bn, 0, none⟩ = some (.int .u64 (x0 : Int))) (hT : TzTab w) (hTb : 0 < w.heap.size)
    (hl : ReadsOf (fun i : Int => Value.int .i64 i) 0 w A l.length (fsts l)) (hl2 : ReadsOf (fun i : Int => Value.int .i64 i) 0 w A2 l.length (snds l)) (hlc : l.length ≤ c) (hlc2 : l.length ≤ c2) :
    Calls Tryd.prog 12 #[.func (.func 20) #[] #[.pointer (some ⟨Bn, 0, none⟩)], .slice A l.length c, .slice A2 l.length c2] w fun e W' => e = .returned (.bool (decide (l = runs x0 64 0))) ∧ Below w.heap.size w W' := by
  refine (callsIn_wide (n := 3)).1 ?_
  have hro : Fence.wide.round = none := rfl
  refine callsIn_of_wp_marks Tryd.func12 rfl trivial ?_ rfl
  simp only [Tryd.ntmps12, List.size_toArray, List.length_cons, List.length_nil, Nat.reduceAdd, Nat.reduceSub, Array.replicate_succ, Array.replicate_zero, List.push_toArray, List.append_toArray, List.nil_append, List.cons_append]
  gi_wp2
  have c0 := cell_new_l w (.slice A l.length c) 23
  have c1 := cell_new_l (w.alloc (.cells #[.slice A l.length c] 23)) (.slice A2 l.length c2) 23
  have c2' := cell_new_l ((w.alloc (.cells #[.slice A l.length c] 23)).alloc (.cells #[.slice A2 l.length c2] 23)) (.bool false) 4
  have c3 := cell_new_l (((w.alloc (.cells #[.slice A l.length c] 23)).alloc (.cells #[.slice A2 l.length c2] 23)).alloc (.cells #[.bool false] 4)) (.int .i64 0) 3
  simp only [World.size_alloc] at c1 c2' c3
  have hB0 : Below w.heap.size w ((((w.alloc (.cells #[.slice A l.length c] 23)).alloc (.cells #[.slice A2 l.length c2] 23)).alloc (.cells #[.bool false] 4)).alloc (.cells #[.int .i64 0] 3)) := ((((Below.refl _ w).alloc (Nat.le_refl _) _).alloc (by simp) _).alloc (by simp; omega) _).alloc (by simp; omega) _
  have hmax := hl.2.1
  refine wpIn_rangeFunc_ownF hro (by decide) (gf := 20) (lb := #[.pointer (some ⟨Bn, 0, none⟩)]) rfl trivial (enters_of Tryd.func20 (by kernel_rfl) rfl)
    (runs_stops (3 - 1) Bn w.heap.size hTb x0 hx0 _ hBn (by simp; omega) ((hB0.cell (p := ⟨Bn, 0, none⟩) hBn).trans hc) (hT.below hTb hB0)) belowK_t (belowK_b (by simp; omega)) (Below.refl _ _) (fun _ => rfl)
    (fun pre W => (pre <+: l ∧ W.cell? ⟨w.heap.size, 0, none⟩ = some (.slice A l.length c) ∧ W.cell? ⟨w.heap.size + 1, 0, none⟩ = some (.slice A2 l.length c2) ∧ W.cell? ⟨w.heap.size + 1 + 1, 0, none⟩ = some (.bool false) ∧ W.frozen? ⟨w.heap.size + 1 + 1, 0, none⟩ = false ∧ W.cell? ⟨w.heap.size + 1 + 1 + 1, 0, none⟩ = some (.int .i64 (pre.length : Int)) ∧ W.frozen? ⟨w.heap.size + 1 + 1 + 1, 0, none⟩ = false) ∧ Below w.heap.size w W)
    (fun c pre W => (c = .ret ∧ (¬ pre <+: l) ∧ W.cell? ⟨w.heap.size + 1 + 1, 0, none⟩ = some (.bool false)) ∧ Below w.heap.size w W)
    (OwnFrom.and (Own.from (fun s A B row hs hg hr => ⟨hs.1, cell_kept hs.2.1 hg hr, cell_kept hs.2.2.1 hg hr, cell_kept hs.2.2.2.1 hg hr, (frozen_kept hs.2.2.2.1 hg hr).trans hs.2.2.2.2.1, cell_kept hs.2.2.2.2.2.1 hg hr, (frozen_kept hs.2.2.2.2.2.1 hg hr).trans hs.2.2.2.2.2.2⟩) _) (ownFrom_below (Nat.le_refl _) (by simp; omega)))
    (fun c => OwnFrom.and (Own.from (fun s A B row hs hg hr => ⟨hs.1, hs.2.1, cell_kept hs.2.2 hg hr⟩) _) (ownFrom_below (Nat.le_refl _) (by simp; omega)))
    ⟨⟨List.nil_prefix, cell_alloc_l _ (cell_alloc_l _ (cell_alloc_l _ c0.1)), cell_alloc_l _ (cell_alloc_l _ c1.1), cell_alloc_l _ c2'.1, frozen_alloc_l _ c2'.1 c2'.2, c3.1, c3.2⟩, hB0⟩
    (fun x => { tmps := #[.func (.func 20) #[] #[.pointer (some ⟨Bn, 0, none⟩)], .slice A l.length c, .slice A2 l.length c2, undef, .pointer (some ⟨w.heap.size, 0, none⟩), .pointer (some ⟨w.heap.size + 1, 0, none⟩), .pointer (some ⟨w.heap.size + 1 + 1, 0, none⟩), .pointer (some ⟨w.heap.size + 1 + 1 + 1, 0, none⟩), .int .i64 (x.1 : Int), .int .i64 (x.2 : Int), .func (.func 20) #[] #[.pointer (some ⟨Bn, 0, none⟩)], .bool false, .func (.func 20) #[] #[.pointer (some ⟨Bn, 0, none⟩)], .int .i64 (x.1 : Int), .int .i64 (x.2 : Int), undef, undef, undef, undef, undef, undef, undef, undef, undef, undef, undef, undef, undef, undef, undef, undef, undef, undef, undef, undef, undef, undef, undef, undef, undef, undef], defers := [] }) ?assign ?body ?done ?stop
  case assign =>
    intro lr x W K hK
    gi_wp2
    exact hK
  case body =>
    rintro lr pre x W ⟨⟨hp, hcw, hcw2, hcr, hfr, hcn, hfn⟩, hB⟩ _
    have hlW := hl.below hB
    have hlW2 := hl2.below hB
    have hple : pre.length ≤ l.length := hp.length_le
    have hset : ∀ v : Value, (W.setCell ⟨w.heap.size + 1 + 1, 0, none⟩ v).cell? ⟨w.heap.size + 1 + 1, 0, none⟩ = some v := fun v => World.cell?_setCell_same' _ _ _ (by rw [hcr]; rfl)
    by_cases hlt : pre.length < l.length
    · have hge : decide (l.length ≤ pre.length) = false := decide_eq_false (by omega)
      obtain ⟨ad, rfl, hcell⟩ := hlW.at_ (pre.length : Int) (by omega) (by omega)
      obtain ⟨ad2, rfl, hcell2⟩ := hlW2.at_ (pre.length : Int) (by omega) (by omega)
      have hrd : rdOf 0 (fsts l) (pre.length : Int) = ((l.getD pre.length (0, 0)).1 : Int) := by
        simp [rdOf, fsts, List.getElem?_eq_getElem hlt]
      have hrd2 : rdOf 0 (snds l) (pre.length : Int) = ((l.getD pre.length (0, 0)).2 : Int) := by
        simp [rdOf, snds, List.getElem?_eq_getElem hlt]
      rw [hrd, Int.toNat_natCast] at hcell
      rw [hrd2, Int.toNat_natCast] at hcell2
      have hps := row_snoc pre x l hlt hp
      clear hrd hrd2
      generalize l.getD pre.length (0, 0) = y at hcell hcell2 hps
      obtain ⟨x1, x2⟩ := x
      obtain ⟨y1, y2⟩ := y
      have bad : (x1 ≠ y1 ∨ x2 ≠ y2) → ¬ pre ++ [(x1, x2)] <+: l := by
        intro h h'
        have e := hps.1 h'
        cases e
        rcases h with h | h <;> exact h rfl
      by_cases h1 : (x1 : Int) = (y1 : Int)
      · have q1 : ((x1 : Int) != (y1 : Int)) = false := bne_eq_false_iff_eq.2 h1
        by_cases h2 : (x2 : Int) = (y2 : Int)
        · have q2 : ((x2 : Int) != (y2 : Int)) = false := bne_eq_false_iff_eq.2 h2
          have good : pre ++ [(x1, x2)] <+: l := hps.2 (by rw [Int.ofNat_inj.1 h1, Int.ofNat_inj.1 h2])
          clear h1 h2 hps bad
          gi_wp2
          refine ⟨KeepsOthers.setCell _ _ _, (Below.refl w.heap.size W).setCell (p := ⟨w.heap.size + 1 + 1 + 1, 0, none⟩) (by simp; omega) _, ⟨good, ?_, ?_, ?_, ?_, ?_, ?_⟩, hB.setCell (p := ⟨w.heap.size + 1 + 1 + 1, 0, none⟩) (by simp; omega) _⟩
          · exact (((Below.refl (w.heap.size + 1 + 1 + 1) W).setCell (p := ⟨w.heap.size + 1 + 1 + 1, 0, none⟩) (Nat.le_refl _) _).cell (p := ⟨w.heap.size, 0, none⟩) (by show w.heap.size < _; omega)).trans hcw
          · exact (((Below.refl (w.heap.size + 1 + 1 + 1) W).setCell (p := ⟨w.heap.size + 1 + 1 + 1, 0, none⟩) (Nat.le_refl _) _).cell (p := ⟨w.heap.size + 1, 0, none⟩) (by show w.heap.size + 1 < _; omega)).trans hcw2
          · exact (((Below.refl (w.heap.size + 1 + 1 + 1) W).setCell (p := ⟨w.heap.size + 1 + 1 + 1, 0, none⟩) (Nat.le_refl _) _).cell (p := ⟨w.heap.size + 1 + 1, 0, none⟩) (by show w.heap.size + 1 + 1 < _; omega)).trans hcr
          · rw [World.frozen?_setCell]; exact hfr
          · rw [List.length_append]; exact World.cell?_setCell_same' _ _ _ (by rw [hcn]; rfl)
          · rw [World.frozen?_setCell]; exact hfn
        · have q2 : ((x2 : Int) != (y2 : Int)) = true := bne_iff_ne.2 h2
          have nb := bad (.inr (by omega))
          clear h1 h2 hps bad
          gi_wp2
          exact ⟨KeepsOthers.setCell _ _ _, ⟨rfl, nb, hset _⟩, hB.setCell (p := ⟨w.heap.size + 1 + 1, 0, none⟩) (by simp; omega) _⟩
      · have q1 : ((x1 : Int) != (y1 : Int)) = true := bne_iff_ne.2 h1
        have nb := bad (.inl (by omega))
        clear h1 hps bad
        gi_wp2
        exact ⟨KeepsOthers.setCell _ _ _, ⟨rfl, nb, hset _⟩, hB.setCell (p := ⟨w.heap.size + 1 + 1, 0, none⟩) (by simp; omega) _⟩
    · have hge : decide (l.length ≤ pre.length) = true := decide_eq_true (by omega)
      gi_wp2
      refine ⟨KeepsOthers.setCell _ _ _, ⟨rfl, ?_, hset _⟩, hB.setCell (p := ⟨w.heap.size + 1 + 1, 0, none⟩) (by simp; omega) _⟩
      intro h
      have := h.length_le
      simp at this
      omega
  case done =>
    rintro D ys W hD rfl ⟨⟨hp, hcw, hcw2, hcr, hfr, hcn, hfn⟩, hB⟩ hK
    gi_wp2
    have hK' := (KeepsOthers.setCell W ⟨w.heap.size + 1 + 1, 0, none⟩ (.bool (((runs x0 64 0).length : Int) == (l.length : Int)))).same D _ hK rfl
    refine ⟨by simp, .inl ⟨_, _, rfl, run_takeDeferred hK', ?_⟩⟩
    have hc5 := cell_kept (World.cell?_setCell_same' W ⟨w.heap.size + 1 + 1, 0, none⟩ (.bool (((runs x0 64 0).length : Int) == (l.length : Int))) (by rw [hcr]; rfl)) (grownBy_putObj' _ D (.deferred none)) (fun r e => by cases e; exact ⟨_, hK', rfl⟩)
    refine ⟨.bool (((runs x0 64 0).length : Int) == (l.length : Int)), ?_, ?_, (hB.setCell (p := ⟨w.heap.size + 1 + 1, 0, none⟩) (by simp; omega) _).trans (belowK_b (w := w) (Nat.le_refl _) _ D _ _ (by simp at hD; omega) hK' rfl rfl)⟩
    · simp [results, Tryd.f12, go_sem, hc5]
    · congr 2
      rw [Bool.eq_iff_iff, beq_iff_eq, decide_eq_true_eq]
      constructor
      · intro h
        exact (hp.eq_of_length (by omega)).symm
      · intro h
        rw [h]
  case stop =>
    rintro D c pre W hD hpre ⟨⟨rfl, hin, hcr⟩, hB⟩ hK
    gi_wp2
    refine ⟨by simp, .inl ⟨_, _, rfl, run_takeDeferred hK, ?_⟩⟩
    have hc5 := cell_kept hcr (grownBy_putObj' _ D (.deferred none)) (fun r e => by cases e; exact ⟨_, hK, rfl⟩)
    refine ⟨.bool false, ?_, by rw [decide_eq_false]; rintro rfl; exact hin hpre, hB.trans (belowK_b (w := w) (Nat.le_refl _) W D _ _ (by simp at hD; omega) hK rfl rfl)⟩
    simp [results, Tryd.f12, go_sem, hc5]
end Go.Proofs.YtjjnmpidlkjeiaaDoor
