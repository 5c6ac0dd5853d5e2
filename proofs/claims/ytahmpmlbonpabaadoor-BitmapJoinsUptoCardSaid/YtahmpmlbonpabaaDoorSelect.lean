/- words.Select: the place of the set bit of a rank, or -1; for every word and every rank, in a world that holds the table of math/bits. -/
import Derived.Test.YtahmpmlbonpabaaDoorEachIt
import Derived.RangeFuncFrom
import Derived.RangeFuncRecord
import Derived.Lib.Hide
set_option linter.unusedVariables false
namespace Go.Proofs.YtahmpmlbonpabaaDoor
open Go.RowKit Go.Shelf
attribute [local go_sem] Oper.semAt_some

theorem cell_of_box_l {W : World} {B : Nat} {v : Value} {t : TypeId} (h : W.heap[B]? = some (.cells #[v] t (0, 0))) : W.cell? ⟨B, 0, none⟩ = some v ∧ W.frozen? ⟨B, 0, none⟩ = false := by
  constructor <;> simp [World.cell?, World.frozen?, h]
theorem cell_new_l (W : World) (v : Value) (t : TypeId) : (W.alloc (.cells #[v] t)).cell? ⟨W.heap.size, 0, none⟩ = some v ∧ (W.alloc (.cells #[v] t)).frozen? ⟨W.heap.size, 0, none⟩ = false :=
  cell_of_box_l (World.alloc_heap_new W _)
theorem cell_alloc_l {W : World} {a : Addr} {v : Value} (o : Obj) (h : W.cell? a = some v) : (W.alloc o).cell? a = some v := cell_kept h (World.grownBy_alloc W o none) (fun r e => by cases e)
theorem frozen_alloc_l {W : World} {a : Addr} {v : Value} (o : Obj) (h : W.cell? a = some v) (hf : W.frozen? a = false) : (W.alloc o).frozen? a = false := (frozen_kept h (World.grownBy_alloc W o none) (fun r e => by cases e)).trans hf

/-- The set bit of a rank. -/
def selectOf (x : Nat) (k : Int) : Int := if 0 ≤ k then (match (places x)[k.toNat]? with | some i => (i : Int) | none => -1) else -1

def Passed (k : Int) (n : Nat) : Prop := ∀ j : Nat, j < n → k ≠ (j : Int)
theorem passed_next {k : Int} {n : Nat} (h : Passed k n) (hk : k ≠ n) : Passed k (n + 1) := by
  intro j hj
  by_cases e : j = n
  · subst e
    exact hk
  · exact h j (by omega)
theorem select_none {x : Nat} {k : Int} (h : Passed k (places x).length) : selectOf x k = -1 := by
  unfold selectOf
  split
  · rename_i h0
    rw [List.getElem?_eq_none]
    apply Nat.le_of_not_lt
    intro hlt
    exact h k.toNat hlt (by omega)
  · rfl
theorem select_some {x : Nat} {pre : List Nat} {i : Nat} (h : pre ++ [i] <+: places x) : selectOf x (pre.length : Int) = (i : Int) := by
  obtain ⟨r, hr⟩ := h
  unfold selectOf
  rw [if_pos (by omega), ← hr]
  simp

/-- Between two rounds: none of the ranks that have passed was asked for. -/
def SelI (k : Int) (B : Nat) (pre : List Nat) (W : World) : Prop :=
  (Passed k pre.length ∧ pre.length ≤ 64) ∧ W.cell? ⟨B, 0, none⟩ = some (.int .i64 (wrap64 (k - (pre.length : Int)))) ∧ W.frozen? ⟨B, 0, none⟩ = false ∧ W.cell? ⟨B + 1, 0, none⟩ = some (.int .i64 0) ∧ W.frozen? ⟨B + 1, 0, none⟩ = false
/-- A round has answered. -/
def SelX (k : Int) (B : Nat) (c : Code) (pre : List Nat) (W : World) : Prop :=
  c = .ret ∧ ∃ (pre' : List Nat) (i : Nat), pre = pre' ++ [i] ∧ k = (pre'.length : Int) ∧ W.cell? ⟨B + 1, 0, none⟩ = some (.int .i64 (i : Int))
theorem selI_own (k : Int) (B : Nat) : Own (SelI k B) := fun s A B' row hs hg hr =>
  ⟨hs.1, cell_kept hs.2.1 hg hr, (frozen_kept hs.2.1 hg hr).trans hs.2.2.1, cell_kept hs.2.2.2.1 hg hr, (frozen_kept hs.2.2.2.1 hg hr).trans hs.2.2.2.2⟩
theorem selX_own (k : Int) (B : Nat) (c : Code) : Own (SelX k B c) := fun s A B' row hs hg hr => by
  obtain ⟨h0, p, i, h1, h2, h3⟩ := hs
  exact ⟨h0, p, i, h1, h2, cell_kept h3 hg hr⟩

set_option maxHeartbeats 2000000 in
theorem select_calls (x : Nat) (hx : x < 18446744073709551616) (k : Int) (hk : -9223372036854775808 ≤ k ∧ k < 9223372036854775808) (w : World) (hT : TzTab w) (hg : 0 < w.heap.size) :
    Calls Tryd.prog 47 #[.int .u64 (x : Int), .int .i64 k] w fun e w' => e = .returned (.int .i64 (selectOf x k)) ∧ Below w.heap.size w w' := by
  refine (callsIn_wide (n := 9)).1 ?_
  refine callsIn_of_wp_marks Tryd.func47 rfl trivial ?_ rfl
  simp only [Tryd.ntmps47, List.size_toArray, List.length_cons, List.length_nil, Nat.reduceAdd, Nat.reduceSub, Array.replicate_succ, Array.replicate_zero, List.push_toArray, List.append_toArray, List.nil_append, List.cons_append]
  gi_wp2_with (refine ⟨trivial, ?_⟩; gi_at_call 59; refine (callsIn_wide.2 (each_calls _ _)).mono ?_; rintro e w' ⟨rfl, rfl⟩)
  have c0 := cell_new_l w (.int .i64 k) 3
  have c1 := cell_new_l (w.alloc (.cells #[.int .i64 k] 3)) (.int .i64 0) 3
  have c2 := cell_new_l ((w.alloc (.cells #[.int .i64 k] 3)).alloc (.cells #[.int .i64 0] 3)) (.int .u64 (x : Int)) 43
  simp only [World.size_alloc] at c1 c2
  have hB0 : Below w.heap.size w (((w.alloc (.cells #[.int .i64 k] 3)).alloc (.cells #[.int .i64 0] 3)).alloc (.cells #[.int .u64 (x : Int)] 43)) := (((Below.refl _ w).alloc (Nat.le_refl _) _).alloc (by simp) _).alloc (by simp; omega) _
  refine wpIn_rangeFunc_ownF rfl (by decide) (gf := 66) (lb := #[.pointer (some ⟨w.heap.size + 1 + 1, 0, none⟩)]) rfl trivial (enters_of Tryd.func66 (by kernel_rfl) rfl)
    (each_stops _ (w.heap.size + 1 + 1) w.heap.size hg x hx _ (by simp) (by simp; omega) c2.1 (hT.below hg hB0)) belowK_t (belowK_b (by simp; omega)) (Below.refl _ _) (fun _ => rfl)
    (fun pre W => SelI k w.heap.size pre W ∧ Below w.heap.size w W)
    (fun c pre W => SelX k w.heap.size c pre W ∧ Below w.heap.size w W)
    (OwnFrom.and (Own.from (selI_own _ _) _) (ownFrom_below (Nat.le_refl _) (by simp; omega)))
    (fun c => OwnFrom.and (Own.from (selX_own _ _ c) _) (ownFrom_below (Nat.le_refl _) (by simp; omega)))
    ⟨⟨⟨fun j hj => absurd hj (by simp), by simp⟩, by rw [show wrap64 (k - (([] : List Nat).length : Int)) = k from by unfold wrap64; simp; omega]; exact cell_alloc_l _ (cell_alloc_l _ c0.1), frozen_alloc_l _ (cell_alloc_l _ c0.1) (frozen_alloc_l _ c0.1 c0.2), cell_alloc_l _ c1.1, frozen_alloc_l _ c1.1 c1.2⟩, hB0⟩
    (fun i => { tmps := #[.int .u64 (x : Int), .int .i64 k, undef, .pointer (some ⟨w.heap.size, 0, none⟩), .pointer (some ⟨w.heap.size + 1, 0, none⟩), .int .i64 (i : Int), .int .u64 (x : Int), .func (.func 66) #[] #[.pointer (some ⟨w.heap.size + 1 + 1, 0, none⟩)], .int .i64 (i : Int), undef, undef, undef, undef, undef], defers := [] }) ?assign ?body ?done ?stop
  case assign =>
    intro l x W K hK
    gi_wp2
    exact hK
  case body =>
    rintro l pre i W ⟨⟨⟨hp, hlen⟩, hck, hfk, hcr, hfr⟩, hB⟩ hlt
    have h64 := places_length x
    by_cases hq : k = (pre.length : Int)
    · have e0 : wrap64 (k - (pre.length : Int)) = 0 := by rw [hq]; unfold wrap64; omega
      rw [e0] at hck
      have hfin : SelX k w.heap.size .ret (pre ++ [i]) (W.setCell ⟨w.heap.size + 1, 0, none⟩ (.int .i64 (i : Int))) := ⟨rfl, pre, i, rfl, hq, World.cell?_setCell_same' _ _ _ (by rw [hcr]; rfl)⟩
      have HF := Lib.hid hfin
      clear hfin e0 hq hp hlen hlt h64 hk
      gi_wp2
      exact ⟨KeepsOthers.setCell _ _ _, HF.out, hB.setCell (p := ⟨w.heap.size + 1, 0, none⟩) (by simp) _⟩
    · obtain ⟨c, hc⟩ : ∃ c, wrap64 (k - (pre.length : Int)) = c := ⟨_, rfl⟩
      have hc0 : c ≠ 0 := by
        rw [← hc]
        unfold wrap64
        omega
      have hc1 : wrap64 (c - 1) = wrap64 (k - ((pre ++ [i]).length : Int)) := by
        rw [← hc, List.length_append, List.length_singleton]
        unfold wrap64
        omega
      rw [hc] at hck
      have hb : (c == 0) = false := by simpa using hc0
      have hp' := passed_next hp hq
      have hfin : ∀ W', W'.cell? ⟨w.heap.size, 0, none⟩ = some (.int .i64 (wrap64 (c - 1))) → W'.frozen? ⟨w.heap.size, 0, none⟩ = false → W'.cell? ⟨w.heap.size + 1, 0, none⟩ = some (.int .i64 0) → W'.frozen? ⟨w.heap.size + 1, 0, none⟩ = false → SelI k w.heap.size (pre ++ [i]) W' :=
        fun W' g1 g2 g3 g4 => ⟨⟨by rw [List.length_append, List.length_singleton]; exact hp', by rw [List.length_append, List.length_singleton]; omega⟩, by rw [← hc1]; exact g1, g2, g3, g4⟩
      have HF := Lib.hid hfin
      clear hfin hc hc0 hc1 hp' hp hlen hlt h64 hk hq
      gi_wp2
      refine ⟨KeepsOthers.setCell _ _ _, (Below.refl _ W).setCell (p := ⟨w.heap.size, 0, none⟩) (by simp) _, HF.out _ ?_ ?_ ?_ ?_, hB.setCell (p := ⟨w.heap.size, 0, none⟩) (by simp) _⟩
      · exact World.cell?_setCell_same' _ _ _ (by rw [hck]; rfl)
      · rw [World.frozen?_setCell]; exact hfk
      · rw [World.cell?_setCell_other]
        · exact hcr
        · simp
      · rw [World.frozen?_setCell]; exact hfr
  case done =>
    rintro D ys W hD rfl ⟨⟨⟨hne, _⟩, _, _, hcr, hfr⟩, hB⟩ hK
    gi_wp2
    have hK' := (KeepsOthers.setCell W ⟨w.heap.size + 1, 0, none⟩ (.int .i64 (-1))).same D _ hK rfl
    refine ⟨by simp, .inl ⟨_, _, rfl, run_takeDeferred hK', ?_⟩⟩
    have hc5 := cell_kept (World.cell?_setCell_same' W ⟨w.heap.size + 1, 0, none⟩ (.int .i64 (-1)) (by rw [hcr]; rfl)) (grownBy_putObj' _ D (.deferred none)) (fun r e => by cases e; exact ⟨_, hK', rfl⟩)
    refine ⟨.int .i64 (-1), ?_, by rw [select_none hne], (hB.setCell (p := ⟨w.heap.size + 1, 0, none⟩) (by simp) _).trans (belowK_b (w := w) (Nat.le_refl _) _ D _ _ (by simp at hD; omega) hK' rfl rfl)⟩
    simp [results, Tryd.f47, go_sem, hc5]
  case stop =>
    rintro D c pre W hD hpre ⟨⟨rfl, pre', i, rfl, hki, hcr⟩, hB⟩ hK
    gi_wp2
    refine ⟨by simp, .inl ⟨_, _, rfl, run_takeDeferred hK, ?_⟩⟩
    have hc5 := cell_kept hcr (grownBy_putObj' _ D (.deferred none)) (fun r e => by cases e; exact ⟨_, hK, rfl⟩)
    refine ⟨.int .i64 (i : Int), ?_, by rw [hki, select_some hpre], hB.trans (belowK_b (w := w) (Nat.le_refl _) W D _ _ (by simp at hD; omega) hK rfl rfl)⟩
    simp [results, Tryd.f47, go_sem, hc5]
end Go.Proofs.YtahmpmlbonpabaaDoor
