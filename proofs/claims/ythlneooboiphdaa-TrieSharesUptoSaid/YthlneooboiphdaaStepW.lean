/- path.step: the walk. -/
import Derived.Test.YthlneooboiphdaaUtf8B
set_option linter.unusedVariables false
set_option linter.unusedSimpArgs false
namespace Go.Proofs.Ythlneooboiphdaa
open Go.RowKit Go.Proofs.YthlneooboiphdaaW.PrintWords Go.Proofs.YthlneooboiphdaaW.PrintLast Go.Proofs.YthlneooboiphdaaW.PrintMore
/-- Is the step well shaped? -/
def stepOk (kind : Int) (name : ByteArray) (place : Int) : Bool :=
  if kind = 1 then decide (place = 0) && decide (badOf name < 0) else if kind = 2 then decide (name.toList = []) && (decide (0 ≤ place) && decide (place < 1000000000000000000)) else decide (kind = 3) && (decide (name.toList = []) && decide (place = 0))
/-- What step hands over: one of its kind, or nil. -/
def Steps (ok : Bool) (e : Ending) : Prop := (ok = true → ∃ t v, e = .returned (.iface t v)) ∧ (ok = false → e = .returned .nilIface)
set_option maxHeartbeats 4000000 in
set_option maxRecDepth 100000 in
theorem step_named (name : ByteArray) (hs : name.size ≤ 1152921504606846976) (w : World) (hbad : badOf name < 0) :
    Calls Try.prog 53 #[.agg #[.int .i64 1, .string name, .int .i64 0]] w fun e w' => Steps (true) e ∧ Below w.heap.size w w' := by
  have hu := Try.underlying53
  have hb0 := below_alloc (Below.refl w.heap.size w) (.cells #[.int .i64 1, .string name, .int .i64 0] 53)
  have BK := blk_new w (.cells #[.int .i64 1, .string name, .int .i64 0] 53)
  go_enter Try.func53, Try.ntmps53
  go_upto_region 1 with fail
  generalize w.alloc (.cells #[.int .i64 1, .string name, .int .i64 0] 53) = W at hb0 BK ⊢
  have HB := Aside0.mk hb0
  have k0 := (blk_cell BK 0).trans rfl
  have k1 := (blk_cell BK 1).trans rfl
  have k2 := (blk_cell BK 2).trans rfl
  clear hb0
  have hd : decide (badOf name < 0) = true := decide_eq_true hbad
  clear hbad
  go_wp2_with (first
    | (go_at_call 70; refine (utf8_Bad_calls name hs W).mono ?_; rintro e w2 ⟨rfl, hb⟩; have HB2 := Aside0.mk (below_step HB.out hb); have BK2 := blk_below BK hb; clear HB BK hb k0 k1 k2; have k0 := (blk_cell BK2 0).trans rfl; have k1 := (blk_cell BK2 1).trans rfl; have k2 := (blk_cell BK2 2).trans rfl)
    | fail)
  go_ret
  exact ⟨⟨fun _ => ⟨_, _, rfl⟩, fun h => (by cases h)⟩, HB2.out⟩
set_option maxHeartbeats 4000000 in
set_option maxRecDepth 100000 in
theorem step_badname (name : ByteArray) (hs : name.size ≤ 1152921504606846976) (w : World) (hbad : ¬ badOf name < 0) :
    Calls Try.prog 53 #[.agg #[.int .i64 1, .string name, .int .i64 0]] w fun e w' => Steps (false) e ∧ Below w.heap.size w w' := by
  have hu := Try.underlying53
  have hb0 := below_alloc (Below.refl w.heap.size w) (.cells #[.int .i64 1, .string name, .int .i64 0] 53)
  have BK := blk_new w (.cells #[.int .i64 1, .string name, .int .i64 0] 53)
  go_enter Try.func53, Try.ntmps53
  go_upto_region 1 with fail
  generalize w.alloc (.cells #[.int .i64 1, .string name, .int .i64 0] 53) = W at hb0 BK ⊢
  have HB := Aside0.mk hb0
  have k0 := (blk_cell BK 0).trans rfl
  have k1 := (blk_cell BK 1).trans rfl
  have k2 := (blk_cell BK 2).trans rfl
  clear hb0
  have hd : decide (badOf name < 0) = false := decide_eq_false hbad
  clear hbad
  go_wp2_with (first
    | (go_at_call 70; refine (utf8_Bad_calls name hs W).mono ?_; rintro e w2 ⟨rfl, hb⟩; have HB2 := Aside0.mk (below_step HB.out hb); have BK2 := blk_below BK hb; clear HB BK hb k0 k1 k2; have k0 := (blk_cell BK2 0).trans rfl; have k1 := (blk_cell BK2 1).trans rfl; have k2 := (blk_cell BK2 2).trans rfl)
    | fail)
  go_ret
  exact ⟨⟨fun h => (by cases h), fun _ => rfl⟩, HB2.out⟩
set_option maxHeartbeats 4000000 in
set_option maxRecDepth 100000 in
theorem step_namedplace (name : ByteArray) (place : Int) (w : World) (hp : ¬ place = 0) :
    Calls Try.prog 53 #[.agg #[.int .i64 1, .string name, .int .i64 place]] w fun e w' => Steps (false) e ∧ Below w.heap.size w w' := by
  have hu := Try.underlying53
  have hb0 := below_alloc (Below.refl w.heap.size w) (.cells #[.int .i64 1, .string name, .int .i64 place] 53)
  have BK := blk_new w (.cells #[.int .i64 1, .string name, .int .i64 place] 53)
  go_enter Try.func53, Try.ntmps53
  go_upto_region 1 with fail
  generalize w.alloc (.cells #[.int .i64 1, .string name, .int .i64 place] 53) = W at hb0 BK ⊢
  have HB := Aside0.mk hb0
  have k0 := (blk_cell BK 0).trans rfl
  have k1 := (blk_cell BK 1).trans rfl
  have k2 := (blk_cell BK 2).trans rfl
  clear hb0
  have hd : (place == 0) = false := beq_eq_false_iff_ne.2 hp
  clear hp
  go_wp2
  go_ret
  exact ⟨⟨fun h => (by cases h), fun _ => rfl⟩, HB.out⟩
set_option maxHeartbeats 4000000 in
set_option maxRecDepth 100000 in
theorem step_placed (name : ByteArray) (place : Int) (w : World) :
    Calls Try.prog 53 #[.agg #[.int .i64 2, .string name, .int .i64 place]] w fun e w' => Steps (decide (name.toList = []) && (decide (0 ≤ place) && decide (place < 1000000000000000000))) e ∧ Below w.heap.size w w' := by
  have hu := Try.underlying53
  have hb0 := below_alloc (Below.refl w.heap.size w) (.cells #[.int .i64 2, .string name, .int .i64 place] 53)
  have BK := blk_new w (.cells #[.int .i64 2, .string name, .int .i64 place] 53)
  go_enter Try.func53, Try.ntmps53
  go_upto_region 1 with fail
  generalize w.alloc (.cells #[.int .i64 2, .string name, .int .i64 place] 53) = W at hb0 BK ⊢
  have HB := Aside0.mk hb0
  have k0 := (blk_cell BK 0).trans rfl
  have k1 := (blk_cell BK 1).trans rfl
  have k2 := (blk_cell BK 2).trans rfl
  clear hb0
  go_wp2
  all_goals go_ret
  all_goals refine ⟨?_, HB.out⟩
  all_goals (simp_all [Steps]; try omega)
set_option maxHeartbeats 4000000 in
set_option maxRecDepth 100000 in
theorem step_each (name : ByteArray) (place : Int) (w : World) :
    Calls Try.prog 53 #[.agg #[.int .i64 3, .string name, .int .i64 place]] w fun e w' => Steps (decide (name.toList = []) && decide (place = 0)) e ∧ Below w.heap.size w w' := by
  have hu := Try.underlying53
  have hb0 := below_alloc (Below.refl w.heap.size w) (.cells #[.int .i64 3, .string name, .int .i64 place] 53)
  have BK := blk_new w (.cells #[.int .i64 3, .string name, .int .i64 place] 53)
  go_enter Try.func53, Try.ntmps53
  go_upto_region 1 with fail
  generalize w.alloc (.cells #[.int .i64 3, .string name, .int .i64 place] 53) = W at hb0 BK ⊢
  have HB := Aside0.mk hb0
  have k0 := (blk_cell BK 0).trans rfl
  have k1 := (blk_cell BK 1).trans rfl
  have k2 := (blk_cell BK 2).trans rfl
  clear hb0
  go_wp2
  all_goals go_ret
  all_goals refine ⟨?_, HB.out⟩
  all_goals (simp_all [Steps]; try omega)
set_option maxHeartbeats 4000000 in
set_option maxRecDepth 100000 in
theorem step_other (kind : Int) (name : ByteArray) (place : Int) (w : World) (h1 : ¬ kind = 1) (h2 : ¬ kind = 2) (h3 : ¬ kind = 3) :
    Calls Try.prog 53 #[.agg #[.int .i64 kind, .string name, .int .i64 place]] w fun e w' => Steps (false) e ∧ Below w.heap.size w w' := by
  have hu := Try.underlying53
  have hb0 := below_alloc (Below.refl w.heap.size w) (.cells #[.int .i64 kind, .string name, .int .i64 place] 53)
  have BK := blk_new w (.cells #[.int .i64 kind, .string name, .int .i64 place] 53)
  go_enter Try.func53, Try.ntmps53
  go_upto_region 1 with fail
  generalize w.alloc (.cells #[.int .i64 kind, .string name, .int .i64 place] 53) = W at hb0 BK ⊢
  have HB := Aside0.mk hb0
  have k0 := (blk_cell BK 0).trans rfl
  have k1 := (blk_cell BK 1).trans rfl
  have k2 := (blk_cell BK 2).trans rfl
  clear hb0
  have d1 : (kind == 1) = false := beq_eq_false_iff_ne.2 h1
  have d2 : (kind == 2) = false := beq_eq_false_iff_ne.2 h2
  have d3 : (kind == 3) = false := beq_eq_false_iff_ne.2 h3
  clear h1 h2 h3
  go_wp2
  go_ret
  exact ⟨⟨fun h => (by cases h), fun _ => rfl⟩, HB.out⟩
theorem path_step_calls (kind : Int) (name : ByteArray) (place : Int) (hs : name.size ≤ 1152921504606846976) (w : World) :
    Calls Try.prog 53 #[.agg #[.int .i64 kind, .string name, .int .i64 place]] w fun e w' => Steps (stepOk kind name place) e ∧ Below w.heap.size w w' := by
  unfold stepOk
  by_cases h1 : kind = 1
  · subst h1
    rw [if_pos rfl]
    by_cases hp : place = 0
    · subst hp
      rw [decide_eq_true rfl, Bool.true_and]
      by_cases hb : badOf name < 0
      · rw [decide_eq_true hb]
        exact step_named name hs w hb
      · rw [decide_eq_false hb]
        exact step_badname name hs w hb
    · rw [decide_eq_false hp, Bool.false_and]
      exact step_namedplace name place w hp
  · rw [if_neg h1]
    by_cases h2 : kind = 2
    · subst h2
      rw [if_pos rfl]
      exact step_placed name place w
    · rw [if_neg h2]
      by_cases h3 : kind = 3
      · subst h3
        rw [decide_eq_true rfl, Bool.true_and]
        exact step_each name place w
      · rw [decide_eq_false h3, Bool.false_and]
        exact step_other kind name place w h1 h2 h3
end Go.Proofs.Ythlneooboiphdaa
