/- utf8.Bad: the loop over a text, and what the whole tells. -/
import Derived.Test.YthlneooboiphdaaUtf8W
import Derived.Deep.QuietTactic
import Derived.BigQuiet
set_option linter.unusedVariables false
set_option linter.unusedSimpArgs false
namespace Go.Proofs.Ythlneooboiphdaa
open Go.RowKit Go.Proofs.YthlneooboiphdaaW.PrintWords Go.Proofs.YthlneooboiphdaaW.PrintLast Go.Proofs.YthlneooboiphdaaW.PrintMore

/-- The bytes of a text from a place on. -/
def bytesFrom (s : ByteArray) (i : Nat) : List Int := (s.data.toList.drop i).map (fun b => (b.toNat : Int))
theorem bytesFrom_end (s : ByteArray) (i : Nat) (h : s.size ≤ i) : bytesFrom s i = [] := by
  unfold bytesFrom
  rw [List.drop_of_length_le (by rw [Array.length_toList]; exact h)]
  rfl
theorem bt_nat8 (s : ByteArray) (i : Nat) : ∀ h : i < s.size, ((s[i]'h).toNat : Int) = bt s (i : Int) := fun h => bt_at s (i : Int) (by simpa using h)
theorem bytesFrom_cons (s : ByteArray) (i : Nat) (h : i < s.size) : bytesFrom s i = bt s (i : Int) :: bytesFrom s (i + 1) := by
  unfold bytesFrom
  rw [List.drop_eq_getElem_cons (by rw [Array.length_toList]; exact h), List.map_cons, ← bt_nat8 s i h]
  rfl
/-- Where a text stops being UTF-8; -1: nowhere. -/
def badOf (s : ByteArray) : Int := u8scan 0 0 0 0 (bytesFrom s 0)
theorem u8first_want {x : Int} {a l u : Int} (h : u8first x = some (a, l, u)) : 0 ≤ a ∧ a ≤ 3 := by
  unfold u8first at h
  split at h
  · simp at h; omega
  · split at h
    · cases h
    · simp at h
      obtain ⟨h, _, _⟩ := h
      split at h
      · omega
      · split at h <;> omega
theorem u8step_want {want lo hi x a l u : Int} (hw0 : 0 ≤ want) (hw3 : want ≤ 3) (h : u8step want lo hi x = some (a, l, u)) : 0 ≤ a ∧ a ≤ 3 := by
  unfold u8step at h
  split at h
  · exact u8first_want h
  · split at h
    · cases h
    · simp at h
      omega
set_option maxHeartbeats 4000000 in
set_option maxRecDepth 100000 in
theorem u8feed_calls (b : Nat) (s : ByteArray) (hs : s.size ≤ 1152921504606846976) (ch0 : Int) (w : World) (hU0 : U8At w b 0 0 0 ch0 0 false) :
    Calls Try.prog 83 #[.pointer (some ⟨b, 0, none⟩), .string s] w fun e w' => (∃ v, e = .returned v) ∧ (∃ want lo hi ch came bad, U8At w' b want lo hi ch came bad ∧ badOf s = if bad = true ∨ 0 < want then came else -1) ∧ Below b w w' := by
  go_enter Try.func83, Try.ntmps83
  go_wp2
  go_loopg [5] (s.size + 2) (fun kq v5 wr => ∃ (i : Nat) (want lo hi ch came : Int) (bad : Bool), v5 = .int .i64 (i : Int) ∧ Aside0 (i ≤ s.size + 1 ∧ i + kq = s.size + 2) ∧ Aside0 (U8At wr b want lo hi ch came bad) ∧ Aside0 (Below b w wr) ∧
    Aside0 (bad = false → came = (i : Int) ∧ i ≤ s.size ∧ 0 ≤ want ∧ want ≤ 3 ∧ badOf s = u8scan want lo hi (i : Int) (bytesFrom s i)) ∧ Aside0 (bad = true → badOf s = came))
  case atStart => exact ⟨0, 0, 0, 0, ch0, 0, false, rfl, ⟨by omega, by omega⟩, ⟨hU0⟩, ⟨Below.refl _ _⟩, ⟨fun _ => ⟨rfl, Nat.zero_le _, Int.le_refl _, by decide, rfl⟩⟩, ⟨fun h => by cases h⟩⟩
  case round =>
    clear hU0
    obtain ⟨i, want, lo, hi, ch, came, bad, rfl, HK, HU, HB, HG, HD⟩ := hrel
    have hk := HK.out
    obtain ⟨c0, c1, c2, c3, c4, c5, f0, f1, f2, f3, f4, f5⟩ := HU.out
    by_cases hl : i < s.size
    · have q1 : decide (i < s.size) = true := decide_eq_true hl
      cases bad with
      | true =>
        have hd := HD.out rfl
        clear hl hk HK HG HD
        go_wp2
        go_ret
        exact ⟨⟨_, rfl⟩, ⟨_, _, _, _, _, _, HU.out, by rw [if_pos (.inl rfl)]; exact hd⟩, HB.out⟩
      | false =>
        obtain ⟨g1, g2, g3, g4, g5⟩ := HG.out rfl
        obtain ⟨k1, rfl⟩ : ∃ k1, gk = k1 + 1 := ⟨gk - 1, by omega⟩
        have hw1 : IntKind.i64.wrap ((i : Int) + 1) = ((i + 1 : Nat) : Int) := by rw [IntKind.wrap_i64]; omega
        have hx := bt_nat8 s i
        have hr := bt_range s (i : Int)
        rw [bytesFrom_cons s i hl] at g5
        have HL := Aside0.mk hl
        have HX := Aside0.mk hr
        have G := Aside0.mk (And.intro g1 (And.intro g3 (And.intro g4 g5)))
        have hk2 : i + 1 ≤ s.size + 1 ∧ i + 1 + k1 = s.size + 2 := by omega
        have HK2 := Aside0.mk hk2
        have hsc := u8step_calls b want lo hi ch came false (bt s (i : Int)) wr.drew (⟨c0, c1, c2, c3, c4, c5, f0, f1, f2, f3, f4, f5⟩) hr.1 (by omega) g3 g4
        rw [u8scan] at g5
        have hwt := fun a l u => u8step_want (want := want) (lo := lo) (hi := hi) (x := bt s (i : Int)) (a := a) (l := l) (u := u) g3 g4
        have HR2 : Aside0 (i + 1 ≤ s.size + 1 ∧ i + 1 + k1 = s.size + 2) := HK2
        cases hm : u8step want lo hi (bt s (i : Int)) with
        | none =>
          rw [hm] at hsc g5
          have HSC := Aside0.mk hsc
          have G5 : Aside0 (badOf s = (i : Int)) := ⟨g5⟩
          clear hr hk hk2 HK HG HD g1 g2 g3 g4 g5 hsc hwt hm
          go_upto_region 4 with fail
          go_still_tail 6, (by kernel_rfl)
          change wpList _ _ _ _ _ wr.drew
          go_wp2_with (first | (go_at_call 92; refine HSC.out.mono ?_; rintro e w2 ⟨⟨rfl, a, l, u, ch2, hU2⟩, hb⟩; have HB2 := Aside0.mk ((HB.out.drew).trans hb); have HU2 := Aside0.mk hU2; clear HU HB hb c0 c1 c2 c3 c4 c5 f0 f1 f2 f3 f4 f5 HSC; obtain ⟨c0, c1, c2, c3, c4, c5, f0, f1, f2, f3, f4, f5⟩ := hU2) | fail)
          go_roundg k1
          case measure => omega
          case rel => exact ⟨i + 1, a, l, u, ch2, came, true, rfl, HR2, ⟨HU2.out.put5 true⟩, ⟨below_own HB2.out _ _⟩, ⟨fun h => by cases h⟩, ⟨fun _ => G5.out.trans G.out.1.symm⟩⟩
        | some v =>
          obtain ⟨a, l, u⟩ := v
          rw [hm] at hsc g5
          have HSC := Aside0.mk hsc
          have hw := hwt a l u hm
          have hwc : IntKind.i64.wrap (came + 1) = came + 1 := by rw [IntKind.wrap_i64]; omega
          have G5 : Aside0 (came + 1 = ((i + 1 : Nat) : Int) ∧ i + 1 ≤ s.size ∧ 0 ≤ a ∧ a ≤ 3 ∧ badOf s = u8scan a l u ((i + 1 : Nat) : Int) (bytesFrom s (i + 1))) := ⟨by omega, by omega, hw.1, hw.2, g5⟩
          clear hr hk hk2 HK HG HD g1 g2 g3 g4 g5 hsc hwt hm G hw
          go_upto_region 4 with fail
          go_still_tail 6, (by kernel_rfl)
          change wpList _ _ _ _ _ wr.drew
          go_wp2_with (first | (go_at_call 92; refine HSC.out.mono ?_; rintro e w2 ⟨⟨rfl, ch2, hU2⟩, hb⟩; have HB2 := Aside0.mk ((HB.out.drew).trans hb); have HU2 := Aside0.mk hU2; clear HU HB hb c0 c1 c2 c3 c4 c5 f0 f1 f2 f3 f4 f5 HSC; obtain ⟨c0, c1, c2, c3, c4, c5, f0, f1, f2, f3, f4, f5⟩ := hU2) | fail)
          go_roundg k1
          case measure => omega
          case rel => exact ⟨i + 1, a, l, u, ch2, came + 1, false, rfl, HR2, ⟨HU2.out.put4 (came + 1)⟩, ⟨below_own HB2.out _ _⟩, G5.out |> fun h => ⟨fun _ => h⟩, ⟨fun h => by cases h⟩⟩
    · have q1 : decide (i < s.size) = false := decide_eq_false hl
      clear hk HK
      go_wp2
      go_ret
      refine ⟨⟨_, rfl⟩, ⟨_, _, _, _, _, _, HU.out, ?_⟩, HB.out⟩
      cases bad with
      | true => rw [if_pos (.inl rfl)]; exact HD.out rfl
      | false =>
        obtain ⟨g1, g2, g3, g4, g5⟩ := HG.out rfl
        rw [g5, bytesFrom_end s i (by omega), u8scan, ← g1]
        by_cases h : 0 < want
        · rw [if_pos h, if_pos (.inr h)]
        · rw [if_neg h, if_neg (by simp; omega)]
theorem U8At.of_blk {w : World} {b : Nat} {want lo hi ch came : Int} {bad : Bool} {t : TypeId} (h : w.heap[b]? = some (.cells #[.int .i64 want, .int .u8 lo, .int .u8 hi, .int .i32 ch, .int .i64 came, .bool bad] t (0, 0))) : U8At w b want lo hi ch came bad :=
  ⟨(blk_cell h 0).trans rfl, (blk_cell h 1).trans rfl, (blk_cell h 2).trans rfl, (blk_cell h 3).trans rfl, (blk_cell h 4).trans rfl, (blk_cell h 5).trans rfl, blk_frozen h 0, blk_frozen h 1, blk_frozen h 2, blk_frozen h 3, blk_frozen h 4, blk_frozen h 5⟩
set_option maxHeartbeats 4000000 in
/-- utf8.Bad, whole. -/
theorem utf8_Bad_calls (s : ByteArray) (hs : s.size ≤ 1152921504606846976) (w : World) :
    Calls Try.prog 70 #[.string s] w fun e w' => e = .returned (.int .i64 (badOf s)) ∧ Below w.heap.size w w' := by
  have hb0 := below_alloc (Below.refl w.heap.size w) (.cells #[.int .i64 0, .int .u8 0, .int .u8 0, .int .i32 0, .int .i64 0, .bool false] 116)
  have hU := U8At.of_blk (blk_new w (.cells #[.int .i64 0, .int .u8 0, .int .u8 0, .int .i32 0, .int .i64 0, .bool false] 116))
  go_enter Try.func70, Try.ntmps70
  go_upto_region 2 with fail
  generalize w.alloc (.cells #[.int .i64 0, .int .u8 0, .int .u8 0, .int .i32 0, .int .i64 0, .bool false] 116) = W at hb0 hU ⊢
  have HU := Aside0.mk hU
  have HB := Aside0.mk hb0
  clear hU hb0
  go_wp2_with (first
    | (go_at_call 83; refine (u8feed_calls w.heap.size s hs 0 W HU.out).mono ?_; rintro e w2 ⟨⟨v, rfl⟩, ⟨want, lo, hi, ch, came, bad, hU2, hbad⟩, hb⟩; have HU2 := Aside0.mk hU2; have HB2 := Aside0.mk (HB.out.trans hb); have HR := Aside0.mk hbad; clear hU2 hb hbad HU HB)
    | (go_at_call 84; refine (u8end_calls w.heap.size want lo hi ch came bad w2 HU2.out).mono ?_; rintro e w3 ⟨rfl, rfl⟩; rw [← HR.out])
    | fail)
  go_ret
  exact ⟨rfl, HB2.out⟩
end Go.Proofs.Ythlneooboiphdaa
