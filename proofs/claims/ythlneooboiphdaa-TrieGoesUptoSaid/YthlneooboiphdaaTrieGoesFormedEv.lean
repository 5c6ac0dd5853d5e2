/- The document's Formed of a path, from some number of rounds on. -/
import Derived.Test.YthlneooboiphdaaTrieGoesPathFormed
import Derived.Test.YthlneooboiphdaaPTrieGoesx5
import Derived.Test.YthlneooboiphdaaEvt
import Derived.Test.YthlneooboiphdaaOne15
import Derived.Test.YthlneooboiphdaaWalk5
set_option linter.unusedVariables false
set_option linter.unusedSimpArgs false
namespace Go.Proofs.Ythlneooboiphdaa.PTrieGoes
open Go.RowKit Go.Proofs.Ythlneooboiphdaa Go.Proofs.YthlneooboiphdaaW.PrintWords Go.Proofs.YthlneooboiphdaaW.PrintLast Go.Proofs.YthlneooboiphdaaW.PrintMore
/-! The document's Formed. -/
theorem esc_loop (s : ByteArray) (hs : s.size ≤ 1073741824) : ∀ (k : Nat) (i : Int) (out : List Int), 0 ≤ i → i ≤ s.size → s.size - i.toNat < k → (out.length : Int) ≤ 6 * i → ∃ t, quarryref15_Escape.l0 k s out i = some (t, 0) := by
  intro k
  induction k with
  | zero => intro i out _ _ h; omega
  | succ k ih =>
    intro i out h0 h1 h ho
    rw [quarryref15_Escape.l0]
    by_cases hi : i < (s.size : Int)
    · have hb := bt_range s i
      have hz := one15_size (bt s i)
      rw [if_pos hi, if_pos h0, quarryref15_one.f, if_pos hb]
      rw [Option.bind_some, if_pos (by omega), w64_ (n := i + 1) (by omega) (by omega)]
      exact ih (i + 1) _ (by omega) (by omega) (by omega) (by rw [List.length_append, bytesOf_length]; omega)
    · rw [if_neg hi]
      exact ⟨_, rfl⟩
theorem utf8_eval (s : ByteArray) (hs : s.size ≤ 1073741824) (k : Nat) (hk : s.size < k) : quarryref22_utf8.f k s = some (decide (badOf s < 0)) := by
  unfold quarryref22_utf8.f quarryref15_Escape.f quarryref05_Bad.f
  rw [if_pos hs]
  show Option.bind (if badOf s ≥ 0 then _ else _) _ = _
  by_cases hb : badOf s ≥ 0
  · rw [if_pos hb, decide_eq_false (by omega)]
    rfl
  · rw [if_neg hb, decide_eq_true (by omega)]
    obtain ⟨t, ht⟩ := esc_loop s hs k 0 [] (by decide) (by omega) (by simpa using hk) (by simp)
    rw [ht]
    rfl
theorem beq0 (a : Int) : (a == 0) = decide (a = 0) := by rw [Bool.eq_iff_iff]; simp
theorem step_eval (s : S53) (hs : s.f1.size ≤ 1073741824) (k : Nat) (hk : s.f1.size < k) : quarryref22_Step.f k s.f0 s.f1 s.f2 = some (okS s) := by
  unfold quarryref22_Step.f okS stepOk
  by_cases h1 : s.f0 = 1
  · rw [if_pos h1, if_pos h1]
    by_cases h2 : s.f2 = 0
    · rw [if_pos h2, utf8_eval _ hs k hk, decide_eq_true h2]
      rfl
    · rw [if_neg h2, decide_eq_false h2]
      rfl
  · rw [if_neg h1, if_neg h1]
    by_cases h2 : s.f0 = 2
    · rw [if_pos h2, if_pos h2]
      by_cases h3 : s.f1.toList = []
      · rw [if_pos h3, decide_eq_true h3]
        by_cases h4 : s.f2 ≥ 0
        · rw [if_pos h4, decide_eq_true (show 0 ≤ s.f2 from h4)]
          rfl
        · rw [if_neg h4, decide_eq_false (show ¬ 0 ≤ s.f2 from h4)]
          rfl
      · rw [if_neg h3, decide_eq_false h3]
        rfl
    · rw [if_neg h2, if_neg h2]
      by_cases h3 : s.f0 = 3
      · rw [if_pos h3, decide_eq_true h3]
        by_cases h4 : s.f1.toList = []
        · rw [if_pos h4, decide_eq_true h4, beq0]
          rfl
        · rw [if_neg h4, decide_eq_false h4]
          rfl
      · rw [if_neg h3, decide_eq_false h3]
        rfl
theorem formed_loop (p : List S53) (M : Nat) (hM : M ≤ 1073741824) (hp : p.length ≤ 9223372036854775806) (hm : ∀ s ∈ p, s.f1.size ≤ M) : ∀ (k : Nat) (i : Int), 0 ≤ i → i ≤ p.length → p.length - i.toNat < k → quarryref22_Formed.l0 (k + M + 1) p i = some ((p.drop i.toNat).all okS) := by
  intro k
  induction k with
  | zero => intro i _ _ h; omega
  | succ k ih =>
    intro i h0 h1 h
    rw [show k + 1 + M + 1 = (k + M + 1) + 1 by omega, quarryref22_Formed.l0]
    by_cases hi : i < (p.length : Int)
    · have hi2 : i.toNat < p.length := by omega
      have hr : rd_T53 p i = p[i.toNat]'hi2 := by
        unfold rd_T53
        rw [List.getD_eq_getElem?_getD, List.getElem?_eq_getElem hi2]
        rfl
      have hx := hm _ (List.getElem_mem hi2)
      rw [if_pos hi, if_pos h0, hr, step_eval _ (by omega) _ (by omega), List.drop_eq_getElem_cons hi2, List.all_cons]
      rw [Option.bind_some]
      cases hok : okS p[i.toNat] with
      | true =>
        rw [if_pos rfl, w64_ (n := i + 1) (by omega) (by omega), ih (i + 1) (by omega) (by omega) (by omega), show (i + 1).toNat = i.toNat + 1 by omega, Bool.true_and]
      | false =>
        rw [if_neg (by decide), Bool.false_and]
    · rw [if_neg hi, List.drop_of_length_le (by omega)]
      rfl
theorem formed_evt (p : List S53) (M : Nat) (hM : M ≤ 1073741824) (hp : p.length ≤ 9223372036854775806) (hm : ∀ s ∈ p, s.f1.size ≤ M) : Evt (fun k => quarryref22_Formed.f k p) (p.all okS) := by
  refine ⟨p.length + 1 + M + 1, fun k hk => ?_⟩
  obtain ⟨m, rfl⟩ : ∃ m, k = m + M + 1 := ⟨k - M - 1, by omega⟩
  exact formed_loop p M hM hp hm m 0 (by decide) (by omega) (by simp; omega)
end Go.Proofs.Ythlneooboiphdaa.PTrieGoes
