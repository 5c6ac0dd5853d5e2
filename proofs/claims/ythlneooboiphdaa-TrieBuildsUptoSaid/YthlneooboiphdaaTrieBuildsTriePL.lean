/- The law's plain parts. -/
import Derived.Test.YthlneooboiphdaaTrieBuildsRefBuild
import Derived.Test.YthlneooboiphdaaPTrieBuildsx2
import Derived.Test.YthlneooboiphdaaPTrieBuildsx3
import Derived.Test.YthlneooboiphdaaOpB
set_option linter.unusedVariables false
set_option linter.unusedSimpArgs false
namespace Go.Proofs.Ythlneooboiphdaa.PTrieBuilds
open Go.RowKit Go.Proofs.Ythlneooboiphdaa Go.Proofs.YthlneooboiphdaaW.PrintWords Go.Proofs.YthlneooboiphdaaW.PrintLast Go.Proofs.YthlneooboiphdaaW.PrintMore
theorem ints_refl (l : List Int) (hl : l.length ≤ 9223372036854775806) : ∀ (k : Nat) (i : Int), 0 ≤ i → i ≤ l.length → l.length - i.toNat < k → quarryref00_SameInts.l0 k l l i = some true := by
  intro k
  induction k with
  | zero => intro i _ _ h; omega
  | succ k ih =>
    intro i h0 h1 h
    rw [quarryref00_SameInts.l0]
    by_cases hi : i < (l.length : Int)
    · rw [if_pos hi, if_pos h0, if_pos hi, if_pos rfl, w64_ (n := i + 1) (by omega) (by omega)]
      exact ih (i + 1) (by omega) (by omega) (by omega)
    · rw [if_neg hi]
theorem sameInts_refl (l : List Int) (k : Nat) (hl : l.length ≤ 9223372036854775806) (h : l.length < k) : quarryref00_SameInts.f k l l = some true := by
  unfold quarryref00_SameInts.f
  rw [if_pos rfl]
  exact ints_refl l hl k 0 (by decide) (by omega) (by simpa using h)
theorem steps_refl (l : List S53) (hl : l.length ≤ 9223372036854775806) : ∀ (k : Nat) (i : Int), 0 ≤ i → i ≤ l.length → l.length - i.toNat < k → quarryref00_SameSteps.l0 k l l i = some true := by
  intro k
  induction k with
  | zero => intro i _ _ h; omega
  | succ k ih =>
    intro i h0 h1 h
    rw [quarryref00_SameSteps.l0]
    by_cases hi : i < (l.length : Int)
    · rw [if_pos hi, if_pos h0, if_pos hi, if_neg (by simp), w64_ (n := i + 1) (by omega) (by omega)]
      exact ih (i + 1) (by omega) (by omega) (by omega)
    · rw [if_neg hi]
theorem sameSteps_refl (l : List S53) (k : Nat) (hl : l.length ≤ 9223372036854775806) (h : l.length < k) : quarryref00_SameSteps.f k l l = some true := by
  unfold quarryref00_SameSteps.f
  rw [if_pos rfl]
  exact steps_refl l hl k 0 (by decide) (by omega) (by simpa using h)
theorem trie_refl (l : List S50) (M : Nat) (hM : M ≤ 9223372036854775806) (hl : l.length ≤ 9223372036854775806) (hm : ∀ x ∈ l, x.f0.length ≤ M ∧ x.f1.length ≤ M ∧ x.f2.length ≤ M) : ∀ (k : Nat) (i : Int), 0 ≤ i → i ≤ l.length → l.length - i.toNat < k → quarryref00_SameTrie.l0 (k + M + 1) l l i = some true := by
  intro k
  induction k with
  | zero => intro i _ _ h; omega
  | succ k ih =>
    intro i h0 h1 h
    rw [show k + 1 + M + 1 = (k + M + 1) + 1 by omega, quarryref00_SameTrie.l0]
    by_cases hi : i < (l.length : Int)
    · have hx := hm (rd_T50 l i) (by
        unfold rd_T50
        rw [List.getD_eq_getElem?_getD, List.getElem?_eq_getElem (by omega)]
        exact List.getElem_mem _)
      rw [if_pos hi, if_pos h0, if_pos hi, sameSteps_refl _ _ (by omega) (by omega)]
      rw [Option.bind_some, if_pos rfl, sameInts_refl _ _ (by omega) (by omega)]
      rw [Option.bind_some, if_pos rfl, sameInts_refl _ _ (by omega) (by omega)]
      rw [Option.bind_some, if_pos rfl, w64_ (n := i + 1) (by omega) (by omega)]
      exact ih (i + 1) (by omega) (by omega) (by omega)
    · rw [if_neg hi]
theorem sameTrie_refl (l : List S50) (M : Nat) (hM : M ≤ 9223372036854775806) (hl : l.length ≤ 9223372036854775806) (hm : ∀ x ∈ l, x.f0.length ≤ M ∧ x.f1.length ≤ M ∧ x.f2.length ≤ M) : ∃ k, quarryref00_SameTrie.f k l l = some true := by
  refine ⟨l.length + 1 + M + 1, ?_⟩
  unfold quarryref00_SameTrie.f
  rw [if_pos rfl]
  exact trie_refl l M hM hl hm (l.length + 1) 0 (by decide) (by omega) (by simp)
/-! The document's Formed. -/
theorem esc_loop (s : ByteArray) (hs : s.size ≤ 1073741824) : ∀ (k : Nat) (i : Int) (out : List Int), 0 ≤ i → i ≤ s.size → s.size - i.toNat < k → (out.length : Int) ≤ 6 * i → ∃ t, quarryref15_Escape.l0 k s out i = some (t, 0) := by
  intro k
  induction k with
  | zero => intro i out _ _ h; omega
  | succ k ih =>
    intro i out h0 h1 h ho
    rw [quarryref15_Escape.l0]
    by_cases hi : i < (s.size : Int)
    · have hb := bt_range s i
      have hz := one15_size (bt s i)
      rw [if_pos hi, if_pos h0, quarryref15_one.f, if_pos hb]
      rw [Option.bind_some, if_pos (by omega), w64_ (n := i + 1) (by omega) (by omega)]
      exact ih (i + 1) _ (by omega) (by omega) (by omega) (by rw [List.length_append, bytesOf_length]; omega)
    · rw [if_neg hi]
      exact ⟨_, rfl⟩
theorem utf8_eval (s : ByteArray) (hs : s.size ≤ 1073741824) (k : Nat) (hk : s.size < k) : quarryref22_utf8.f k s = some (decide (badOf s < 0)) := by
  unfold quarryref22_utf8.f quarryref15_Escape.f quarryref05_Bad.f
  rw [if_pos hs]
  show Option.bind (if badOf s ≥ 0 then _ else _) _ = _
  by_cases hb : badOf s ≥ 0
  · rw [if_pos hb, decide_eq_false (by omega)]
    rfl
  · rw [if_neg hb, decide_eq_true (by omega)]
    obtain ⟨t, ht⟩ := esc_loop s hs k 0 [] (by decide) (by omega) (by simpa using hk) (by simp)
    rw [ht]
    rfl
theorem beq0 (a : Int) : (a == 0) = decide (a = 0) := by rw [Bool.eq_iff_iff]; simp
theorem step_eval (s : S53) (hs : s.f1.size ≤ 1073741824) (k : Nat) (hk : s.f1.size < k) : quarryref22_Step.f k s.f0 s.f1 s.f2 = some (okS s) := by
  unfold quarryref22_Step.f okS stepOk
  by_cases h1 : s.f0 = 1
  · rw [if_pos h1, if_pos h1]
    by_cases h2 : s.f2 = 0
    · rw [if_pos h2, utf8_eval _ hs k hk, decide_eq_true h2]
      rfl
    · rw [if_neg h2, decide_eq_false h2]
      rfl
  · rw [if_neg h1, if_neg h1]
    by_cases h2 : s.f0 = 2
    · rw [if_pos h2, if_pos h2]
      by_cases h3 : s.f1.toList = []
      · rw [if_pos h3, decide_eq_true h3]
        by_cases h4 : s.f2 ≥ 0
        · rw [if_pos h4, decide_eq_true (show 0 ≤ s.f2 from h4)]
          rfl
        · rw [if_neg h4, decide_eq_false (show ¬ 0 ≤ s.f2 from h4)]
          rfl
      · rw [if_neg h3, decide_eq_false h3]
        rfl
    · rw [if_neg h2, if_neg h2]
      by_cases h3 : s.f0 = 3
      · rw [if_pos h3, decide_eq_true h3]
        by_cases h4 : s.f1.toList = []
        · rw [if_pos h4, decide_eq_true h4, beq0]
          rfl
        · rw [if_neg h4, decide_eq_false h4]
          rfl
      · rw [if_neg h3, decide_eq_false h3]
        rfl
theorem formed_loop (p : List S53) (M : Nat) (hM : M ≤ 1073741824) (hp : p.length ≤ 9223372036854775806) (hm : ∀ s ∈ p, s.f1.size ≤ M) : ∀ (k : Nat) (i : Int), 0 ≤ i → i ≤ p.length → p.length - i.toNat < k → quarryref22_Formed.l0 (k + M + 1) p i = some ((p.drop i.toNat).all okS) := by
  intro k
  induction k with
  | zero => intro i _ _ h; omega
  | succ k ih =>
    intro i h0 h1 h
    rw [show k + 1 + M + 1 = (k + M + 1) + 1 by omega, quarryref22_Formed.l0]
    by_cases hi : i < (p.length : Int)
    · have hi2 : i.toNat < p.length := by omega
      have hr : rd_T53 p i = p[i.toNat]'hi2 := by
        unfold rd_T53
        rw [List.getD_eq_getElem?_getD, List.getElem?_eq_getElem hi2]
        rfl
      have hx := hm _ (List.getElem_mem hi2)
      rw [if_pos hi, if_pos h0, hr, step_eval _ (by omega) _ (by omega), List.drop_eq_getElem_cons hi2, List.all_cons]
      rw [Option.bind_some]
      cases hok : okS p[i.toNat] with
      | true =>
        rw [if_pos rfl, w64_ (n := i + 1) (by omega) (by omega), ih (i + 1) (by omega) (by omega) (by omega), show (i + 1).toNat = i.toNat + 1 by omega, Bool.true_and]
      | false =>
        rw [if_neg (by decide), Bool.false_and]
    · rw [if_neg hi, List.drop_of_length_le (by omega)]
      rfl
theorem formed_eval (p : List S53) (M : Nat) (hM : M ≤ 1073741824) (hp : p.length ≤ 9223372036854775806) (hm : ∀ s ∈ p, s.f1.size ≤ M) : ∃ k, quarryref22_Formed.f k p = some (p.all okS) :=
  ⟨p.length + 1 + M + 1, formed_loop p M hM hp hm (p.length + 1) 0 (by decide) (by omega) (by simp)⟩
theorem vast_some (l : List (List S53)) (hl : l.length ≤ 9223372036854775806) : ∃ k b, quarrylaw23_vastPaths.f k l = some b := by
  have key : ∀ (k : Nat) (x i : Int), 0 ≤ i → i ≤ l.length → l.length - i.toNat < k → ∃ b, quarrylaw23_vastPaths.l0 k l x i = some b := by
    intro k
    induction k with
    | zero => intro x i _ _ h; omega
    | succ k ih =>
      intro x i h0 h1 h
      rw [quarrylaw23_vastPaths.l0]
      by_cases hi : i < (l.length : Int)
      · rw [if_pos hi]
        by_cases hx : x ≤ 3000
        · rw [if_pos hx, if_pos h0, w64_ (n := i + 1) (by omega) (by omega)]
          exact ih _ (i + 1) (by omega) (by omega) (by omega)
        · rw [if_neg hx]
          exact ⟨_, rfl⟩
      · rw [if_neg hi]
        exact ⟨_, rfl⟩
  obtain ⟨b, hb⟩ := key (l.length + 1) (l.length : Int) 0 (by decide) (by omega) (by simp)
  exact ⟨_, b, hb⟩
/-! The small trie. -/
def smallL : List (List S53) := [[⟨1, ⟨#[97]⟩, 0⟩, ⟨1, ⟨#[98]⟩, 0⟩], [⟨1, ⟨#[97]⟩, 0⟩]]
theorem small_is : quarrylaw23_small.f = some smallL := rfl
def smallT : List S50 := [⟨[⟨1, ⟨#[97]⟩, 0⟩], [1], []⟩, ⟨[⟨1, ⟨#[98]⟩, 0⟩], [2], [1]⟩, ⟨[], [], [0]⟩]
theorem smallTrie_is : quarrylaw23_smallTrie.f = some smallT := rfl
theorem small_g : trie_Build.g smallL = (smallT, 0) := by kernel_rfl
theorem small_size : ∀ p ∈ smallL, ∀ s ∈ p, smallS s := by
  intro p hp s hs
  unfold smallL at hp
  simp only [List.mem_cons, List.not_mem_nil, or_false] at hp
  rcases hp with rfl | rfl
  · simp only [List.mem_cons, List.not_mem_nil, or_false] at hs
    rcases hs with rfl | rfl <;> (show (1 : Nat) ≤ _; decide)
  · simp only [List.mem_cons, List.not_mem_nil, or_false] at hs
    subst hs
    show (1 : Nat) ≤ _
    decide
theorem small_tot : totP smallL smallL.length ≤ 1000000000 := by decide
theorem small_same : quarryref00_SameTrie.f 20 smallT smallT = some true := by kernel_rfl
/-- The nodes' rows are no longer than the steps are many. -/
theorem outP_sizes (l : List (List S53)) (n : Nat) : ∀ x ∈ outP (buildN l n), x.f0.length ≤ totP l n + n ∧ x.f1.length ≤ totP l n + n ∧ x.f2.length ≤ totP l n + n := by
  intro x hx
  unfold outP at hx
  obtain ⟨q, hq, rfl⟩ := List.mem_map.1 hx
  obtain ⟨h1, h2, h3, _⟩ := (wfP_build l n).each q hq
  refine ⟨?_, ?_, ?_⟩
  · show q.st.length ≤ _
    omega
  · show (q.nx.map _).length ≤ _
    rw [List.length_map]
    omega
  · show q.en.length ≤ _
    omega
end Go.Proofs.Ythlneooboiphdaa.PTrieBuilds
