/- What trie.Build builds, in plain lists. -/
import Derived.Test.YthlneooboiphdaaTrieSharesNodeMade
set_option linter.unusedVariables false
set_option linter.unusedSimpArgs false
namespace Go.Proofs.Ythlneooboiphdaa.PTrieShares
open Go.RowKit Go.Proofs.Ythlneooboiphdaa Go.Proofs.YthlneooboiphdaaW.PrintWords Go.Proofs.YthlneooboiphdaaW.PrintLast Go.Proofs.YthlneooboiphdaaW.PrintMore
structure PN where
  st : List S53
  nx : List Nat
  en : List Int
def GN.abs (g : GN) : PN := ⟨g.st, g.nx, g.en⟩
def noP : PN := ⟨[], [], []⟩
/-- A step from a node; it is made, if there is none. -/
def stepP (T : List PN) (a : Nat) (s : S53) : List PN × Nat :=
  match T[a]? with
  | none => (T, a)
  | some n => match findS n.st s with
    | some m => (T, n.nx.getD m 0)
    | none => (T.set a ⟨n.st ++ [s], n.nx ++ [T.length], n.en⟩ ++ [noP], T.length)
def walkN (T : List PN) (p : List S53) : Nat → List PN × Nat
  | 0 => (T, 0)
  | j + 1 => stepP (walkN T p j).1 (walkN T p j).2 (rd_T53 p (j : Int))
def endP (T : List PN) (a : Nat) (i : Int) : List PN :=
  match T[a]? with
  | none => T
  | some n => T.set a ⟨n.st, n.nx, n.en ++ [i]⟩
def rdP (l : List (List S53)) (n : Nat) : List S53 := l.getD n []
def buildN (l : List (List S53)) : Nat → List PN
  | 0 => [noP]
  | n + 1 => endP (walkN (buildN l n) (rdP l n) (rdP l n).length).1 (walkN (buildN l n) (rdP l n) (rdP l n).length).2 (n : Int)
def totP (l : List (List S53)) : Nat → Nat
  | 0 => 0
  | n + 1 => totP l n + (rdP l n).length
/-- What the sizes are. -/
structure WfP (T : List PN) (k i : Nat) : Prop where
  pos : 0 < T.length
  len : T.length ≤ k + 1
  each : ∀ n ∈ T, n.st.length ≤ k ∧ n.nx.length = n.st.length ∧ n.en.length ≤ i ∧ ∀ m ∈ n.nx, m < T.length
theorem wfP_start : WfP [noP] 0 0 := ⟨by simp, by simp, fun n hn => by
  obtain rfl : n = noP := by simpa using hn
  exact ⟨Nat.le_refl _, rfl, Nat.le_refl _, fun m hm => by cases hm⟩⟩
theorem findS_lt {l : List S53} {s : S53} {m : Nat} (h : findS l s = some m) : m < l.length := (List.findIdx?_eq_some_iff_getElem.1 h).1
theorem wfP_step {T : List PN} {k i a : Nat} (h : WfP T k i) (ha : a < T.length) (s : S53) : WfP (stepP T a s).1 (k + 1) i ∧ (stepP T a s).2 < (stepP T a s).1.length := by
  unfold stepP
  rw [List.getElem?_eq_getElem ha]
  simp only
  have hn := h.each T[a] (List.getElem_mem ha)
  cases hf : findS T[a].st s with
  | some m =>
    simp only
    have hm := findS_lt hf
    refine ⟨⟨h.pos, by have := h.len; omega, fun n hn => ?_⟩, ?_⟩
    · obtain ⟨a1, a2, a3, a4⟩ := h.each n hn
      exact ⟨by omega, a2, a3, a4⟩
    · refine hn.2.2.2 _ ?_
      rw [List.getD_eq_getElem?_getD, List.getElem?_eq_getElem (by omega)]
      exact List.getElem_mem _
  | none =>
    simp only
    refine ⟨⟨by simp, by have := h.len; simp; omega, fun n hn2 => ?_⟩, by simp⟩
    rw [List.length_append, List.length_set]
    rcases List.mem_append.1 hn2 with h1 | h1
    · rcases List.mem_or_eq_of_mem_set h1 with h2 | h2
      · obtain ⟨a1, a2, a3, a4⟩ := h.each n h2
        exact ⟨by omega, a2, a3, fun m hm => Nat.lt_of_lt_of_le (a4 m hm) (Nat.le_add_right _ _)⟩
      · subst h2
        obtain ⟨a1, a2, a3, a4⟩ := hn
        refine ⟨by simp; omega, by simp [a2], a3, fun m hm => ?_⟩
        rcases List.mem_append.1 hm with h3 | h3
        · exact Nat.lt_of_lt_of_le (a4 m h3) (Nat.le_add_right _ _)
        · obtain rfl : m = T.length := by simpa using h3
          simp
    · obtain rfl : n = noP := by simpa using h1
      exact ⟨Nat.zero_le _, rfl, Nat.zero_le _, fun m hm => by cases hm⟩
theorem wfP_walk {T : List PN} {k i : Nat} (h : WfP T k i) (p : List S53) : ∀ j, WfP (walkN T p j).1 (k + j) i ∧ (walkN T p j).2 < (walkN T p j).1.length
  | 0 => ⟨h, h.pos⟩
  | j + 1 => wfP_step (wfP_walk h p j).1 (wfP_walk h p j).2 _
theorem wfP_end {T : List PN} {k i a : Nat} (h : WfP T k i) (x : Int) : WfP (endP T a x) k (i + 1) := by
  unfold endP
  cases ha : T[a]? with
  | none => exact ⟨h.pos, h.len, fun n hn => by obtain ⟨a1, a2, a3, a4⟩ := h.each n hn; exact ⟨a1, a2, by omega, a4⟩⟩
  | some n =>
    simp only
    refine ⟨by rw [List.length_set]; exact h.pos, by rw [List.length_set]; exact h.len, fun q hq => ?_⟩
    rw [List.length_set]
    rcases List.mem_or_eq_of_mem_set hq with h2 | h2
    · obtain ⟨a1, a2, a3, a4⟩ := h.each q h2
      exact ⟨a1, a2, by omega, a4⟩
    · obtain ⟨a1, a2, a3, a4⟩ := h.each n (List.mem_of_getElem? ha)
      subst h2
      exact ⟨a1, a2, by simp; omega, a4⟩
theorem wfP_build (l : List (List S53)) : ∀ n, WfP (buildN l n) (totP l n) n
  | 0 => wfP_start
  | n + 1 => wfP_end (wfP_walk (wfP_build l n) _ _).1 _
theorem totP_mono (l : List (List S53)) : ∀ {m n : Nat}, m ≤ n → totP l m ≤ totP l n := by
  intro m n h
  induction h with
  | refl => exact Nat.le_refl _
  | step h ih => exact Nat.le_trans ih (Nat.le_add_right _ _)
/-- The nodes as they go out. -/
def outP (T : List PN) : List S50 := T.map fun n => ⟨n.st, n.nx.map (fun (m : Nat) => (m : Int)), n.en⟩
end Go.Proofs.Ythlneooboiphdaa.PTrieShares
