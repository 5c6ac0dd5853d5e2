/- TrieGoes: what the law computes is true. -/
import Derived.Test.YthlneooboiphdaaTrieGoesGoEv
import Derived.Test.YthlneooboiphdaaPTrieGoesx9
set_option linter.unusedVariables false
set_option linter.unusedSimpArgs false
namespace Go.Proofs.Ythlneooboiphdaa.PTrieGoes
open Go.RowKit Go.Proofs.Ythlneooboiphdaa Go.Proofs.YthlneooboiphdaaW.PrintWords Go.Proofs.YthlneooboiphdaaW.PrintLast Go.Proofs.YthlneooboiphdaaW.PrintMore
open Classical
theorem vast_evt (t : List S50) (hT : t.length ≤ 1073741824) : ∃ b, Evt (fun k => quarrylaw23_vast.f k t) b := by
  have key : ∀ (d : Nat) (x i : Int), 0 ≤ i → (t.length : Int) ≤ i + d → ∃ b, Evt (fun k => quarrylaw23_vast.l0 k t x i) b := by
    intro d
    induction d with
    | zero =>
      intro x i h0 h1
      have hi : ¬ i < (t.length : Int) := by omega
      exact ⟨_, Evt.done (fun k => by rw [quarrylaw23_vast.l0, if_neg hi])⟩
    | succ d ih =>
      intro x i h0 h1
      by_cases hi : i < (t.length : Int)
      · by_cases hx : x ≤ 3000
        · have hw : wrap64 (i + 1) = i + 1 := w64_ (by omega) (by omega)
          obtain ⟨b, hb⟩ := ih (wrap64 ((wrap64 ((wrap64 (x + (((rd_T50 t i).f0).length : Int))) + (((rd_T50 t i).f1).length : Int))) + (((rd_T50 t i).f2).length : Int))) (i + 1) (by omega) (by omega)
          exact ⟨b, Evt.step _ (fun k => by rw [quarrylaw23_vast.l0, if_pos hi, if_pos hx, if_pos h0, hw]) hb⟩
        · exact ⟨_, Evt.done (fun k => by rw [quarrylaw23_vast.l0, if_pos hi, if_neg hx])⟩
      · exact ⟨_, Evt.done (fun k => by rw [quarrylaw23_vast.l0, if_neg hi])⟩
  exact key t.length (t.length : Int) 0 (by decide) (by omega)
theorem ints_evt (l : List Int) (hl : l.length ≤ 4611686018427387904) : Evt (fun k => quarryref00_SameInts.f k l l) true := by
  have key : ∀ (d : Nat) (i : Int), 0 ≤ i → (l.length : Int) ≤ i + d → Evt (fun k => quarryref00_SameInts.l0 k l l i) true := by
    intro d
    induction d with
    | zero =>
      intro i h0 h1
      have hi : ¬ i < (l.length : Int) := by omega
      exact Evt.done (fun k => by rw [quarryref00_SameInts.l0, if_neg hi])
    | succ d ih =>
      intro i h0 h1
      by_cases hi : i < (l.length : Int)
      · have hw : wrap64 (i + 1) = i + 1 := w64_ (by omega) (by omega)
        exact Evt.step _ (fun k => by rw [quarryref00_SameInts.l0, if_pos hi, if_pos h0, if_pos hi, if_pos rfl, hw]) (ih (i + 1) (by omega) (by omega))
      · exact Evt.done (fun k => by rw [quarryref00_SameInts.l0, if_neg hi])
  exact Evt.eq _ (fun k => by rw [quarryref00_SameInts.f, if_pos rfl]) (key l.length 0 (by decide) (by omega))
def smallT : List S50 := [⟨[⟨1, ⟨#[97]⟩, 0⟩], [1], []⟩, ⟨[⟨1, ⟨#[98]⟩, 0⟩], [2], [1]⟩, ⟨[], [], [0]⟩]
theorem smallTrie_is : quarrylaw23_smallTrie.f = some smallT := rfl
theorem small_small : SmallT smallT := by
  refine ⟨by decide, fun x hx => ?_, by decide, by decide⟩
  unfold smallT at hx
  simp only [List.mem_cons, List.not_mem_nil, or_false] at hx
  rcases hx with rfl | rfl | rfl
  · refine ⟨by decide, by decide, by decide, fun s hs => ?_⟩
    simp only [List.mem_cons, List.not_mem_nil, or_false] at hs
    subst hs
    show (1 : Nat) ≤ _
    decide
  · refine ⟨by decide, by decide, by decide, fun s hs => ?_⟩
    simp only [List.mem_cons, List.not_mem_nil, or_false] at hs
    subst hs
    show (1 : Nat) ≤ _
    decide
  · exact ⟨by decide, by decide, by decide, fun s hs => by cases hs⟩
theorem all_one {P : Int → Prop} (h : P 0) : All P 0 1 := fun m a b => by
  have : m = 0 := by omega
  subst this
  exact h
theorem small_formed : FormedQ smallT := by
  refine ⟨by decide, by decide, fun m a b => ?_, by decide, fun m a b => ?_, count_iff.2 (fun k a b => ?_)⟩
  · have hm : m = 0 ∨ m = 1 ∨ m = 2 := by
      have : m < 3 := b
      omega
    rcases hm with rfl | rfl | rfl
    · exact ⟨rfl, fun m a b => by have : m < 0 := b; omega, by kernel_rfl, all_one ⟨by decide, by decide, fun q a b => by omega⟩⟩
    · exact ⟨rfl, fun m a b => by have : m < 1 := b; omega, by kernel_rfl, all_one ⟨by decide, by decide, fun q a b => by omega⟩⟩
    · exact ⟨rfl, fun m a b => by have : m < 1 := b; omega, by kernel_rfl, fun m a b => by have : m < 0 := b; omega⟩
  · have hm : m = 1 ∨ m = 2 := by
      have : m < 3 := b
      omega
    rcases hm with rfl | rfl <;> decide
  · have hm : k = 0 ∨ k = 1 := by
      have : k < 2 := b
      omega
    rcases hm with rfl | rfl <;> decide
theorem small_go : goB smallT 0 ⟨#[97]⟩ 0 true = ([1], 0) := by
  unfold goB
  rw [if_pos small_formed, if_neg (by decide)]
  kernel_rfl
theorem asks_go (t : List S50) (hs : SmallT t) (l : List S38) (hl : l.length ≤ 4611686018427387904) : ∀ (d : Nat) (i : Int), 0 ≤ i → (l.length : Int) ≤ i + d → Evt (fun k => quarrylaw23_TrieGoes.l0 k t l i) true := by
  have stop : ∀ i : Int, Evt (fun k => quarrylaw23_TrieGoes.j2 k t l i false) true := fun i => Evt.done (fun k => by rw [quarrylaw23_TrieGoes.j2, if_neg (by decide)])
  intro d
  induction d with
  | zero =>
    intro i h0 h1
    have hi : ¬ i < (l.length : Int) := by omega
    exact Evt.step _ (fun k => by rw [quarrylaw23_TrieGoes.l0, if_neg hi]) (stop i)
  | succ d ih =>
    intro i h0 h1
    by_cases hi : i < (l.length : Int)
    · by_cases h3 : i < 300
      · have hw : wrap64 (i + 1) = i + 1 := w64_ (by omega) (by omega)
        have hg := go_evt t hs (rd_T38 l i).f0 (rd_T38 l i).f1 (rd_T38 l i).f2 (rd_T38 l i).f3
        have hr := refGo_evt t hs (rd_T38 l i).f0 (rd_T38 l i).f1 (rd_T38 l i).f2 (rd_T38 l i).f3
        have hlen := goB_len t hs (rd_T38 l i).f0 (rd_T38 l i).f1 (rd_T38 l i).f2 (rd_T38 l i).f3
        refine Evt.step (fun k => quarrylaw23_TrieGoes.j2 k t l i true) (fun k => by rw [quarrylaw23_TrieGoes.l0, if_pos hi, decide_eq_true h3]) ?_
        refine Evt.step _ (fun k => by rw [quarrylaw23_TrieGoes.j2, if_pos rfl, if_pos h0, if_pos hi]) (Evt.bind hg (Evt.bind hr (Evt.bind (ints_evt _ hlen) ?_)))
        exact Evt.eq _ (fun k => by rw [if_pos rfl, if_pos rfl, hw]) (ih (i + 1) (by omega) (by omega))
      · exact Evt.step (fun k => quarrylaw23_TrieGoes.j2 k t l i false) (fun k => by rw [quarrylaw23_TrieGoes.l0, if_pos hi, decide_eq_false h3]) (stop i)
    · exact Evt.step _ (fun k => by rw [quarrylaw23_TrieGoes.l0, if_neg hi]) (stop i)
theorem trieGoes_pure (t : List S50) (l : List S38) (hs : SmallT t) (hl : l.length ≤ 4611686018427387904) : ∃ k, quarrylaw23_TrieGoes.f k t l = some true := by
  refine Evt.ex (Evt.eq _ (fun k => by rw [quarrylaw23_TrieGoes.f, smallTrie_is, Option.bind_some]) ?_)
  have hg := go_evt smallT small_small 0 ⟨#[97]⟩ 0 true
  rw [small_go] at hg
  refine Evt.bind hg (Evt.bind (ints_evt [1] (by decide)) ?_)
  refine Evt.eq (fun k => quarrylaw23_TrieGoes.j0 k t l false) (fun k => by rw [if_pos rfl]; rfl) ?_
  obtain ⟨b, hb⟩ := vast_evt t hs.1
  refine Evt.step _ (fun k => by rw [quarrylaw23_TrieGoes.j0, if_neg (by decide)]) (Evt.bind hb ?_)
  cases b with
  | true => exact Evt.eq _ (fun k => by rw [if_pos rfl]) Evt.const
  | false => exact Evt.eq _ (fun k => by rw [if_neg (by decide)]) (asks_go t hs l hl l.length 0 (by decide) (by omega))
end Go.Proofs.Ythlneooboiphdaa.PTrieGoes
