/- A node is turned, and at most one comes in anew: the nodes stand. -/
import Derived.Test.YthlneooboiphdaaTrieSharesTrieNodes
import Derived.Test.YthlneooboiphdaaWKept
set_option linter.unusedVariables false
set_option linter.unusedSimpArgs false
namespace Go.Proofs.Ythlneooboiphdaa.PTrieShares
open Go.RowKit Go.Proofs.Ythlneooboiphdaa Go.Proofs.YthlneooboiphdaaW.PrintWords Go.Proofs.YthlneooboiphdaaW.PrintLast Go.Proofs.YthlneooboiphdaaW.PrintMore
/-- What stands in the turned list. -/
theorem look_ {G nw : List GN} {at_ i : Nat} {g' h : GN} (hat : at_ < G.length) (h1 : nw.length ≤ 1) (hi : (G.set at_ g' ++ nw)[i]? = some h) : (i = at_ ∧ h = g') ∨ (i ≠ at_ ∧ i < G.length ∧ G[i]? = some h) ∨ (i = G.length ∧ h ∈ nw) := by
  by_cases hlt : i < G.length
  · rw [List.getElem?_append_left (by rw [List.length_set]; exact hlt)] at hi
    by_cases he : at_ = i
    · subst he
      rw [List.getElem?_set_self hlt] at hi
      exact .inl ⟨rfl, (Option.some.inj hi).symm⟩
    · rw [List.getElem?_set_ne he] at hi
      exact .inr (.inl ⟨fun q => he q.symm, hlt, hi⟩)
  · rw [List.getElem?_append_right (by rw [List.length_set]; omega), List.length_set] at hi
    have h2 := (List.getElem?_eq_some_iff.1 hi).1
    exact .inr (.inr ⟨by omega, List.mem_of_getElem? hi⟩)
theorem look_back {G nw : List GN} {at_ n : Nat} {g g' h : GN} (hg : G[at_]? = some g) (hb : g'.b = g.b) (hn : G[n]? = some h) : ∃ h', (G.set at_ g' ++ nw)[n]? = some h' ∧ h'.b = h.b := by
  have hlt := (List.getElem?_eq_some_iff.1 hn).1
  by_cases he : at_ = n
  · subst he
    refine ⟨g', ?_, ?_⟩
    · rw [List.getElem?_append_left (by rw [List.length_set]; exact hlt), List.getElem?_set_self hlt]
    · rw [hg] at hn
      rw [hb, Option.some.inj hn]
  · exact ⟨h, by rw [List.getElem?_append_left (by rw [List.length_set]; exact hlt), List.getElem?_set_ne he]; exact hn, rfl⟩
/-- A node without steps. -/
def bare (b : Nat) : GN := ⟨b, .slice none 0 0, .slice none 0 0, .slice none 0 0, [], [], []⟩
theorem Nodes.upd {base : Nat} {w X : World} {G nw : List GN} {at_ : Nat} {g g' : GN} (hN : Nodes base w G) (hg : G[at_]? = some g) (hb : g'.b = g.b)
    (hk : Kept w X (fun k => k = g.b ∨ some k = g.vS.ownBlock ∨ some k = g.vT.ownBlock ∨ some k = g.vE.ownBlock))
    (hc : X.heap[g.b]? = some (.cells #[g'.vS, g'.vT, g'.vE, .int .i64 (at_ : Int)] 70 (0, 0)))
    (hS : Flat k53 53 base X g'.vS g'.st)
    (hT : ∃ bs : List Nat, Flat kP 67 base X g'.vT bs ∧ bs.length = g'.nx.length ∧ ∀ (j n : Nat), g'.nx[j]? = some n → ∃ h, (G.set at_ g' ++ nw)[n]? = some h ∧ bs[j]? = some h.b)
    (hE : Flat (Kd.int .i64) 3 base X g'.vE g'.en)
    (aS : Near w g'.vS g.vS) (aT : Near w g'.vT g.vT) (aE : Near w g'.vE g.vE)
    (h1 : nw.length ≤ 1) (hnw : ∀ h ∈ nw, h = bare h.b ∧ w.heap.size ≤ h.b ∧ X.heap[h.b]? = some (.cells #[.slice none 0 0, .slice none 0 0, .slice none 0 0, .int .i64 (G.length : Int)] 70 (0, 0))) :
    Nodes base X (G.set at_ g' ++ nw) := by
  have hat : at_ < G.length := (List.getElem?_eq_some_iff.1 hg).1
  have hcg := hN.cell at_ g hg
  have hbw : base ≤ w.heap.size := Nat.le_trans hcg.2 (Nat.le_of_lt (blk_lt hcg.1))
  obtain ⟨bg, hTg, hTg1, hTg2⟩ := hN.rt at_ g hg
  have hSg := hN.rs at_ g hg
  have hEg := hN.re at_ g hg
  have other : ∀ (i : Nat) (h : GN), i ≠ at_ → G[i]? = some h →
      (X.heap[h.b]? = some (.cells #[h.vS, h.vT, h.vE, .int .i64 (i : Int)] 70 (0, 0))) ∧ Flat k53 53 base X h.vS h.st ∧ Flat (Kd.int .i64) 3 base X h.vE h.en ∧
      (∃ bs : List Nat, Flat kP 67 base X h.vT bs ∧ bs.length = h.nx.length ∧ ∀ (j n : Nat), h.nx[j]? = some n → ∃ q, G[n]? = some q ∧ bs[j]? = some q.b) := by
    intro i h hi hh
    have hc1 := hN.cell i h hh
    have hS1 := hN.rs i h hh
    have hE1 := hN.re i h hh
    obtain ⟨b1, hT1, hT2, hT3⟩ := hN.rt i h hh
    obtain ⟨s0, s1, s2, s3⟩ := hN.sep i at_ h g hi hh hg
    refine ⟨blk_kept hc1.1 hk ?_, hS1.kept hk ?_, hE1.kept hk ?_, b1, hT1.kept hk ?_, hT2, hT3⟩
    · rintro (e | e | e | e)
      · exact s0 e
      · exact hSg.ne hc1.1 (by decide) e
      · exact hTg.ne hc1.1 (by decide) e
      · exact hEg.ne hc1.1 (by decide) e
    · rintro k hk1 (e | e | e | e)
      · subst e
        exact hS1.ne hcg.1 (by decide) hk1.symm
      · exact s1 k hk1 e
      · exact hS1.apart hTg (by decide) k hk1 e
      · exact hS1.apart hEg (by decide) k hk1 e
    · rintro k hk1 (e | e | e | e)
      · subst e
        exact hE1.ne hcg.1 (by decide) hk1.symm
      · exact hE1.apart hSg (by decide) k hk1 e
      · exact hE1.apart hTg (by decide) k hk1 e
      · exact s3 k hk1 e
    · rintro k hk1 (e | e | e | e)
      · subst e
        exact hT1.ne hcg.1 (by decide) hk1.symm
      · exact hT1.apart hSg (by decide) k hk1 e
      · exact s2 k hk1 e
      · exact hT1.apart hEg (by decide) k hk1 e
  refine ⟨?_, ?_, ?_, ?_, ?_⟩
  · intro i h hi
    rcases look_ hat h1 hi with ⟨rfl, rfl⟩ | ⟨hne, hlt, hh⟩ | ⟨rfl, hm⟩
    · rw [hb]
      exact ⟨hc, hcg.2⟩
    · exact ⟨(other i h hne hh).1, (hN.cell i h hh).2⟩
    · obtain ⟨q1, q2, q3⟩ := hnw h hm
      rw [q1] at q3 ⊢
      exact ⟨q3, Nat.le_trans hbw q2⟩
  · intro i h hi
    rcases look_ hat h1 hi with ⟨rfl, rfl⟩ | ⟨hne, hlt, hh⟩ | ⟨rfl, hm⟩
    · exact hS
    · exact (other i h hne hh).2.1
    · obtain ⟨q1, q2, q3⟩ := hnw h hm
      rw [q1]
      exact Flat.nil rfl _ _ _
  · intro i h hi
    rcases look_ hat h1 hi with ⟨rfl, rfl⟩ | ⟨hne, hlt, hh⟩ | ⟨rfl, hm⟩
    · exact hT
    · obtain ⟨bs, t1, t2, t3⟩ := (other i h hne hh).2.2.2
      refine ⟨bs, t1, t2, fun j n hj => ?_⟩
      obtain ⟨q, hq, hq2⟩ := t3 j n hj
      obtain ⟨q', hq', hqb⟩ := look_back (nw := nw) hg hb hq
      exact ⟨q', hq', by rw [hq2, hqb]⟩
    · obtain ⟨q1, q2, q3⟩ := hnw h hm
      rw [q1]
      exact ⟨[], Flat.nil rfl _ _ _, rfl, fun j n hj => by simp [bare] at hj⟩
  · intro i h hi
    rcases look_ hat h1 hi with ⟨rfl, rfl⟩ | ⟨hne, hlt, hh⟩ | ⟨rfl, hm⟩
    · exact hE
    · exact (other i h hne hh).2.2.1
    · obtain ⟨q1, q2, q3⟩ := hnw h hm
      rw [q1]
      exact Flat.nil rfl _ _ _
  · -- apart
    have side : ∀ (i : Nat) (h : GN), i ≠ at_ → G[i]? = some h → h.b ≠ g'.b ∧ (∀ k, h.vS.ownBlock = some k → some k ≠ g'.vS.ownBlock) ∧ (∀ k, h.vT.ownBlock = some k → some k ≠ g'.vT.ownBlock) ∧ (∀ k, h.vE.ownBlock = some k → some k ≠ g'.vE.ownBlock) := by
      intro i h hi hh
      obtain ⟨s0, s1, s2, s3⟩ := hN.sep i at_ h g hi hh hg
      obtain ⟨b1, hT1, _, _⟩ := hN.rt i h hh
      exact ⟨by rw [hb]; exact s0, aS.apart (hN.rs i h hh).lt s1, aT.apart hT1.lt s2, aE.apart (hN.re i h hh).lt s3⟩
    have fresh : ∀ (h u : GN), h ∈ nw → (∃ i : Nat, G[i]? = some u) ∨ u = g' → h.b ≠ u.b ∧ (∀ k, h.vS.ownBlock = some k → some k ≠ u.vS.ownBlock) ∧ (∀ k, h.vT.ownBlock = some k → some k ≠ u.vT.ownBlock) ∧ (∀ k, h.vE.ownBlock = some k → some k ≠ u.vE.ownBlock) := by
      intro h u hm hu
      obtain ⟨q1, q2, q3⟩ := hnw h hm
      refine ⟨fun e => ?_, ?_, ?_, ?_⟩
      · have : u.b < w.heap.size := by
          rcases hu with ⟨i, hi⟩ | rfl
          · exact blk_lt (hN.cell i u hi).1
          · rw [hb]; exact blk_lt hcg.1
        omega
      · rw [q1]; exact nil_apart rfl
      · rw [q1]; exact nil_apart rfl
      · rw [q1]; exact nil_apart rfl
    intro i j h u hij hi hj
    rcases look_ hat h1 hi with ⟨rfl, rfl⟩ | ⟨hne, hlt, hh⟩ | ⟨rfl, hm⟩
    · rcases look_ hat h1 hj with ⟨rfl, rfl⟩ | ⟨hne2, hlt2, hh2⟩ | ⟨rfl, hm2⟩
      · exact absurd rfl hij
      · obtain ⟨s0, s1, s2, s3⟩ := side j u hne2 hh2
        exact ⟨Ne.symm s0, flip_ s1, flip_ s2, flip_ s3⟩
      · obtain ⟨s0, s1, s2, s3⟩ := fresh u h hm2 (.inr rfl)
        exact ⟨Ne.symm s0, flip_ s1, flip_ s2, flip_ s3⟩
    · rcases look_ hat h1 hj with ⟨rfl, rfl⟩ | ⟨hne2, hlt2, hh2⟩ | ⟨rfl, hm2⟩
      · exact side i h hne hh
      · exact hN.sep i j h u hij hh hh2
      · obtain ⟨s0, s1, s2, s3⟩ := fresh u h hm2 (.inl ⟨i, hh⟩)
        exact ⟨Ne.symm s0, flip_ s1, flip_ s2, flip_ s3⟩
    · rcases look_ hat h1 hj with ⟨rfl, rfl⟩ | ⟨hne2, hlt2, hh2⟩ | ⟨rfl, hm2⟩
      · exact fresh h u hm (.inr rfl)
      · exact fresh h u hm (.inl ⟨j, hh2⟩)
      · exact absurd rfl hij
end Go.Proofs.Ythlneooboiphdaa.PTrieShares
