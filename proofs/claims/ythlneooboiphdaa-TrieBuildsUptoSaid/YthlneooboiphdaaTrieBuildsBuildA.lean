/- trie.Build: laws for its walk. -/
import Derived.Test.YthlneooboiphdaaTrieBuildsNodeCalls
import Derived.Test.YthlneooboiphdaaTrieBuildsPathFormed
set_option linter.unusedVariables false
set_option linter.unusedSimpArgs false
namespace Go.Proofs.Ythlneooboiphdaa.PTrieBuilds
open Go.RowKit Go.Proofs.Ythlneooboiphdaa Go.Proofs.YthlneooboiphdaaW.PrintWords Go.Proofs.YthlneooboiphdaaW.PrintLast Go.Proofs.YthlneooboiphdaaW.PrintMore
/-- The row of all nodes grows: the nodes stand. -/
theorem Tells.all {base : Nat} {w w1 : World} {G : List GN} {T : List PN} {v : Value} {xs : List Nat} (h : Tells base w G T) (hv : Flat kP 67 base w v xs) (ha : AllApart G v) (hg : w.grownBy w1 v.ownBlock) : Tells base w1 G T where
  told := h.told
  nodes := by
    refine ⟨fun i g hi => ?_, fun i g hi => ?_, fun i g hi => ?_, fun i g hi => ?_, h.nodes.sep⟩
    · have hc := h.nodes.cell i g hi
      exact ⟨blk_grown hc.1 hg (hv.ne hc.1 (by decide)), hc.2⟩
    · exact (h.nodes.rs i g hi).grown hg (flip_ ((h.nodes.rs i g hi).apart hv (by decide)))
    · obtain ⟨bs, h1, h2, h3⟩ := h.nodes.rt i g hi
      exact ⟨bs, h1.grown hg (ha g (List.mem_of_getElem? hi)), h2, h3⟩
    · exact (h.nodes.re i g hi).grown hg (flip_ ((h.nodes.re i g hi).apart hv (by decide)))
theorem AllApart.near {base : Nat} {w : World} {G : List GN} {v v' : Value} (ha : AllApart G v) (hN : Nodes base w G) (hn : Near w v' v) : AllApart G v' := fun g hg => by
  obtain ⟨i, hi, hh⟩ := List.mem_iff_getElem.1 hg
  obtain ⟨bs, h1, _, _⟩ := hN.rt i g (by rw [List.getElem?_eq_getElem hi, hh])
  exact flip_ (hn.apart h1.lt (flip_ (ha g hg)))
/-- One bare node. -/
theorem nodes_start {base b : Nat} {W : World} (hb : base ≤ b) (hc : W.heap[b]? = some (.cells #[.slice none 0 0, .slice none 0 0, .slice none 0 0, .int .i64 0] 70 (0, 0))) : Tells base W [bare b] [noP] := by
  have one : ∀ (i : Nat) (g : GN), [bare b][i]? = some g → i = 0 ∧ g = bare b := fun i g h => by
    have h1 := (List.getElem?_eq_some_iff.1 h).1
    have h2 : i = 0 := by simpa using h1
    subst h2
    exact ⟨rfl, by simpa using h.symm⟩
  refine ⟨⟨?_, ?_, ?_, ?_, ?_⟩, rfl⟩
  · intro i g h
    obtain ⟨rfl, rfl⟩ := one i g h
    exact ⟨hc, hb⟩
  · intro i g h
    obtain ⟨rfl, rfl⟩ := one i g h
    exact Flat.nil rfl _ _ _
  · intro i g h
    obtain ⟨rfl, rfl⟩ := one i g h
    exact ⟨[], Flat.nil rfl _ _ _, rfl, fun j n hj => by simp [bare] at hj⟩
  · intro i g h
    obtain ⟨rfl, rfl⟩ := one i g h
    exact Flat.nil rfl _ _ _
  · intro i j g h hij hi hj
    obtain ⟨rfl, rfl⟩ := one i g hi
    obtain ⟨rfl, rfl⟩ := one j h hj
    exact absurd rfl hij
/-- The nodes behind an end that is put to one. -/
theorem nodes_end {base : Nat} {w wT : World} {G : List GN} {T : List PN} {at_ : Nat} {g : GN} {x : Int} {vE : Value} (hN : Tells base w G T) (hg : G[at_]? = some g)
    (hF : Flat (Kd.int .i64) 3 base wT vE (g.en ++ [x])) (hG : w.grownBy wT g.vE.ownBlock) (hn : Near w vE g.vE) :
    Tells base (wT.setCell ⟨g.b, 2, none⟩ vE) (G.set at_ ⟨g.b, g.vS, g.vT, vE, g.st, g.nx, g.en ++ [x]⟩) (endP T at_ x) ∧
      (∀ v xs, Flat kP 67 base w v xs → AllApart G v → Flat kP 67 base (wT.setCell ⟨g.b, 2, none⟩ vE) v xs ∧ AllApart (G.set at_ ⟨g.b, g.vS, g.vT, vE, g.st, g.nx, g.en ++ [x]⟩) v) ∧
      (∀ w0, Below base w0 w → Below base w0 (wT.setCell ⟨g.b, 2, none⟩ vE)) := by
  have hcg := hN.nodes.cell at_ g hg
  have hSg := hN.nodes.rs at_ g hg
  have hEg := hN.nodes.re at_ g hg
  obtain ⟨bs, hTg, hT1, hT2⟩ := hN.nodes.rt at_ g hg
  have hbw : base ≤ w.heap.size := Nat.le_trans hcg.2 (Nat.le_of_lt (blk_lt hcg.1))
  have BT := blk_grown hcg.1 hG (hEg.ne hcg.1 (by decide))
  have nE : some g.b ≠ vE.ownBlock := hF.ne BT (by decide)
  have kT : Kept w wT (fun k => k = g.b ∨ some k = g.vS.ownBlock ∨ some k = g.vT.ownBlock ∨ some k = g.vE.ownBlock) := Kept.of_grown hG (Kept.refl _ _) (fun k hk => .inl (.inr (.inr (.inr hk.symm))))
  have kX := kT.setCell (p := ⟨g.b, 2, none⟩) (.inl (.inl rfl)) vE
  have k2 : Kept w (wT.setCell ⟨g.b, 2, none⟩ vE) (fun k => k = g.b ∨ some k = g.vE.ownBlock) := Kept.setCell (Kept.of_grown hG (Kept.refl _ _) (fun k hk => .inl (.inr hk.symm))) (.inl (.inl rfl)) vE
  refine ⟨⟨?_, ?_⟩, ?_, ?_⟩
  · have h := Nodes.upd (nw := []) (g' := ⟨g.b, g.vS, g.vT, vE, g.st, g.nx, g.en ++ [x]⟩) hN.nodes hg rfl kX ?_ ?_ ?_ ?_ (.inl rfl) (.inl rfl) hn (by simp) (fun h hm => by cases hm)
    · simpa using h
    · exact blk_put BT 2 _ rfl
    · refine hSg.kept k2 (fun k hk => ?_)
      rintro (e | e)
      · subst e
        exact hSg.ne hcg.1 (by decide) hk.symm
      · exact hSg.apart hEg (by decide) k hk e
    · refine ⟨bs, hTg.kept k2 (fun k hk => ?_), hT1, fun j n hj => ?_⟩
      · rintro (e | e)
        · subst e
          exact hTg.ne hcg.1 (by decide) hk.symm
        · exact hTg.apart hEg (by decide) k hk e
      · obtain ⟨h, h1, h2⟩ := hT2 j n hj
        obtain ⟨h', h3, h4⟩ := look_back (nw := []) (g' := ⟨g.b, g.vS, g.vT, vE, g.st, g.nx, g.en ++ [x]⟩) hg rfl h1
        exact ⟨h', h3, by rw [h2, h4]⟩
    · exact hF.set nE _
  · unfold endP
    rw [hN.at_ hg, List.map_set, hN.told]
    rfl
  · intro v xs hv ha
    refine ⟨hv.kept k2 (fun k hk => ?_), fun q hq => ?_⟩
    · rintro (e | e)
      · subst e
        exact hv.ne hcg.1 (by decide) hk.symm
      · exact hv.apart hEg (by decide) k hk e
    · rcases List.mem_or_eq_of_mem_set hq with h2 | h2
      · exact ha q h2
      · subst h2
        exact ha g (List.mem_of_getElem? hg)
  · intro w0 h0
    exact (pw_below_grown h0 _ hbw hG hEg.base).setCell hcg.2 _
end Go.Proofs.Ythlneooboiphdaa.PTrieBuilds
