/- Joined texts of one law. -/
import Derived.Test.YthlneooboiphdaaTrieSharesNodeCalls
import Derived.Test.YthlneooboiphdaaTrieSharesPathFormed
/- trie.Build: laws for its walk. -/
set_option linter.unusedVariables false
set_option linter.unusedSimpArgs false
namespace Go.Proofs.Ythlneooboiphdaa.PTrieShares
open Go.RowKit Go.Proofs.Ythlneooboiphdaa Go.Proofs.YthlneooboiphdaaW.PrintWords Go.Proofs.YthlneooboiphdaaW.PrintLast Go.Proofs.YthlneooboiphdaaW.PrintMore
/-- The row of all nodes grows: the nodes stand. -/
theorem Tells.all {base : Nat} {w w1 : World} {G : List GN} {T : List PN} {v : Value} {xs : List Nat} (h : Tells base w G T) (hv : Flat kP 67 base w v xs) (ha : AllApart G v) (hg : w.grownBy w1 v.ownBlock) : Tells base w1 G T where
  told := h.told
  nodes := by
    refine ⟨fun i g hi => ?_, fun i g hi => ?_, fun i g hi => ?_, fun i g hi => ?_, h.nodes.sep⟩
    · have hc := h.nodes.cell i g hi
      exact ⟨blk_grown hc.1 hg (hv.ne hc.1 (by decide)), hc.2⟩
    · exact (h.nodes.rs i g hi).grown hg (flip_ ((h.nodes.rs i g hi).apart hv (by decide)))
    · obtain ⟨bs, h1, h2, h3⟩ := h.nodes.rt i g hi
      exact ⟨bs, h1.grown hg (ha g (List.mem_of_getElem? hi)), h2, h3⟩
    · exact (h.nodes.re i g hi).grown hg (flip_ ((h.nodes.re i g hi).apart hv (by decide)))
theorem AllApart.near {base : Nat} {w : World} {G : List GN} {v v' : Value} (ha : AllApart G v) (hN : Nodes base w G) (hn : Near w v' v) : AllApart G v' := fun g hg => by
  obtain ⟨i, hi, hh⟩ := List.mem_iff_getElem.1 hg
  obtain ⟨bs, h1, _, _⟩ := hN.rt i g (by rw [List.getElem?_eq_getElem hi, hh])
  exact flip_ (hn.apart h1.lt (flip_ (ha g hg)))
/-- One bare node. -/
theorem nodes_start {base b : Nat} {W : World} (hb : base ≤ b) (hc : W.heap[b]? = some (.cells #[.slice none 0 0, .slice none 0 0, .slice none 0 0, .int .i64 0] 70 (0, 0))) : Tells base W [bare b] [noP] := by
  have one : ∀ (i : Nat) (g : GN), [bare b][i]? = some g → i = 0 ∧ g = bare b := fun i g h => by
    have h1 := (List.getElem?_eq_some_iff.1 h).1
    have h2 : i = 0 := by simpa using h1
    subst h2
    exact ⟨rfl, by simpa using h.symm⟩
  refine ⟨⟨?_, ?_, ?_, ?_, ?_⟩, rfl⟩
  · intro i g h
    obtain ⟨rfl, rfl⟩ := one i g h
    exact ⟨hc, hb⟩
  · intro i g h
    obtain ⟨rfl, rfl⟩ := one i g h
    exact Flat.nil rfl _ _ _
  · intro i g h
    obtain ⟨rfl, rfl⟩ := one i g h
    exact ⟨[], Flat.nil rfl _ _ _, rfl, fun j n hj => by simp [bare] at hj⟩
  · intro i g h
    obtain ⟨rfl, rfl⟩ := one i g h
    exact Flat.nil rfl _ _ _
  · intro i j g h hij hi hj
    obtain ⟨rfl, rfl⟩ := one i g hi
    obtain ⟨rfl, rfl⟩ := one j h hj
    exact absurd rfl hij
/-- The nodes behind an end that is put to one. -/
theorem nodes_end {base : Nat} {w wT : World} {G : List GN} {T : List PN} {at_ : Nat} {g : GN} {x : Int} {vE : Value} (hN : Tells base w G T) (hg : G[at_]? = some g)
    (hF : Flat (Kd.int .i64) 3 base wT vE (g.en ++ [x])) (hG : w.grownBy wT g.vE.ownBlock) (hn : Near w vE g.vE) :
    Tells base (wT.setCell ⟨g.b, 2, none⟩ vE) (G.set at_ ⟨g.b, g.vS, g.vT, vE, g.st, g.nx, g.en ++ [x]⟩) (endP T at_ x) ∧
      (∀ v xs, Flat kP 67 base w v xs → AllApart G v → Flat kP 67 base (wT.setCell ⟨g.b, 2, none⟩ vE) v xs ∧ AllApart (G.set at_ ⟨g.b, g.vS, g.vT, vE, g.st, g.nx, g.en ++ [x]⟩) v) ∧
      (∀ w0, Below base w0 w → Below base w0 (wT.setCell ⟨g.b, 2, none⟩ vE)) := by
  have hcg := hN.nodes.cell at_ g hg
  have hSg := hN.nodes.rs at_ g hg
  have hEg := hN.nodes.re at_ g hg
  obtain ⟨bs, hTg, hT1, hT2⟩ := hN.nodes.rt at_ g hg
  have hbw : base ≤ w.heap.size := Nat.le_trans hcg.2 (Nat.le_of_lt (blk_lt hcg.1))
  have BT := blk_grown hcg.1 hG (hEg.ne hcg.1 (by decide))
  have nE : some g.b ≠ vE.ownBlock := hF.ne BT (by decide)
  have kT : Kept w wT (fun k => k = g.b ∨ some k = g.vS.ownBlock ∨ some k = g.vT.ownBlock ∨ some k = g.vE.ownBlock) := Kept.of_grown hG (Kept.refl _ _) (fun k hk => .inl (.inr (.inr (.inr hk.symm))))
  have kX := kT.setCell (p := ⟨g.b, 2, none⟩) (.inl (.inl rfl)) vE
  have k2 : Kept w (wT.setCell ⟨g.b, 2, none⟩ vE) (fun k => k = g.b ∨ some k = g.vE.ownBlock) := Kept.setCell (Kept.of_grown hG (Kept.refl _ _) (fun k hk => .inl (.inr hk.symm))) (.inl (.inl rfl)) vE
  refine ⟨⟨?_, ?_⟩, ?_, ?_⟩
  · have h := Nodes.upd (nw := []) (g' := ⟨g.b, g.vS, g.vT, vE, g.st, g.nx, g.en ++ [x]⟩) hN.nodes hg rfl kX ?_ ?_ ?_ ?_ (.inl rfl) (.inl rfl) hn (by simp) (fun h hm => by cases hm)
    · simpa using h
    · exact blk_put BT 2 _ rfl
    · refine hSg.kept k2 (fun k hk => ?_)
      rintro (e | e)
      · subst e
        exact hSg.ne hcg.1 (by decide) hk.symm
      · exact hSg.apart hEg (by decide) k hk e
    · refine ⟨bs, hTg.kept k2 (fun k hk => ?_), hT1, fun j n hj => ?_⟩
      · rintro (e | e)
        · subst e
          exact hTg.ne hcg.1 (by decide) hk.symm
        · exact hTg.apart hEg (by decide) k hk e
      · obtain ⟨h, h1, h2⟩ := hT2 j n hj
        obtain ⟨h', h3, h4⟩ := look_back (nw := []) (g' := ⟨g.b, g.vS, g.vT, vE, g.st, g.nx, g.en ++ [x]⟩) hg rfl h1
        exact ⟨h', h3, by rw [h2, h4]⟩
    · exact hF.set nE _
  · unfold endP
    rw [hN.at_ hg, List.map_set, hN.told]
    rfl
  · intro v xs hv ha
    refine ⟨hv.kept k2 (fun k hk => ?_), fun q hq => ?_⟩
    · rintro (e | e)
      · subst e
        exact hv.ne hcg.1 (by decide) hk.symm
      · exact hv.apart hEg (by decide) k hk e
    · rcases List.mem_or_eq_of_mem_set hq with h2 | h2
      · exact ha q h2
      · subst h2
        exact ha g (List.mem_of_getElem? hg)
  · intro w0 h0
    exact (pw_below_grown h0 _ hbw hG hEg.base).setCell hcg.2 _
end Go.Proofs.Ythlneooboiphdaa.PTrieShares

/- trie.Build: the row that goes out, while it is filled. -/
set_option linter.unusedVariables false
set_option linter.unusedSimpArgs false
namespace Go.Proofs.Ythlneooboiphdaa.PTrieShares
open Go.RowKit Go.Proofs.Ythlneooboiphdaa Go.Proofs.YthlneooboiphdaaW.PrintWords Go.Proofs.YthlneooboiphdaaW.PrintLast Go.Proofs.YthlneooboiphdaaW.PrintMore
theorem Nodes.keptS {base : Nat} {w X : World} {G : List GN} {S : Nat → Prop} (hN : Nodes base w G) (hk : Kept w X S)
    (hS : ∀ (i : Nat) (g : GN), G[i]? = some g → ¬ S g.b ∧ (∀ k, g.vS.ownBlock = some k → ¬ S k) ∧ (∀ k, g.vT.ownBlock = some k → ¬ S k) ∧ (∀ k, g.vE.ownBlock = some k → ¬ S k)) : Nodes base X G where
  cell := fun i g hi => ⟨blk_kept (hN.cell i g hi).1 hk (hS i g hi).1, (hN.cell i g hi).2⟩
  rs := fun i g hi => (hN.rs i g hi).kept hk (hS i g hi).2.1
  rt := fun i g hi => by
    obtain ⟨bs, h1, h2, h3⟩ := hN.rt i g hi
    exact ⟨bs, h1.kept hk (hS i g hi).2.2.1, h2, h3⟩
  re := fun i g hi => (hN.re i g hi).kept hk (hS i g hi).2.2.2
  sep := hN.sep
def castN (l : List Nat) : List Int := l.map (fun (x : Nat) => (x : Int))
structure Out (base : Nat) (W : World) (R n : Nat) (G : List GN) (inner : List Value) (m : Nat) (P : Nat → Nat) : Prop where
  own : W.ownsRow base 50 3 (.slice (some ⟨R, 0, none⟩) n n) n inner
  nodes : Nodes base W G
  many : G.length = n
  set_ : ∀ (k : Nat) (g : GN), k < m → G[k]? = some g → inner[k * 3]? = some g.vS ∧ inner[k * 3 + 2]? = some g.vE ∧ ∃ u, inner[k * 3 + 1]? = some u ∧ Flat (Kd.int .i64) 3 base W u (castN (g.nx.take (P k)))
  apart : ∀ (k k' : Nat) (u u' : Value), k ≠ k' → k < m → k' < m → inner[k * 3 + 1]? = some u → inner[k' * 3 + 1]? = some u' → ∀ b, u.ownBlock = some b → some b ≠ u'.ownBlock
  apartE : ∀ (k i : Nat) (u : Value) (g : GN), k < m → inner[k * 3 + 1]? = some u → G[i]? = some g → ∀ b, u.ownBlock = some b → some b ≠ g.vE.ownBlock
theorem Out.typed {base R n m : Nat} {W : World} {G : List GN} {inner : List Value} {P : Nat → Nat} (h : Out base W R n G inner m P) : ∃ cells, W.heap[R]? = some (.cells cells 50 (0, 0)) := own_typed h.own R rfl
theorem Out.base {base R n m : Nat} {W : World} {G : List GN} {inner : List Value} {P : Nat → Nat} (h : Out base W R n G inner m P) : base ≤ R := own_base h.own R rfl
theorem Out.len {base R n m : Nat} {W : World} {G : List GN} {inner : List Value} {P : Nat → Nat} (h : Out base W R n G inner m P) : inner.length = n * 3 := h.own.1
theorem Out.below {base R n m : Nat} {W W1 : World} {G : List GN} {inner : List Value} {P : Nat → Nat} (h : Out base W R n G inner m P) (hb : Below W.heap.size W W1) : Out base W1 R n G inner m P where
  own := pw_own_below h.own hb
  nodes := h.nodes.below hb
  many := h.many
  set_ := fun k g hk hg => by
    obtain ⟨h1, h2, u, h3, h4⟩ := h.set_ k g hk hg
    exact ⟨h1, h2, u, h3, h4.below hb⟩
  apart := h.apart
  apartE := h.apartE
/-- No node's block, and none of its rows, is of the row that goes out. -/
theorem Out.nodesFar {base R n m : Nat} {W : World} {G : List GN} {inner : List Value} {P : Nat → Nat} (h : Out base W R n G inner m P) (i : Nat) (g : GN) (hi : G[i]? = some g) :
    ¬ g.b = R ∧ (∀ k, g.vS.ownBlock = some k → ¬ k = R) ∧ (∀ k, g.vT.ownBlock = some k → ¬ k = R) ∧ (∀ k, g.vE.ownBlock = some k → ¬ k = R) := by
  obtain ⟨cells, hc⟩ := h.typed
  obtain ⟨bs, h1, _, _⟩ := h.nodes.rt i g hi
  refine ⟨fun e => ?_, fun k hk e => ?_, fun k hk e => ?_, fun k hk e => ?_⟩
  · have h2 := (h.nodes.cell i g hi).1
    rw [e, hc] at h2
    injection h2 with h2
    injection h2 with _ h2
    exact absurd h2 (by decide)
  · subst e
    exact (h.nodes.rs i g hi).ne hc (by decide) hk.symm
  · subst e
    exact h1.ne hc (by decide) hk.symm
  · subst e
    exact (h.nodes.re i g hi).ne hc (by decide) hk.symm
theorem set3_far {l : List Value} {a b c j : Nat} {x y z : Value} (h1 : a ≠ j) (h2 : b ≠ j) (h3 : c ≠ j) : (((l.set a x).set b y).set c z)[j]? = l[j]? := by
  rw [List.getElem?_set_ne h3, List.getElem?_set_ne h2, List.getElem?_set_ne h1]
/-- A row of the node is opened. -/
theorem Out.open_ {base R n m : Nat} {W : World} {G : List GN} {inner : List Value} {P : Nat → Nat} {g : GN} (h : Out base W R n G inner m P) (hm : m < n) (hg : G[m]? = some g) :
    Out base (((W.setCell ⟨R, m * 3, none⟩ g.vS).setCell ⟨R, m * 3 + 1, none⟩ (.slice none 0 0)).setCell ⟨R, m * 3 + 2, none⟩ g.vE) R n G (((inner.set (m * 3) g.vS).set (m * 3 + 1) (.slice none 0 0)).set (m * 3 + 2) g.vE) (m + 1) (fun k => if k = m then 0 else P k) := by
  have hl := h.len
  have o1 := (h.own.stored (m * 3) g.vS).1
  have o2 := (o1.stored (m * 3 + 1) (.slice none 0 0)).1
  have o3 := (o2.stored (m * 3 + 2) g.vE).1
  have hk : Kept W (((W.setCell ⟨R, m * 3, none⟩ g.vS).setCell ⟨R, m * 3 + 1, none⟩ (.slice none 0 0)).setCell ⟨R, m * 3 + 2, none⟩ g.vE) (fun k => k = R) := by
    have k0 : Kept W W (fun k => k = R) := Kept.refl W _
    have k1 := Kept.setCell (p := ⟨R, m * 3, none⟩) k0 (.inl rfl) g.vS
    have k2 := Kept.setCell (p := ⟨R, m * 3 + 1, none⟩) k1 (.inl rfl) (.slice none 0 0)
    exact Kept.setCell (p := ⟨R, m * 3 + 2, none⟩) k2 (.inl rfl) g.vE
  obtain ⟨cells, hc⟩ := h.typed
  have far : ∀ k : Nat, k < m → (((inner.set (m * 3) g.vS).set (m * 3 + 1) (.slice none 0 0)).set (m * 3 + 2) g.vE)[k * 3]? = inner[k * 3]? ∧ (((inner.set (m * 3) g.vS).set (m * 3 + 1) (.slice none 0 0)).set (m * 3 + 2) g.vE)[k * 3 + 1]? = inner[k * 3 + 1]? ∧ (((inner.set (m * 3) g.vS).set (m * 3 + 1) (.slice none 0 0)).set (m * 3 + 2) g.vE)[k * 3 + 2]? = inner[k * 3 + 2]? := fun k hk =>
    ⟨set3_far (by omega) (by omega) (by omega), set3_far (by omega) (by omega) (by omega), set3_far (by omega) (by omega) (by omega)⟩
  have at1 : (((inner.set (m * 3) g.vS).set (m * 3 + 1) (.slice none 0 0)).set (m * 3 + 2) g.vE)[m * 3 + 1]? = some (.slice none 0 0) := by
    rw [List.getElem?_set_ne (by omega), List.getElem?_set_self (by rw [List.length_set]; omega)]
  refine ⟨o3, h.nodes.keptS hk h.nodesFar, h.many, ?_, ?_, ?_⟩
  · intro k q hk1 hq
    by_cases he : k = m
    · subst he
      rw [hg] at hq
      obtain rfl := Option.some.inj hq
      refine ⟨?_, ?_, .slice none 0 0, at1, ?_⟩
      · rw [List.getElem?_set_ne (by omega), List.getElem?_set_ne (by omega), List.getElem?_set_self (by omega)]
      · rw [List.getElem?_set_self (by rw [List.length_set, List.length_set]; omega)]
      · rw [if_pos rfl]
        exact Flat.nil rfl _ _ _
    · obtain ⟨f1, f2, f3⟩ := far k (by omega)
      rw [f1, f2, f3, if_neg he]
      obtain ⟨h1, h2, u, h3, h4⟩ := h.set_ k q (by omega) hq
      refine ⟨h1, h2, u, h3, h4.kept hk (fun b hb e => ?_)⟩
      subst e
      exact h4.ne hc (by decide) hb.symm
  · intro k k' u u' hne hk1 hk2 hu hu'
    by_cases he : k = m
    · subst he
      rw [at1] at hu
      obtain rfl := Option.some.inj hu
      exact nil_apart rfl
    · by_cases he' : k' = m
      · subst he'
        rw [at1] at hu'
        obtain rfl := Option.some.inj hu'
        intro b _ e
        simp [Value.ownBlock] at e
      · rw [(far k (by omega)).2.1] at hu
        rw [(far k' (by omega)).2.1] at hu'
        exact h.apart k k' u u' hne (by omega) (by omega) hu hu'
  · intro k i u q hk1 hu hq
    by_cases he : k = m
    · subst he
      rw [at1] at hu
      obtain rfl := Option.some.inj hu
      exact nil_apart rfl
    · rw [(far k (by omega)).2.1] at hu
      exact h.apartE k i u q (by omega) hu hq
/-- A number comes to an open row. -/
theorem Out.push_ {base R n m i : Nat} {W W2 : World} {G : List GN} {inner : List Value} {P : Nat → Nat} {g : GN} {u u' : Value} {x : Nat} (h : Out base W R n G inner m P) (hi : i < m) (hin : i < n) (hg : G[i]? = some g) (hu : inner[i * 3 + 1]? = some u)
    (hF : Flat (Kd.int .i64) 3 base W2 u' (castN (g.nx.take (P i)) ++ [(x : Int)])) (hG : W.grownBy W2 u.ownBlock) (hn : Near W u' u) (hx : g.nx[P i]? = some x) :
    Out base (W2.setCell ⟨R, i * 3 + 1, none⟩ u') R n G (inner.set (i * 3 + 1) u') m (fun k => if k = i then P i + 1 else P k) := by
  have hl := h.len
  obtain ⟨cells, hc⟩ := h.typed
  obtain ⟨h1, h2, u0, h3, h4⟩ := h.set_ i g hi hg
  obtain rfl : u = u0 := by rw [hu] at h3; exact Option.some.inj h3
  have hRu : some R ≠ u.ownBlock := h4.ne hc (by decide)
  have hown2 := h.own.kept hG (.inr (fun e => hRu e))
  have hc2 := blk_grown hc hG hRu
  have o1 := (hown2.stored (i * 3 + 1) u').1
  have hk : Kept W (W2.setCell ⟨R, i * 3 + 1, none⟩ u') (fun k => k = R ∨ some k = u.ownBlock) := Kept.setCell (Kept.of_grown hG (Kept.refl _ _) (fun k hk => .inl (.inr hk.symm))) (.inl (.inl rfl)) u'
  have at1 : (inner.set (i * 3 + 1) u')[i * 3 + 1]? = some u' := by rw [List.getElem?_set_self (by omega)]
  have far1 : ∀ k : Nat, k ≠ i → (inner.set (i * 3 + 1) u')[k * 3 + 1]? = inner[k * 3 + 1]? := fun k hk => by rw [List.getElem?_set_ne (by omega)]
  have far0 : ∀ k : Nat, (inner.set (i * 3 + 1) u')[k * 3]? = inner[k * 3]? := fun k => by rw [List.getElem?_set_ne (by omega)]
  have far2 : ∀ k : Nat, (inner.set (i * 3 + 1) u')[k * 3 + 2]? = inner[k * 3 + 2]? := fun k => by rw [List.getElem?_set_ne (by omega)]
  refine ⟨o1, h.nodes.keptS hk (fun j q hq => ?_), h.many, ?_, ?_, ?_⟩
  · obtain ⟨n0, n1, n2, n3⟩ := h.nodesFar j q hq
    have hE := h.apartE i j u q hi hu hq
    obtain ⟨bs, hT, _, _⟩ := h.nodes.rt j q hq
    refine ⟨?_, ?_, ?_, ?_⟩
    · rintro (e | e)
      · exact n0 e
      · exact h4.ne (h.nodes.cell j q hq).1 (by decide) e
    · rintro k hk1 (e | e)
      · exact n1 k hk1 e
      · exact (h.nodes.rs j q hq).apart h4 (by decide) k hk1 e
    · rintro k hk1 (e | e)
      · exact n2 k hk1 e
      · exact hT.apart h4 (by decide) k hk1 e
    · rintro k hk1 (e | e)
      · exact n3 k hk1 e
      · exact hE k e.symm hk1.symm
  · intro k q hk1 hq
    by_cases he : k = i
    · subst he
      rw [hg] at hq
      obtain rfl := Option.some.inj hq
      rw [far0, far2, at1, if_pos rfl]
      refine ⟨h1, h2, u', rfl, ?_⟩
      have ht : castN (g.nx.take (P k + 1)) = castN (g.nx.take (P k)) ++ [(x : Int)] := by
        unfold castN
        obtain ⟨hlt, hxe⟩ := List.getElem?_eq_some_iff.1 hx
        rw [List.take_succ_eq_append_getElem hlt, List.map_append, hxe]
        rfl
      rw [ht]
      exact hF.set (hF.ne hc2 (by decide)) _
    · rw [far0, far2, far1 k he, if_neg he]
      obtain ⟨g1, g2, v, g3, g4⟩ := h.set_ k q hk1 hq
      refine ⟨g1, g2, v, g3, g4.kept hk (fun b hb => ?_)⟩
      rintro (e | e)
      · subst e
        exact g4.ne hc (by decide) hb.symm
      · exact h.apart k i v u he hk1 hi g3 hu b hb e
  · have other : ∀ (k : Nat) (v : Value), k ≠ i → k < m → inner[k * 3 + 1]? = some v → ∀ b, v.ownBlock = some b → some b ≠ u'.ownBlock := by
      intro k v hk1 hk2 hv
      have hlt : ∀ b, v.ownBlock = some b → b < W.heap.size := by
        have hkG : k < G.length := by
          have := (List.getElem?_eq_some_iff.1 hv).1
          rw [hl] at this
          rw [h.many]
          omega
        obtain ⟨_, _, v2, g3, g4⟩ := h.set_ k _ hk2 (List.getElem?_eq_getElem hkG)
        obtain rfl : v = v2 := by rw [hv] at g3; exact Option.some.inj g3
        exact g4.lt
      exact hn.apart hlt (h.apart k i v u hk1 hk2 hi hv hu)
    intro k k' v v' hne hk1 hk2 hv hv'
    by_cases he : k = i
    · subst he
      rw [at1] at hv
      obtain rfl := Option.some.inj hv
      rw [far1 k' (Ne.symm hne)] at hv'
      exact flip_ (other k' v' (Ne.symm hne) hk2 hv')
    · rw [far1 k he] at hv
      by_cases he' : k' = i
      · subst he'
        rw [at1] at hv'
        obtain rfl := Option.some.inj hv'
        exact other k v he hk1 hv
      · rw [far1 k' he'] at hv'
        exact h.apart k k' v v' hne hk1 hk2 hv hv'
  · intro k j v q hk1 hv hq
    by_cases he : k = i
    · subst he
      rw [at1] at hv
      obtain rfl := Option.some.inj hv
      exact flip_ (hn.apart (h.nodes.re j q hq).lt (flip_ (h.apartE k j u q hk1 hu hq)))
    · rw [far1 k he] at hv
      exact h.apartE k j v q hk1 hv hq
/-- The row that goes out, read. -/
theorem Out.reads {base R n : Nat} {W : World} {G : List GN} {inner : List Value} {P : Nat → Nat} {T : List PN} (h : Out base W R n G inner n P) (hP : ∀ (k : Nat) (g : GN), k < n → G[k]? = some g → P k = g.nx.length) (ht : G.map GN.abs = T) (hn : n ≤ 9223372036854775807) :
    Kd.C k50 W (some ⟨R, 0, none⟩) n (outP T) := by
  have hlen : (outP T).length = n := by
    rw [← h.many, ← ht]
    simp [outP]
  refine ⟨hlen, hn, fun _ => ⟨_, rfl, fun j p hj => ?_⟩⟩
  have hjn : j < n := by rw [← hlen]; exact (List.getElem?_eq_some_iff.1 hj).1
  have hjG : j < G.length := by rw [h.many]; exact hjn
  have hg : G[j]? = some (G[j]'hjG) := List.getElem?_eq_getElem hjG
  generalize G[j]'hjG = g at hg
  obtain ⟨h1, h2, u, h3, h4⟩ := h.set_ j g hjn hg
  rw [hP j g hjn hg, List.take_length] at h4
  have hp : p = ⟨g.st, castN g.nx, g.en⟩ := by
    unfold outP at hj
    rw [← ht, List.map_map, List.getElem?_map, hg] at hj
    simpa [GN.abs, castN] using hj.symm
  subst hp
  obtain ⟨AS, cS, eS⟩ := (h.nodes.rs j g hg).slice
  obtain ⟨AU, cU, eU⟩ := h4.slice
  obtain ⟨AE, cE, eE⟩ := (h.nodes.re j g hg).slice
  have qS := h.nodes.rs j g hg
  have qE := h.nodes.re j g hg
  rw [eS] at qS
  rw [eU] at h4
  rw [eE] at qE
  refine ⟨[g.vS, u, g.vE], rfl, ?_, fun i v hv => h.own.cells (g := R) rfl _ v ?_⟩
  · rw [eS, eU, eE]
    exact k50_mk W ⟨g.st, castN g.nx, g.en⟩ qS.reads.2.1 qS.reads.2.2 h4.reads.2.1 h4.reads.2.2 qE.reads.2.1 qE.reads.2.2
  · have hi := (List.getElem?_eq_some_iff.1 hv).1
    have hi3 : i < 3 := by simpa using hi
    match i, hi3, hv with
    | 0, _, hv => exact h1.trans (by simpa using hv)
    | 1, _, hv => exact h3.trans (by simpa using hv)
    | 2, _, hv => exact h2.trans (by simpa using hv)
theorem made_nil (m : Nat) : (madeCells #[.slice none 0 0, .slice none 0 0, .slice none 0 0] m).toList = List.replicate m (Value.slice none 0 0) := by
  apply List.ext_getElem
  · simp [madeCells]
  · intro i h1 h2
    have h3 : i % 3 < 3 := Nat.mod_lt _ (by decide)
    simp only [madeCells, Array.toList_map, Array.toList_range, List.getElem_map, List.getElem_range, List.getElem_replicate]
    show #[Value.slice none 0 0, .slice none 0 0, .slice none 0 0][i % 3]! = _
    rcases (show i % 3 = 0 ∨ i % 3 = 1 ∨ i % 3 = 2 by omega) with e | e | e <;> rw [e] <;> rfl
/-- The row, made. -/
theorem Out.made {base n : Nat} {W : World} {G : List GN} (hN : Nodes base W G) (hm : G.length = n) (hb : base ≤ W.heap.size) (hn : n ≤ maxLen) (P : Nat → Nat) :
    Out base (W.alloc (.cells (madeCells #[.slice none 0 0, .slice none 0 0, .slice none 0 0] (n * 3)) 50)) W.heap.size n G (List.replicate (n * 3) (.slice none 0 0)) 0 P where
  own := by
    have h := World.ownsRow_lit (base := base) (e := 50) (size := 3) W (madeCells #[.slice none 0 0, .slice none 0 0, .slice none 0 0] (n * 3)) n hb hn (by rw [size_madeCells])
    rw [made_nil] at h
    exact h
  nodes := hN.below (below_alloc (Below.refl _ _) _)
  many := hm
  set_ := fun k g h => absurd h (Nat.not_lt_zero k)
  apart := fun k k' u u' _ h => absurd h (Nat.not_lt_zero k)
  apartE := fun k i u g h => absurd h (Nat.not_lt_zero k)
end Go.Proofs.Ythlneooboiphdaa.PTrieShares

/- trie.Build: the row that goes out, its elements' rows apart from one another. -/
set_option linter.unusedVariables false
set_option linter.unusedSimpArgs false
namespace Go.Proofs.Ythlneooboiphdaa.PTrieShares
open Go.RowKit Go.Proofs.Ythlneooboiphdaa Go.Proofs.YthlneooboiphdaaW.PrintWords Go.Proofs.YthlneooboiphdaaW.PrintLast Go.Proofs.YthlneooboiphdaaW.PrintMore
open Classical in
/-- The row that goes out, as one whose elements share nothing. -/
theorem Out.share {base R n : Nat} {W : World} {G : List GN} {inner : List Value} {P : Nat → Nat} {T : List PN} (h : Out base W R n G inner n P) (hP : ∀ (k : Nat) (g : GN), k < n → G[k]? = some g → P k = g.nx.length) (ht : G.map GN.abs = T) (hn : n ≤ 9223372036854775807) :
    Kd.S k50 50 W base (fun _ => True) (.slice (some ⟨R, 0, none⟩) n n) (outP T) := by
  have hlen : (outP T).length = n := by
    rw [← h.many, ← ht]
    simp [outP]
  -- whose a block is
  let own (i k : Nat) : Prop := i < n ∧ ∃ m u, m < 3 ∧ inner[i * 3 + m]? = some u ∧ u.ownBlock = some k
  have hsep : ∀ i j k, own i k → own j k → i = j := by
    intro i j k ⟨hi, m, u, hm, hu, huk⟩ ⟨hj, m', u', hm', hu', huk'⟩
    refine Classical.byContradiction (fun hne => ?_)
    have hiG : G[i]? = some (G[i]'(by rw [h.many]; exact hi)) := List.getElem?_eq_getElem _
    have hjG : G[j]? = some (G[j]'(by rw [h.many]; exact hj)) := List.getElem?_eq_getElem _
    generalize G[i]'(by rw [h.many]; exact hi) = gi at hiG
    generalize G[j]'(by rw [h.many]; exact hj) = gj at hjG
    obtain ⟨a1, a2, ua, a3, a4⟩ := h.set_ i gi hi hiG
    obtain ⟨b1, b2, ub, b3, b4⟩ := h.set_ j gj hj hjG
    obtain ⟨s1, s2, s3, s4⟩ := h.nodes.sep i j gi gj hne hiG hjG
    have ri := h.nodes.rs i gi hiG
    have rj := h.nodes.rs j gj hjG
    have ei := h.nodes.re i gi hiG
    have ej := h.nodes.re j gj hjG
    have ap := h.apart i j ua ub hne hi hj a3 b3
    have e1 := h.apartE i j ua gj hi a3 hjG
    have e2 := h.apartE j i ub gi hj b3 hiG
    have key : ∀ m u, m < 3 → inner[i * 3 + m]? = some u → (m = 0 ∧ u = gi.vS) ∨ (m = 1 ∧ u = ua) ∨ (m = 2 ∧ u = gi.vE) := fun m u hm hu => by
      match m, hm with
      | 0, _ => rw [Nat.add_zero, a1] at hu; exact .inl ⟨rfl, (Option.some.inj hu).symm⟩
      | 1, _ => rw [a3] at hu; exact .inr (.inl ⟨rfl, (Option.some.inj hu).symm⟩)
      | 2, _ => rw [a2] at hu; exact .inr (.inr ⟨rfl, (Option.some.inj hu).symm⟩)
    have key2 : ∀ m u, m < 3 → inner[j * 3 + m]? = some u → (m = 0 ∧ u = gj.vS) ∨ (m = 1 ∧ u = ub) ∨ (m = 2 ∧ u = gj.vE) := fun m u hm hu => by
      match m, hm with
      | 0, _ => rw [Nat.add_zero, b1] at hu; exact .inl ⟨rfl, (Option.some.inj hu).symm⟩
      | 1, _ => rw [b3] at hu; exact .inr (.inl ⟨rfl, (Option.some.inj hu).symm⟩)
      | 2, _ => rw [b2] at hu; exact .inr (.inr ⟨rfl, (Option.some.inj hu).symm⟩)
    rcases key m u hm hu with ⟨_, rfl⟩ | ⟨_, rfl⟩ | ⟨_, rfl⟩ <;> rcases key2 m' u' hm' hu' with ⟨_, rfl⟩ | ⟨_, rfl⟩ | ⟨_, rfl⟩
    · exact s2 k huk huk'.symm
    · exact ri.apart b4 (by decide) k huk huk'.symm
    · exact ri.apart ej (by decide) k huk huk'.symm
    · exact a4.apart rj (by decide) k huk huk'.symm
    · exact ap k huk huk'.symm
    · exact e1 k huk huk'.symm
    · exact ei.apart rj (by decide) k huk huk'.symm
    · exact e2 k huk' huk.symm
    · exact s4 k huk huk'.symm
  refine ⟨fun k => if hk : ∃ i, own i k then Classical.choose hk else 0, fun _ _ => trivial, inner, ?_, ?_, ?_⟩
  · rw [List.length_zipIdx, hlen]
    exact h.own
  · rw [List.length_zipIdx, hlen]
    exact h.len
  intro j p hj
  rw [List.getElem?_zipIdx, Nat.zero_add] at hj
  obtain ⟨x, hx, rfl⟩ := Option.map_eq_some_iff.1 hj
  have hjn : j < n := by rw [← hlen]; exact (List.getElem?_eq_some_iff.1 hx).1
  have hjG : j < G.length := by rw [h.many]; exact hjn
  have hg : G[j]? = some (G[j]'hjG) := List.getElem?_eq_getElem hjG
  generalize G[j]'hjG = g at hg
  obtain ⟨h1, h2, u, h3, h4⟩ := h.set_ j g hjn hg
  rw [hP j g hjn hg, List.take_length] at h4
  have hp : x = ⟨g.st, castN g.nx, g.en⟩ := by
    unfold outP at hx
    rw [← ht, List.map_map, List.getElem?_map, hg] at hx
    simpa [GN.abs, castN] using hx.symm
  subst hp
  have hcs : (inner.drop (j * 3)).take 3 = [g.vS, u, g.vE] := by
    have hl := h.len
    apply List.ext_getElem?
    intro i
    rw [List.getElem?_take]
    by_cases hi : i < 3
    · rw [if_pos hi, List.getElem?_drop]
      match i, hi with
      | 0, _ => exact h1
      | 1, _ => exact h3
      | 2, _ => exact h2
    · rw [if_neg hi, List.getElem?_eq_none (by simp; omega)]
  obtain ⟨cells, hc⟩ := h.typed
  have mine : ∀ (m : Nat) (v : Value), m < 3 → inner[j * 3 + m]? = some v → (∀ k, v.ownBlock = some k → k ≠ R) → ∀ k, some k = v.ownBlock → ((fun _ => True) k ∧ some k ≠ (Value.slice (some ⟨R, 0, none⟩) n n).ownBlock) ∧ (if hk : ∃ i, own i k then Classical.choose hk else 0) = j := by
    intro m v hm hv hR k hk
    have ho : own j k := ⟨hjn, m, v, hm, hv, hk.symm⟩
    have he : ∃ i, own i k := ⟨j, ho⟩
    refine ⟨⟨trivial, fun e => hR k hk.symm (by simpa [Value.ownBlock] using e)⟩, ?_⟩
    rw [dif_pos he]
    exact hsep _ _ k (Classical.choose_spec he) ho
  have qS := h.nodes.rs j g hg
  have qE := h.nodes.re j g hg
  show (Kd.tag _ k50).M W base _ (⟨g.st, castN g.nx, g.en⟩, j) ((inner.drop (j * 3)).take 3)
  rw [hcs]
  show k50.M W base _ ⟨g.st, castN g.nx, g.en⟩ [g.vS, u, g.vE]
  refine k50_mkM W base _ ⟨g.st, castN g.nx, g.en⟩ ?_ ?_ ?_
  · exact Kd.R_mono qS.2 (mine 0 g.vS (by decide) h1 (fun k hk e => by subst e; exact qS.ne hc (by decide) hk.symm))
  · exact Kd.R_mono h4.2 (mine 1 u (by decide) h3 (fun k hk e => by subst e; exact h4.ne hc (by decide) hk.symm))
  · exact Kd.R_mono qE.2 (mine 2 g.vE (by decide) h2 (fun k hk e => by subst e; exact qE.ne hc (by decide) hk.symm))
end Go.Proofs.Ythlneooboiphdaa.PTrieShares

/- trie.Build: the walk; what it hands back lies apart. -/
set_option linter.unusedVariables false
set_option linter.unusedSimpArgs false
namespace Go.Proofs.Ythlneooboiphdaa.PTrieShares
open Go.RowKit Go.Proofs.Ythlneooboiphdaa Go.Proofs.YthlneooboiphdaaW.PrintWords Go.Proofs.YthlneooboiphdaaW.PrintLast Go.Proofs.YthlneooboiphdaaW.PrintMore
/-- What Build answers. -/
def trie_Build.g (l : List (List S53)) : List S50 × Int := if 256 < l.length then ([], 2) else if l.all (fun p => p.all okS) then (outP (buildN l l.length), 0) else ([], 1)
def BuildEnd (base : Nat) (w : World) (q : List S50 × Int) (e : Ending) (w' : World) : Prop :=
  ∃ v, e = .returned (.tuple #[v, .int .i64 q.2]) ∧ Kd.S k50 50 w' base (fun _ => True) v q.1 ∧ Below base w w'
theorem all_take_succP (l : List (List S53)) (i : Int) (h0 : 0 ≤ i) (h : i < (l.length : Int)) (ha : (l.take i.toNat).all (fun p => p.all okS) = true) : (l.take (i + 1).toNat).all (fun p => p.all okS) = (rd_L3 l i).all okS := by
  obtain ⟨m, rfl⟩ := Int.eq_ofNat_of_zero_le h0
  have hm : m < l.length := by omega
  rw [Int.toNat_natCast] at ha
  unfold rd_L3
  rw [show (((m : Nat) : Int) + 1).toNat = m + 1 from by omega, Int.toNat_natCast, List.take_succ_eq_append_getElem hm, List.all_append, ha, List.getD_eq_getElem?_getD, List.getElem?_eq_getElem hm]
  simp
theorem rdL_mem (l : List (List S53)) (i : Int) (h0 : 0 ≤ i) (h : i < (l.length : Int)) : rd_L3 l i ∈ l := by
  obtain ⟨m, rfl⟩ := Int.eq_ofNat_of_zero_le h0
  have hm : m < l.length := by omega
  unfold rd_L3
  rw [Int.toNat_natCast, List.getD_eq_getElem?_getD, List.getElem?_eq_getElem hm]
  exact List.getElem_mem hm
set_option maxHeartbeats 4000000 in
set_option maxRecDepth 100000 in
theorem trie_Build_calls (A0 : Option Addr) (c0 : Nat) (l0 : List (List S53)) (w : World) (hr0 : Kd.C (Kd.slice 53 k53) w A0 l0.length l0) (hc0 : l0.length ≤ c0)
    (hsm : ∀ p ∈ l0, ∀ s ∈ p, smallS s) (htot : totP l0 l0.length ≤ 1000000000) :
    Calls Try.prog 10 #[.slice A0 l0.length c0] w (BuildEnd w.heap.size w (trie_Build.g l0)) := by
  have hlen : l0.length ≤ 9223372036854775807 := Kd.C_max hr0
  have hu := Try.underlying53
  by_cases h256 : 256 < l0.length
  · have d1 : decide ((l0.length : Int) > 256) = true := decide_eq_true (by omega)
    have hg : trie_Build.g l0 = ([], 2) := by unfold trie_Build.g; rw [if_pos h256]
    rw [hg]
    clear hr0 hsm htot hg
    go_enter Try.func10, Try.ntmps10
    go_wp2
    go_ret2
    exact ⟨_, rfl, Kd.S_nil _ _ _ _ _, Below.refl _ _⟩
  have d1 : decide ((l0.length : Int) > 256) = false := decide_eq_false (by omega)
  have HG : Aside0 ((l0.all (fun p => p.all okS) = false → trie_Build.g l0 = ([], 1)) ∧ (l0.all (fun p => p.all okS) = true → trie_Build.g l0 = (outP (buildN l0 l0.length), 0))) := ⟨by
    unfold trie_Build.g
    rw [if_neg h256]
    exact ⟨fun h => by rw [h]; rfl, fun h => by rw [h]; rfl⟩⟩
  have H256 : Aside0 (l0.length ≤ 256) := ⟨by omega⟩
  have HTOT := Aside0.mk htot
  have HR0 := Aside0.mk hr0
  have HSM := Aside0.mk hsm
  generalize trie_Build.g l0 = gg at *
  clear h256 htot hr0 hsm
  go_enter Try.func10, Try.ntmps10
  go_wp2
  go_loopg [24] (l0.length + 1) (fun kq v24 wr => ∃ i : Int, v24 = .int .i64 i ∧ Aside0 (0 ≤ i ∧ i ≤ (l0.length : Int) ∧ i.toNat + kq = l0.length + 1 ∧ (l0.take i.toNat).all (fun p => p.all okS) = true) ∧ Aside0 (Below w.heap.size w wr))
  case atStart => exact ⟨0, rfl, ⟨by omega, by omega, by omega, rfl⟩, ⟨Below.refl _ _⟩⟩
  case round =>
    obtain ⟨i, rfl, HK, HB⟩ := hrel
    obtain ⟨g0, gl, gk1, ga⟩ := HK.out
    by_cases c1 : i < (l0.length : Int)
    · obtain ⟨k1, rfl⟩ : ∃ k1, gk = k1 + 1 := ⟨gk - 1, by omega⟩
      have hw1 : IntKind.i64.wrap (i + 1) = i + 1 := by rw [IntKind.wrap_i64]; omega
      have c1b : decide (i < (l0.length : Int)) = true := decide_eq_true c1
      have hs := all_take_succP l0 i g0 c1 ga
      have hmem := rdL_mem l0 i g0 c1
      have hsz : ∀ s ∈ rd_L3 l0 i, smallS s := HSM.out _ hmem
      obtain ⟨ad, AP, cP, e1, x0, x1, x2⟩ := at_L3 (Kd.C_below HR0.out HB.out) i g0 c1
      subst e1
      have REL : Aside0 (0 ≤ i + 1 ∧ i + 1 ≤ (l0.length : Int) ∧ (i + 1).toNat + k1 = l0.length + 1) := ⟨by omega, by omega, by omega⟩
      have RES : Aside0 ((rd_L3 l0 i).all okS = false → l0.all (fun p => p.all okS) = false) := ⟨fun h => by
        cases hh : l0.all (fun p => p.all okS)
        · rfl
        · rw [List.all_eq_true] at hh
          rw [hh _ hmem] at h
          cases h⟩
      have HS := Aside0.mk hs
      have HX2 := Aside0.mk x2
      have HX1 := Aside0.mk x1
      have hff : path_Formed.f (rd_L3 l0 i) = some ((rd_L3 l0 i).all okS) := by
        unfold path_Formed.f
        rw [if_pos hsz]
      have HF := Aside0.mk hff
      generalize rd_L3 l0 i = y at *
      have c1c := eq_true c1
      have g0c := eq_true g0
      clear hs hmem c1 g0 gl gk1 ga HK hsz x2 x1 hff
      cases ho : y.all okS
      · have HO : Aside0 (l0.all (fun p => p.all okS) = false) := ⟨RES.out ho⟩
        rw [ho] at HF
        clear ho
        go_wp2_with (first
          | (go_at_call 26; refine (path_Formed.calls AP cP y false wr HX2.out HX1.out HF.out).mono ?_; rintro e w2 ⟨rfl, hb⟩; have HB2 := Aside0.mk (below_step HB.out hb); clear hb HB x0)
          | fail)
        go_ret2
        rw [HG.out.1 HO.out]
        exact ⟨_, rfl, Kd.S_nil _ _ _ _ _, HB2.out⟩
      · have HO : Aside0 ((l0.take (i + 1).toNat).all (fun p => p.all okS) = true) := ⟨HS.out.trans ho⟩
        rw [ho] at HF
        clear ho
        go_wp2_with (first
          | (go_at_call 26; refine (path_Formed.calls AP cP y true wr HX2.out HX1.out HF.out).mono ?_; rintro e w2 ⟨rfl, hb⟩; have HB2 := Aside0.mk (below_step HB.out hb); clear hb HB x0)
          | fail)
        go_roundg k1
        case measure => omega
        case rel => exact ⟨i + 1, rfl, ⟨REL.out.1, REL.out.2.1, REL.out.2.2, HO.out⟩, HB2⟩
    · have c1b : decide (i < (l0.length : Int)) = false := decide_eq_false c1
      have hall : l0.all (fun p => p.all okS) = true := by
        rw [List.take_of_length_le (by omega)] at ga
        exact ga
      have HEND := Aside0.mk (HG.out.2 hall)
      have HB1 := HB.out
      clear HK ga gk1 gl g0 c1 HB HSM HG hall
      have BN := blk_new wr (.cells #[.slice none 0 0, .slice none 0 0, .slice none 0 0, .int .i64 0] 70)
      have hb2 := below_alloc (below_alloc HB1 (.cells #[.slice none 0 0, .slice none 0 0, .slice none 0 0, .int .i64 0] 70)) (.cells #[.pointer (some ⟨wr.heap.size, 0, none⟩)] 67)
      have BN2 := blk_alloc BN (.cells #[.pointer (some ⟨wr.heap.size, 0, none⟩)] 67)
      have hN0 := nodes_start HB1.size BN2
      have hF0 := Flat.one (d := kP) rfl (wr.alloc (.cells #[.slice none 0 0, .slice none 0 0, .slice none 0 0, .int .i64 0] 70)) w.heap.size 67 (Nat.le_trans HB1.size (below_alloc (Below.refl wr.heap.size wr) _).size) wr.heap.size _ (fun _ => rfl)
      have hA0 : AllApart [bare wr.heap.size] (.slice (some ⟨(wr.alloc (.cells #[.slice none 0 0, .slice none 0 0, .slice none 0 0, .int .i64 0] 70)).heap.size, 0, none⟩) 1 1) := fun g hg k hk => by
        obtain rfl : g = bare wr.heap.size := by simpa using hg
        simp [bare, Value.ownBlock]
      have hsz1 : (wr.alloc (.cells #[.slice none 0 0, .slice none 0 0, .slice none 0 0, .int .i64 0] 70)).heap.size = wr.heap.size + 1 := by simp
      rw [hsz1] at hF0 hA0
      have HN0 := Aside0.mk hN0
      have HF0 := Aside0.mk hF0
      have HA0 := Aside0.mk hA0
      have HB2 := Aside0.mk hb2
      clear hN0 hF0 hA0 BN BN2 hb2 HB1 hsz1
      go_wp2
      generalize (wr.alloc (.cells #[.slice none 0 0, .slice none 0 0, .slice none 0 0, .int .i64 0] 70)).alloc (.cells #[.pointer (some ⟨wr.heap.size, 0, none⟩)] 67) = V at HN0 HF0 HB2 ⊢
      obtain ⟨iT, iT1, iT2, iT3, iT4⟩ := info_of infoP
      go_loopg [6, 36] (l0.length + 1) (fun kq v6 v36 wr2 => ∃ (i : Int) (G : List GN) (bs : List Nat), v36 = .int .i64 i ∧ Aside0 (G.map GN.b = bs) ∧ Aside0 (0 ≤ i ∧ i ≤ (l0.length : Int) ∧ i.toNat + kq = l0.length + 1) ∧ Aside0 (Tells w.heap.size wr2 G (buildN l0 i.toNat)) ∧ Aside0 (Flat kP 67 w.heap.size wr2 v6 bs ∧ AllApart G v6) ∧ Aside0 (Below w.heap.size w wr2))
      case atStart => exact ⟨0, _, _, rfl, ⟨rfl⟩, ⟨by omega, by omega, by omega⟩, HN0, ⟨HF0.out, HA0.out⟩, HB2⟩
      case round =>
        clear HN0 HF0 HA0 HB2
        obtain ⟨i2, G, bs, rfl, HBS, HK, HN, HF, HB⟩ := hrel
        obtain ⟨g0, gl, gk1⟩ := HK.out
        obtain ⟨A6, c6, hv6⟩ := HF.out.1.slice
        subst hv6
        by_cases c1 : i2 < (l0.length : Int)
        · obtain ⟨k1, rfl⟩ : ∃ k1, gk = k1 + 1 := ⟨gk - 1, by omega⟩
          have hw1 : IntKind.i64.wrap (i2 + 1) = i2 + 1 := by rw [IntKind.wrap_i64]; omega
          have c1b : decide (i2 < (l0.length : Int)) = true := decide_eq_true c1
          have c1c := eq_true c1
          have g0c := eq_true g0
          obtain ⟨ad, AP, cP, e1, x0w, x1, x2⟩ := at_L3 HR0.out i2 g0 c1
          subst e1
          have x0 := pw_cell_below HB.out x0w
          clear x0w
          have hWf := wfP_build l0 i2.toNat
          have hGl := HN.out.len
          have hpos : 0 < G.length := by rw [hGl]; exact hWf.pos
          have hbs := HBS.out
          have hbl : bs.length = G.length := by rw [← hbs, List.length_map]
          obtain ⟨ad6, e6, y0⟩ := at_ptr HF.out.1.reads.2.2 0 (by omega) (by omega)
          subst e6
          have hg0 : bs.getD (0 : Int).toNat 0 = (G[0]'hpos).b := by
            rw [← hbs]
            simp [List.getD_eq_getElem?_getD, List.getElem?_eq_getElem hpos]
          rw [hg0] at y0
          have y1 : wr.cell? (ad6.add 0) = some (.pointer (some ⟨(G[0]'hpos).b, 0, none⟩)) := y0
          have hadd : ad6.add 0 = ad6 := by unfold Addr.add; simp
          have y2 : wr.cell? ad6 = some (.pointer (some ⟨(G[0]'hpos).b, 0, none⟩)) := by rw [← hadd]; exact y1
          have cb1 : decide (0 < (bs.length : Int)) = true := decide_eq_true (by omega)
          have cb2 := eq_true (show (0 : Int) < (bs.length : Int) by omega)
          have cb3 := eq_true (show 0 < bs.length by omega)
          have hyq : rd_L3 l0 i2 = rdP l0 i2.toNat := rfl
          have htk : totP l0 i2.toNat + (rd_L3 l0 i2).length ≤ 1000000000 := by
            have h1 := totP_mono l0 (show i2.toNat + 1 ≤ l0.length by omega)
            have h2 := HTOT.out
            have h3 : totP l0 (i2.toNat + 1) = totP l0 i2.toNat + (rd_L3 l0 i2).length := rfl
            omega
          have HTK := Aside0.mk htk
          have HST : Aside0 (buildN l0 (i2 + 1).toNat = endP (walkN (buildN l0 i2.toNat) (rd_L3 l0 i2) (rd_L3 l0 i2).length).1 (walkN (buildN l0 i2.toNat) (rd_L3 l0 i2) (rd_L3 l0 i2).length).2 i2) := ⟨by
            rw [show (i2 + 1).toNat = i2.toNat + 1 by omega]
            show endP _ _ ((i2.toNat : Nat) : Int) = _
            rw [Int.toNat_of_nonneg g0]
            rfl⟩
          have HWF := Aside0.mk hWf
          have HX2 := Aside0.mk x2
          have HG0 : Aside0 (G[(walkN (buildN l0 i2.toNat) (rd_L3 l0 i2) 0).2]? = some (G[0]'hpos)) := ⟨List.getElem?_eq_getElem hpos⟩
          have REL : Aside0 (0 ≤ i2 + 1 ∧ i2 + 1 ≤ (l0.length : Int) ∧ (i2 + 1).toNat + k1 = l0.length + 1) := ⟨by omega, by omega, by omega⟩
          have HN0 : Aside0 (Tells w.heap.size wr G (walkN (buildN l0 i2.toNat) (rd_L3 l0 i2) 0).1) := HN
          have hpl : (rd_L3 l0 i2).length ≤ 9223372036854775807 := Kd.C_max x2
          generalize rd_L3 l0 i2 = p at *
          generalize buildN l0 i2.toNat = T0 at *
          generalize totP l0 i2.toNat = t0 at *
          generalize G[0]'hpos = n0 at *
          clear hyq htk hWf hGl hpos hg0 y0 x1 x2 HN HK gk1 gl g0 c1 hbl hbs hadd
          go_wp2
          go_loopg [6, 9, 46] (p.length + 1) (fun kq v6 v9 v46 wr3 => ∃ (j : Int) (G : List GN) (bs : List Nat) (g : GN), v46 = .int .i64 j ∧ v9 = .pointer (some ⟨g.b, 0, none⟩) ∧ Aside0 (G.map GN.b = bs) ∧ Aside0 (0 ≤ j ∧ j ≤ (p.length : Int) ∧ j.toNat + kq = p.length + 1) ∧ Aside0 (Tells w.heap.size wr3 G (walkN T0 p j.toNat).1) ∧ Aside0 (G[(walkN T0 p j.toNat).2]? = some g) ∧ Aside0 (Flat kP 67 w.heap.size wr3 v6 bs ∧ AllApart G v6) ∧ Aside0 (Below w.heap.size w wr3))
          case atStart => exact ⟨0, G, bs, n0, rfl, rfl, HBS, ⟨by omega, by omega, by omega⟩, HN0, HG0, HF, HB⟩
          case round =>
            clear HBS HN0 HG0 HF y1 y2 cb1 cb2 cb3
            obtain ⟨j, G3, bs3, g3, rfl, rfl, HBS, HK, HN, HGG, HF, HB3⟩ := hrel
            obtain ⟨g0, gl, gk2⟩ := HK.out
            obtain ⟨A6, c6, hv6⟩ := HF.out.1.slice
            subst hv6
            by_cases c1 : j < (p.length : Int)
            · obtain ⟨k2, rfl⟩ : ∃ k2, gk = k2 + 1 := ⟨gk - 1, by omega⟩
              have hw2 : IntKind.i64.wrap (j + 1) = j + 1 := by rw [IntKind.wrap_i64]; omega
              have c2b : decide (j < (p.length : Int)) = true := decide_eq_true c1
              have c2c := eq_true c1
              have g2c := eq_true g0
              obtain ⟨adp, ep, x0, x1, x2⟩ := at_T53 (Kd.C_below HX2.out HB3.out) j g0 c1
              subst ep
              have hWf3 := (wfP_walk HWF.out p j.toNat).1
              have hk3 : t0 + j.toNat ≤ 1073741824 := by have := HTK.out; omega
              have HS2 : Aside0 (walkN T0 p (j + 1).toNat = stepP (walkN T0 p j.toNat).1 (walkN T0 p j.toNat).2 (rd_T53 p j)) := ⟨by
                rw [show (j + 1).toNat = j.toNat + 1 by omega]
                show stepP _ _ (rd_T53 p ((j.toNat : Nat) : Int)) = _
                rw [Int.toNat_of_nonneg g0]⟩
              have REL2 : Aside0 (0 ≤ j + 1 ∧ j + 1 ≤ (p.length : Int) ∧ (j + 1).toNat + k2 = p.length + 1) := ⟨by omega, by omega, by omega⟩
              have hgl : G3.length = bs3.length := by rw [← HBS.out, List.length_map]
              have hgt : bs3.length ≤ t0 + p.length + 1 := by
                have h1 := hWf3.len
                rw [← HN.out.len, hgl] at h1
                omega
              have HGT : Aside0 ((bs3.length + 1) * 8 ≤ 140737488355328 ∧ bs3.length + 1 ≤ maxLen) := ⟨by have := HTK.out; unfold maxLen; omega⟩
              clear hgt
              generalize rd_T53 p j = y at *
              generalize walkN T0 p j.toNat = q at *
              have hb1 := below_alloc (Below.refl wr.heap.size wr) (.cells #[.int .i64 y.f0, .string y.f1, .int .i64 y.f2] 53)
              have BK := blk_new wr (.cells #[.int .i64 y.f0, .string y.f1, .int .i64 y.f2] 53)
              have hbW := below_alloc HB3.out (.cells #[.int .i64 y.f0, .string y.f1, .int .i64 y.f2] 53)
              have hcall := fun b hbf => node_step_calls w.heap.size G3 q.1 q.2 (t0 + j.toNat) i2.toNat y (wr.alloc (.cells #[.int .i64 y.f0, .string y.f1, .int .i64 y.f2] 53)) (HN.out.below hb1) hWf3 hk3 g3 HGG.out (.slice A6 bs3.length c6) (by rw [HBS.out]; exact HF.out.1.below hb1) HF.out.2 b hbf
              rw [HBS.out, hgl] at hcall
              have HC := Aside0.mk hcall
              have HW := Aside0.mk hbW
              clear hcall hbW hb1 hWf3 hk3 HN HK gk2 gl g0 c1 hgl HGG HF HBS
              go_upto_region 17 with fail
              generalize wr.alloc (.cells #[.int .i64 y.f0, .string y.f1, .int .i64 y.f2] 53) = W at BK HC HW ⊢
              have k0 := (blk_cell BK 0).trans rfl
              have k1_ := (blk_cell BK 1).trans rfl
              have k2_ := (blk_cell BK 2).trans rfl
              clear BK x0 x1 x2
              cases hfb : (findS g3.st y).isNone
              · have HC2 := Aside0.mk (HC.out false hfb)
                clear HC hfb
                go_wp2_with (first
                  | (go_at_call 40; refine HC2.out.mono ?_; rintro e w2 ⟨G5, h5, rfl, t1, t2, t3, t4, t5, t6, t7, t8⟩; have T1 := Aside0.mk t1; have T2 := Aside0.mk t2; have T4 := Aside0.mk (t4 rfl); have T5 := Aside0.mk (HW.out.trans t5); have T7 := Aside0.mk (And.intro t7 t8); clear t1 t2 t3 t4 t5 t6 t7 t8 HC2 k0 k1_ k2_)
                  | fail)
                go_roundg k2
                case measure => omega
                case rel => exact ⟨j + 1, G5, bs3, h5, rfl, rfl, T4, REL2, ⟨by rw [HS2.out]; exact T1.out⟩, ⟨by rw [HS2.out]; exact T2.out⟩, T7, T5⟩
              · have HC2 := Aside0.mk (HC.out true hfb)
                clear HC hfb
                go_wp2_with (first
                  | (go_at_call 40; refine HC2.out.mono ?_; rintro e w2 ⟨G5, h5, rfl, t1, t2, t3, t4, t5, t6, t7, t8⟩; have T1 := Aside0.mk t1; have T2 := Aside0.mk t2; have T3 := Aside0.mk (t3 rfl); have T5 := Aside0.mk (HW.out.trans t5); have T6 := Aside0.mk t6; have T7 := Aside0.mk (And.intro t7 t8); clear t1 t2 t3 t4 t5 t6 t7 t8 HC2 k0 k1_ k2_)
                  | (at_builtin; refine list_append_flat (d := kP) rfl (.tmp 59) (.tmp 61) 68 rfl w.heap.size 67 iT _ 8 Try.underlying68 iT1 iT2 iT3 iT4 rfl (by decide) (.slice A6 bs3.length c6) bs3 (by rfl) (T7.out.1.below (below_alloc (Below.refl w2.heap.size w2) _)) h5.b _ rfl w2.heap.size _ 67 (by rfl) (blk_new _ _) HGT.out.2 HGT.out.1 (Nat.le_trans T5.out.size (below_alloc (Below.refl w2.heap.size w2) (.cells #[.pointer (some ⟨h5.b, 0, none⟩)] 67)).size) ?_; intro gA cA w3 hF3 hG3 hn3 hl3)
                  | fail)
                have hba := below_alloc (Below.refl w2.heap.size w2) (.cells #[.pointer (some ⟨h5.b, 0, none⟩)] 67)
                have M1 := Aside0.mk (Tells.all (T1.out.below hba) (T7.out.1.below hba) T7.out.2 hG3)
                have M2 := Aside0.mk (And.intro hF3 (AllApart.near T7.out.2 (T1.out.below hba).nodes hn3))
                have M3 := Aside0.mk (pw_below_grown (T5.out.alloc T5.out.size (.cells #[.pointer (some ⟨h5.b, 0, none⟩)] 67)) _ (Nat.le_trans T5.out.size hba.size) hG3 (T7.out.1.below hba).base)
                clear hba hF3 hG3 hn3 hl3 T1 T5 T6 T7
                go_roundg k2
                case measure => omega
                case rel => exact ⟨j + 1, G5, _, h5, rfl, rfl, T3, REL2, ⟨by rw [HS2.out]; exact M1.out⟩, ⟨by rw [HS2.out]; exact T2.out⟩, M2, M3⟩
            · have c2b : decide (j < (p.length : Int)) = false := decide_eq_false c1
              have hj : j.toNat = p.length := by omega
              rw [hj] at HN HGG
              have hE3 := HN.out.nodes.re _ g3 HGG.out
              have BG := (HN.out.nodes.cell _ g3 HGG.out).1
              obtain ⟨AE, cE, hvE⟩ := hE3.slice
              have k2e := (blk_cell BG 2).trans rfl
              have f2e := blk_frozen BG 2
              rw [hvE] at hE3
              have hen : g3.en.length ≤ i2.toNat := by
                have h1 := (wfP_walk HWF.out p p.length).1.each _ (List.mem_of_getElem? (HN.out.at_ HGG.out))
                exact h1.2.2.1
              have HEN : Aside0 (g3.en.length + 1 ≤ maxLen ∧ (g3.en.length + 1) * 8 ≤ 140737488355328) := ⟨by have := H256.out; have := REL.out; unfold maxLen; omega⟩
              have HE3 := Aside0.mk hE3
              clear hen hj c1 gl g0 gk2 HK hE3
              rw [hvE] at k2e
              have K2E := Aside0.mk (And.intro BG f2e)
              clear BG
              obtain ⟨iI, iI1, iI2, iI3, iI4⟩ := info_of info3
              have hba := below_alloc (Below.refl wr.heap.size wr) (.cells #[.int .i64 i2] 3)
              have HBA := Aside0.mk hba
              clear hba
              go_wp2_with (first
                | (at_builtin; refine list_append_flat (d := Kd.int .i64) rfl (.tmp 69) (.tmp 71) 32 rfl w.heap.size 3 iI _ 8 Try.underlying32 iI1 iI2 iI3 iI4 rfl (by decide) (.slice AE g3.en.length cE) g3.en (by rfl) (HE3.out.below HBA.out) i2 _ rfl wr.heap.size _ 3 (by rfl) (blk_new _ _) HEN.out.1 HEN.out.2 (Nat.le_trans HB3.out.size HBA.out.size) ?_; intro gA cA w3 hF3 hG3 hn3 hl3; have hne := HE3.out.ne K2E.out.1 (by decide); have BG3 := blk_grown (blk_below K2E.out.1 HBA.out) hG3 hne; have k2x := (blk_cell BG3 2).trans rfl; have f2x := blk_frozen BG3 2; clear hne BG3)
                | fail)
              have M := Aside0.mk (nodes_end (vE := .slice (some ⟨gA, 0, none⟩) (g3.en.length + 1) cA) (x := i2) (HN.out.below HBA.out) HGG.out hF3 (by rw [hvE]; exact hG3) (by rw [hvE]; exact hn3))
              have MB := Aside0.mk (M.out.2.2 w (HB3.out.alloc HB3.out.size (.cells #[.int .i64 i2] 3)))
              have MF := Aside0.mk (M.out.2.1 _ _ (HF.out.1.below HBA.out) HF.out.2)
              have MN := Aside0.mk M.out.1
              have hb3 : (G3.set (walkN T0 p p.length).2 ⟨g3.b, g3.vS, g3.vT, .slice (some ⟨gA, 0, none⟩) (g3.en.length + 1) cA, g3.st, g3.nx, g3.en ++ [i2]⟩).map GN.b = bs3 := by
                rw [← HBS.out, List.map_set]
                refine List.ext_getElem? (fun j => ?_)
                by_cases hj : (walkN T0 p p.length).2 = j
                · subst hj
                  rw [List.getElem?_set_self (by rw [List.length_map]; exact (List.getElem?_eq_some_iff.1 HGG.out).1), List.getElem?_map, HGG.out]
                  rfl
                · rw [List.getElem?_set_ne hj]
              have HB5 := Aside0.mk hb3
              clear hb3 M hF3 hG3 hn3 hl3 k2x f2x
              go_roundg k1
              case measure => omega
              case rel => exact ⟨i2 + 1, _, bs3, rfl, HB5, REL, ⟨by rw [HST.out]; exact MN.out⟩, MF, MB⟩
        · have c1b : decide (i2 < (l0.length : Int)) = false := decide_eq_false c1
          have hi2 : i2.toNat = l0.length := by omega
          rw [hi2] at HN
          have hWf := wfP_build l0 l0.length
          have hGl := HN.out.len
          have hbs := HBS.out
          have hbl : bs.length = G.length := by rw [← hbs, List.length_map]
          have hbn : bs.length ≤ 1000000001 := by
            have h1 := hWf.len
            have h2 := HTOT.out
            omega
          have HWF := Aside0.mk hWf
          have HBN := Aside0.mk hbn
          have hmk := fun W : World => run_make (P := Try.prog) W 23 50
          obtain ⟨iN, iN1, iN2, iN3, iN4⟩ := info_of info50
          have HMK : ∀ W : World, (Instr.makeSlice 23 (.int .i64 (bs.length : Int)) (.int .i64 (bs.length : Int))).run Try.prog W = .ok (.slice (some ⟨W.heap.size, 0, none⟩) bs.length bs.length) (W.alloc (.cells (madeCells #[.slice none 0 0, .slice none 0 0, .slice none 0 0] (bs.length * 3)) 50)) := by
            intro W
            have h := hmk W iN _ Try.underlying23 iN1 iN2 .i64 .i64 (bs.length : Int) (bs.length : Int) (by omega) (by omega) (by rw [iN4]; omega) (by omega)
            rw [iN3] at h
            exact h
          have hout := Out.made (P := fun _ => 0) HN.out.nodes hbl.symm HB.out.size (by unfold maxLen; omega)
          have hba := below_alloc (Below.refl wr.heap.size wr) (.cells (madeCells #[.slice none 0 0, .slice none 0 0, .slice none 0 0] (bs.length * 3)) 50)
          have HOUT := Aside0.mk hout
          have HFA := Aside0.mk (HF.out.1.below hba)
          have HBA := Aside0.mk (HB.out.alloc HB.out.size (.cells (madeCells #[.slice none 0 0, .slice none 0 0, .slice none 0 0] (bs.length * 3)) 50))
          have HTOLD := Aside0.mk HN.out.told
          clear hmk hout hba hi2 hWf hGl hbs hbn c1 gl g0 gk1 HK HF HN HB hbl iN1 iN2 iN3 iN4 HR0 hlen hc0
          go_wp2
          generalize wr.heap.size = R at HOUT ⊢
          generalize wr.alloc (.cells (madeCells #[.slice none 0 0, .slice none 0 0, .slice none 0 0] (bs.length * 3)) 50) = V0 at HOUT HFA HBA ⊢
          clear HMK
          obtain ⟨iI, iI1, iI2, iI3, iI4⟩ := info_of info3
          go_loopg [81] (bs.length + 1) (fun kq v81 wr3 => ∃ (i : Int) (inner : List Value) (P : Nat → Nat), v81 = .int .i64 i ∧ Aside0 (0 ≤ i ∧ i ≤ (bs.length : Int) ∧ i.toNat + kq = bs.length + 1) ∧ Aside0 (Out w.heap.size wr3 R bs.length G inner i.toNat P ∧ ∀ (k : Nat) (g : GN), k < i.toNat → G[k]? = some g → P k = g.nx.length) ∧ Aside0 (Flat kP 67 w.heap.size wr3 (.slice A6 bs.length c6) bs) ∧ Aside0 (Below w.heap.size w wr3))
          case atStart => exact ⟨0, _, _, rfl, ⟨by omega, by omega, by omega⟩, ⟨HOUT.out, fun k g h => absurd h (Nat.not_lt_zero k)⟩, HFA, HBA⟩
          case round =>
            clear HOUT HFA HBA
            obtain ⟨i3, inner, P, rfl, HK, HO, HFA, HB⟩ := hrel
            obtain ⟨g0, gl, gk1⟩ := HK.out
            by_cases c1 : i3 < (bs.length : Int)
            · obtain ⟨k1, rfl⟩ : ∃ k1, gk = k1 + 1 := ⟨gk - 1, by omega⟩
              have hw1 : IntKind.i64.wrap (i3 + 1) = i3 + 1 := by have := HBN.out; rw [IntKind.wrap_i64]; omega
              have c1d : decide (i3 < (bs.length : Int)) = true := decide_eq_true c1
              have c1c := eq_true c1
              have g0c := eq_true g0
              obtain ⟨ad6b, e6b, y6⟩ := at_ptr HFA.out.reads.2.2 i3 g0 c1
              subst e6b
              have hlt : i3.toNat < G.length := by rw [HO.out.1.many]; omega
              have hg : G[i3.toNat]? = some (G[i3.toNat]'hlt) := List.getElem?_eq_getElem hlt
              have hgb : bs.getD i3.toNat 0 = (G[i3.toNat]'hlt).b := by
                rw [← HBS.out]
                simp [List.getD_eq_getElem?_getD, List.getElem?_eq_getElem hlt]
              rw [hgb] at y6
              generalize G[i3.toNat]'hlt = g at *
              have HG := Aside0.mk hg
              have hOp := HO.out.1.open_ (by omega) hg
              have hgn := HO.out.1.nodes.cell _ g hg
              have y0 := (blk_cell hgn.1 0).trans rfl
              have y1 := (blk_cell hgn.1 1).trans rfl
              have y2 := (blk_cell hgn.1 2).trans rfl
              obtain ⟨AS, cS, eS⟩ := (HO.out.1.nodes.rs _ g hg).slice
              obtain ⟨AE, cE, eE⟩ := (HO.out.1.nodes.re _ g hg).slice
              rw [eS] at y0 hOp
              rw [eE] at y2 hOp
              obtain ⟨csR, hRl⟩ := HO.out.1.typed
              have hil := HO.out.1.len
              obtain ⟨v0, q0⟩ : ∃ v, wr.cell? ⟨R, i3.toNat * 3, none⟩ = some v := ⟨_, (HO.out.1.own.cellAt _ (by omega)).trans (List.getElem?_eq_getElem (by omega))⟩
              obtain ⟨v1, q1⟩ : ∃ v, wr.cell? ⟨R, i3.toNat * 3 + 1, none⟩ = some v := ⟨_, (HO.out.1.own.cellAt _ (by omega)).trans (List.getElem?_eq_getElem (by omega))⟩
              obtain ⟨v2, q2⟩ : ∃ v, wr.cell? ⟨R, i3.toNat * 3 + 2, none⟩ = some v := ⟨_, (HO.out.1.own.cellAt _ (by omega)).trans (List.getElem?_eq_getElem (by omega))⟩
              have f0 := blk_frozen hRl (i3.toNat * 3)
              have f1 := blk_frozen hRl (i3.toNat * 3 + 1)
              have f2 := blk_frozen hRl (i3.toNat * 3 + 2)
              have REL : Aside0 (0 ≤ i3 + 1 ∧ i3 + 1 ≤ (bs.length : Int) ∧ (i3 + 1).toNat + k1 = bs.length + 1) := ⟨by omega, by omega, by omega⟩
              have HI3 : Aside0 (0 ≤ i3 ∧ i3 < (bs.length : Int)) := ⟨g0, c1⟩
              have HOP := Aside0.mk (hOp.below (below_drew1 (Below.refl _ _)))
              have hK0 : Kept wr wr (fun k => k = R) := Kept.refl wr _
              have hK1 := (Kept.setCell (p := ⟨R, i3.toNat * 3 + 2, none⟩) (Kept.setCell (p := ⟨R, i3.toNat * 3 + 1, none⟩) (Kept.setCell (p := ⟨R, i3.toNat * 3, none⟩) hK0 (.inl rfl) (.slice AS g.st.length cS)) (.inl rfl) (.slice none 0 0)) (.inl rfl) (.slice AE g.en.length cE)).drew
              have HFA2 := Aside0.mk (HFA.out.kept hK1 (fun k hk e => by subst e; exact HFA.out.ne hRl (by decide) hk.symm))
              have HBR := HO.out.1.base
              have HB2 := Aside0.mk (((HB.out.setCell (p := ⟨R, i3.toNat * 3, none⟩) HBR (.slice AS g.st.length cS)).setCell (p := ⟨R, i3.toNat * 3 + 1, none⟩) HBR (.slice none 0 0)).setCell (p := ⟨R, i3.toNat * 3 + 2, none⟩) HBR (.slice AE g.en.length cE)).drew
              have HFULL := Aside0.mk HO.out.2
              clear HO hOp hlt hgb hg HK gl gk1 g0 c1
              have huN := Try.underlying50
              clear hil hgn hK0 hK1 HBR hRl
              go_wp2
              refine start_ (n := 13) (S := fun w' => w'.cell? ⟨g.b, 0, none⟩ = some (.slice AS g.st.length cS) ∧ w'.cell? ⟨g.b, 2, none⟩ = some (.slice AE g.en.length cE)) (ds := [12]) #[false, false, false, false, false, false, false, false, false, false, false, false, false] (by kernel_rfl) rfl rfl ⟨y0, y2⟩ (fun hHeld => ?_)
              refine pure_ (i := 0) (N := some 86) (v := ?_) (a' := ?_) #[true, false, false, false, false, false, false, false, false, false, false, false, false] rfl rfl (by kernel_rfl) (fun _ _ _ h => h) (Or.inl ⟨by rfl, ?_⟩) ?_ ?_
              rotate_left
              · intro w'
                go_simp
                with_reducible rfl
              rotate_left
              · simp only [Act.put, List.setIfInBounds_toArray, List.set_cons_zero, List.set_cons_succ, i64_w, i32_w]
                rfl
              refine pure_ (i := 1) (N := some 87) (v := ?_) (a' := ?_) #[true, true, false, false, false, false, false, false, false, false, false, false, false] rfl rfl (by kernel_rfl) (fun _ _ _ h => h) (Or.inl ⟨by rfl, ?_⟩) ?_ ?_
              rotate_left
              · intro w'
                go_simp
                with_reducible rfl
              rotate_left
              · simp only [Act.put, List.setIfInBounds_toArray, List.set_cons_zero, List.set_cons_succ, i64_w, i32_w]
                rfl
              refine pure_ (i := 2) (N := some 88) (v := ?_) (a' := ?_) #[true, true, true, false, false, false, false, false, false, false, false, false, false] rfl rfl (by kernel_rfl) (fun _ _ _ h => h) (Or.inl ⟨by rfl, ?_⟩) ?_ ?_
              rotate_left
              · intro w'
                go_simp
                with_reducible rfl
              rotate_left
              · simp only [Act.put, List.setIfInBounds_toArray, List.set_cons_zero, List.set_cons_succ, i64_w, i32_w]
                rfl
              refine pure_ (i := 3) (N := some 89) (v := ?_) (a' := ?_) #[true, true, true, true, false, false, false, false, false, false, false, false, false] rfl rfl (by kernel_rfl) (fun _ _ _ h => h) (Or.inl ⟨by rfl, ?_⟩) ?_ ?_
              rotate_left
              · intro w'
                go_simp
                with_reducible rfl
              rotate_left
              · simp only [Act.put, List.setIfInBounds_toArray, List.set_cons_zero, List.set_cons_succ, i64_w, i32_w]
                rfl
              refine pure_ (i := 4) (N := some 90) (v := ?_) (a' := ?_) #[true, true, true, true, true, false, false, false, false, false, false, false, false] rfl rfl (by kernel_rfl) (fun _ _ _ h => h) (Or.inl ⟨by rfl, ?_⟩) ?_ ?_
              rotate_left
              · intro w'
                go_simp
                with_reducible rfl
              rotate_left
              · simp only [Act.put, List.setIfInBounds_toArray, List.set_cons_zero, List.set_cons_succ, i64_w, i32_w]
                rfl
              refine pure_ (i := 6) (N := some 92) (v := ?_) (a' := ?_) #[true, true, true, true, true, false, true, false, false, false, false, false, false] rfl rfl (by kernel_rfl) (fun _ _ _ h => h) (Or.inl ⟨by rfl, ?_⟩) ?_ ?_
              rotate_left
              · intro w'
                go_simp
                with_reducible rfl
              rotate_left
              · simp only [Act.put, List.setIfInBounds_toArray, List.set_cons_zero, List.set_cons_succ, i64_w, i32_w]
                rfl
              refine pure_ (i := 7) (N := some 93) (v := ?_) (a' := ?_) #[true, true, true, true, true, false, true, true, false, false, false, false, false] rfl rfl (by kernel_rfl) (fun _ _ _ h => h) (Or.inl ⟨by rfl, ?_⟩) ?_ ?_
              rotate_left
              · intro w'
                go_simp
                with_reducible rfl
              rotate_left
              · simp only [Act.put, List.setIfInBounds_toArray, List.set_cons_zero, List.set_cons_succ, i64_w, i32_w]
                rfl
              refine pure_ (i := 8) (N := some 94) (v := ?_) (a' := ?_) #[true, true, true, true, true, false, true, true, true, false, false, false, false] rfl rfl (by kernel_rfl) (fun _ _ _ h => h) (Or.inl ⟨by rfl, ?_⟩) ?_ ?_
              rotate_left
              · intro w'
                go_simp
                with_reducible rfl
              rotate_left
              · simp only [Act.put, List.setIfInBounds_toArray, List.set_cons_zero, List.set_cons_succ, i64_w, i32_w]
                rfl
              refine take_ (i := 5) (N := some 91) (v := ?_) (a' := ?_) #[true, true, true, true, true, true, true, true, true, false, false, false, false] rfl rfl (by kernel_rfl) (fun _ _ _ h => h) (Or.inl ⟨by rfl, ?_⟩) hHeld ?_ ?_
              rotate_left
              · rintro w' ⟨s0, s1⟩
                go_simp
                with_reducible rfl
              rotate_left
              · simp only [Act.put, List.setIfInBounds_toArray, List.set_cons_zero, List.set_cons_succ, i64_w, i32_w]
                rfl
              refine take_ (i := 9) (N := some 95) (v := ?_) (a' := ?_) #[true, true, true, true, true, true, true, true, true, true, false, false, false] rfl rfl (by kernel_rfl) (fun _ _ _ h => h) (Or.inl ⟨by rfl, ?_⟩) hHeld ?_ ?_
              rotate_left
              · rintro w' ⟨s0, s1⟩
                go_simp
                with_reducible rfl
              rotate_left
              · simp only [Act.put, List.setIfInBounds_toArray, List.set_cons_zero, List.set_cons_succ, i64_w, i32_w]
                rfl
              refine pure_ (i := 10) (N := some 96) (v := ?_) (a' := ?_) #[true, true, true, true, true, true, true, true, true, true, true, false, false] rfl rfl (by kernel_rfl) (fun _ _ _ h => h) (Or.inl ⟨by rfl, ?_⟩) ?_ ?_
              rotate_left
              · intro w'
                go_simp
                with_reducible rfl
              rotate_left
              · simp only [Act.put, List.setIfInBounds_toArray, List.set_cons_zero, List.set_cons_succ, i64_w, i32_w]
                rfl
              refine pure_ (i := 11) (N := some 97) (v := ?_) (a' := ?_) #[true, true, true, true, true, true, true, true, true, true, true, true, false] rfl rfl (by kernel_rfl) (fun _ _ _ h => h) (Or.inl ⟨by rfl, ?_⟩) ?_ ?_
              rotate_left
              · intro w'
                go_simp
                with_reducible rfl
              rotate_left
              · simp only [Act.put, List.setIfInBounds_toArray, List.set_cons_zero, List.set_cons_succ, i64_w, i32_w]
                rfl
              refine last_ (i := 12) (N := none) #[true, true, true, true, true, true, true, true, true, true, true, true, true] rfl rfl (by kernel_rfl) (by decide) (fun K hK => ?_)
              refine skip_ (w1 := ?_) (by rfl) rfl ?_ ?_
              rotate_left
              · go_simp
                rfl
              refine hK.out _ _ ?_
              clear hK K
              refine done_ (by kernel_rfl) ?_
              generalize ((((wr.setCell ⟨R, i3.toNat * 3, none⟩ (.slice AS g.st.length cS)).setCell ⟨R, i3.toNat * 3 + 1, none⟩ (.slice none 0 0)).setCell ⟨R, i3.toNat * 3 + 2, none⟩ (.slice AE g.en.length cE))).drew = V at HOP HFA2 HB2 ⊢
              generalize (((inner.set (i3.toNat * 3) (.slice AS g.st.length cS)).set (i3.toNat * 3 + 1) (.slice none 0 0)).set (i3.toNat * 3 + 2) (.slice AE g.en.length cE)) = inn1 at HOP
              obtain ⟨bT, hT, hT1, hT2⟩ := HOP.out.nodes.rt _ g HG.out
              obtain ⟨AT, cT, eT⟩ := hT.slice
              have w1 := (blk_cell (HOP.out.nodes.cell _ g HG.out).1 1).trans rfl
              rw [eT] at w1 hT
              have HT := Aside0.mk hT
              have HT1 := Aside0.mk hT1
              have HT2 := Aside0.mk hT2
              have hTm : bT.length ≤ 9223372036854775807 := Kd.C_max hT.reads.2.2
              clear hT hT1 hT2 q0 q1 q2 f0 f1 f2 y0 y1 y2 HB HFA
              go_wp2
              go_loopg [103] (bT.length + 1) (fun kq v103 wr4 => ∃ (j : Int) (inner : List Value) (P : Nat → Nat), v103 = .int .i64 j ∧ Aside0 (0 ≤ j ∧ j ≤ (bT.length : Int) ∧ j.toNat + kq = bT.length + 1) ∧ Aside0 (Out w.heap.size wr4 R bs.length G inner (i3.toNat + 1) P ∧ P i3.toNat = j.toNat ∧ ∀ (k : Nat) (g : GN), k < i3.toNat → G[k]? = some g → P k = g.nx.length) ∧ Aside0 (Flat kP 67 w.heap.size wr4 (.slice (some ad6b) bs.length c6) bs) ∧ Aside0 (Flat kP 67 w.heap.size wr4 (.slice AT bT.length cT) bT) ∧ Aside0 (Below w.heap.size w wr4))
              case atStart => exact ⟨0, _, _, rfl, ⟨by omega, by omega, by omega⟩, ⟨HOP.out, by simp, fun k g h1 h2 => by show (if k = i3.toNat then 0 else P k) = _; rw [if_neg (by omega)]; exact HFULL.out k g h1 h2⟩, HFA2, HT, HB2⟩
              case round =>
                clear HOP HFA2 HT HB2 w1
                obtain ⟨j, inner, P, rfl, HK, HO, HFA, HT, HB⟩ := hrel
                obtain ⟨g0, gl, gk2⟩ := HK.out
                by_cases c1 : j < (bT.length : Int)
                · obtain ⟨k2, rfl⟩ : ∃ k2, gk = k2 + 1 := ⟨gk - 1, by omega⟩
                  have hw2 : IntKind.i64.wrap (j + 1) = j + 1 := by rw [IntKind.wrap_i64]; omega
                  have c2d : decide (j < (bT.length : Int)) = true := decide_eq_true c1
                  have c2c := eq_true c1
                  have g2c := eq_true g0
                  obtain ⟨adT, eTT, yT⟩ := at_ptr HT.out.reads.2.2 j g0 c1
                  subst eTT
                  have hnl : j.toNat < g.nx.length := by rw [← HT1.out]; omega
                  obtain ⟨x, hx⟩ : ∃ x, g.nx[j.toNat]? = some x := ⟨_, List.getElem?_eq_getElem hnl⟩
                  obtain ⟨h3, hh3, hb3⟩ := HT2.out j.toNat x hx
                  have hbt : bT.getD j.toNat 0 = h3.b := by rw [List.getD_eq_getElem?_getD, hb3]; rfl
                  rw [hbt] at yT
                  obtain ⟨x3, hx3⟩ : ∃ x3 : Int, x3 = (x : Int) := ⟨_, rfl⟩
                  have z3 : wr.cell? ⟨h3.b, 3, none⟩ = some (.int .i64 x3) := by rw [hx3]; exact (blk_cell (HO.out.1.nodes.cell _ h3 hh3).1 3).trans rfl
                  obtain ⟨_, _, u, hu, hFu⟩ := HO.out.1.set_ i3.toNat g (by omega) HG.out
                  rw [HO.out.2.1] at hFu
                  obtain ⟨lu, hlu⟩ : ∃ lu, castN (g.nx.take j.toNat) = lu := ⟨_, rfl⟩
                  rw [hlu] at hFu
                  obtain ⟨AU, cU, hsu⟩ := hFu.slice
                  subst hsu
                  have hil := HO.out.1.len
                  have hiG : i3.toNat < bs.length := by rw [← HO.out.1.many]; exact (List.getElem?_eq_some_iff.1 HG.out).1
                  have z0 : wr.cell? ⟨R, i3.toNat * 3 + 1, none⟩ = some (.slice AU lu.length cU) := (HO.out.1.own.cellAt _ (by omega)).trans hu
                  obtain ⟨csR, hRl⟩ := HO.out.1.typed
                  have hRu : some R ≠ Value.ownBlock (.slice AU lu.length cU) := hFu.ne hRl (by decide)
                  have FR : Aside0 (∀ w', wr.grownBy w' (Value.ownBlock (.slice AU lu.length cU)) → w'.cell? ⟨R, i3.toNat * 3 + 1, none⟩ = some (.slice AU lu.length cU) ∧ w'.frozen? ⟨R, i3.toNat * 3 + 1, none⟩ = false) := ⟨fun w' hg => ⟨cell_grown hg z0 hRu, blk_frozen (blk_grown hRl hg hRu) _⟩⟩
                  have FU := Aside0.mk hFu
                  have hlul : lu.length ≤ g.nx.length := by rw [← hlu]; unfold castN; rw [List.length_map, List.length_take]; omega
                  have hgx : g.nx.length ≤ 1000000000 := by
                    have hm : g.abs ∈ buildN l0 l0.length := by rw [← HTOLD.out]; exact List.mem_map_of_mem (List.mem_of_getElem? HG.out)
                    have h1 := HWF.out.each _ hm
                    have h2 := HTOT.out
                    have h3 : g.nx.length = g.st.length := h1.2.1
                    have h4 : g.st.length ≤ totP l0 l0.length := h1.1
                    omega
                  have HLU : Aside0 (lu.length + 1 ≤ maxLen ∧ (lu.length + 1) * 8 ≤ 140737488355328) := ⟨by unfold maxLen; omega⟩
                  have HX := Aside0.mk (And.intro hx (And.intro hlu hx3))
                  have HU := Aside0.mk hu
                  have HIG := Aside0.mk hiG
                  have HRL := Aside0.mk hRl
                  have REL2 : Aside0 (0 ≤ j + 1 ∧ j + 1 ≤ (bT.length : Int) ∧ (j + 1).toNat + k2 = bT.length + 1) := ⟨by omega, by omega, by omega⟩
                  have c1c := eq_true HI3.out.2
                  have g3c := eq_true HI3.out.1
                  have HBV := HB
                  clear hFu hlul hgx hx hlu hx3 hu hil hiG hRl hRu hbt hnl hb3 hh3 c1 g0 gl gk2 HK
                  go_wp2
                  refine start_ (n := 16) (S := fun w' => w'.cell? ⟨R, i3.toNat * 3 + 1, none⟩ = some (.slice AU lu.length cU) ∧ w'.cell? ⟨h3.b, 3, none⟩ = some (.int .i64 x3)) (ds := [12, 15]) #[false, false, false, false, false, false, false, false, false, false, false, false, false, false, false, false] (by kernel_rfl) rfl rfl ⟨z0, z3⟩ (fun hHeld => ?_)
                  refine pure_ (i := 0) (N := some 107) (v := ?_) (a' := ?_) #[true, false, false, false, false, false, false, false, false, false, false, false, false, false, false, false] rfl rfl (by kernel_rfl) (fun _ _ _ h => h) (Or.inl ⟨by rfl, ?_⟩) ?_ ?_
                  rotate_left
                  · intro w'
                    go_simp
                    with_reducible rfl
                  rotate_left
                  · simp only [Act.put, List.setIfInBounds_toArray, List.set_cons_zero, List.set_cons_succ, i64_w, i32_w]
                    rfl
                  refine pure_ (i := 1) (N := some 108) (v := ?_) (a' := ?_) #[true, true, false, false, false, false, false, false, false, false, false, false, false, false, false, false] rfl rfl (by kernel_rfl) (fun _ _ _ h => h) (Or.inl ⟨by rfl, ?_⟩) ?_ ?_
                  rotate_left
                  · intro w'
                    go_simp
                    with_reducible rfl
                  rotate_left
                  · simp only [Act.put, List.setIfInBounds_toArray, List.set_cons_zero, List.set_cons_succ, i64_w, i32_w]
                    rfl
                  refine pure_ (i := 2) (N := some 109) (v := ?_) (a' := ?_) #[true, true, true, false, false, false, false, false, false, false, false, false, false, false, false, false] rfl rfl (by kernel_rfl) (fun _ _ _ h => h) (Or.inl ⟨by rfl, ?_⟩) ?_ ?_
                  rotate_left
                  · intro w'
                    go_simp
                    with_reducible rfl
                  rotate_left
                  · simp only [Act.put, List.setIfInBounds_toArray, List.set_cons_zero, List.set_cons_succ, i64_w, i32_w]
                    rfl
                  refine pure_ (i := 3) (N := some 110) (v := ?_) (a' := ?_) #[true, true, true, true, false, false, false, false, false, false, false, false, false, false, false, false] rfl rfl (by kernel_rfl) (fun _ _ _ h => h) (Or.inl ⟨by rfl, ?_⟩) ?_ ?_
                  rotate_left
                  · intro w'
                    go_simp
                    with_reducible rfl
                  rotate_left
                  · simp only [Act.put, List.setIfInBounds_toArray, List.set_cons_zero, List.set_cons_succ, i64_w, i32_w]
                    rfl
                  refine pure_ (i := 4) (N := some 111) (v := ?_) (a' := ?_) #[true, true, true, true, true, false, false, false, false, false, false, false, false, false, false, false] rfl rfl (by kernel_rfl) (fun _ _ _ h => h) (Or.inl ⟨by rfl, ?_⟩) ?_ ?_
                  rotate_left
                  · intro w'
                    go_simp
                    with_reducible rfl
                  rotate_left
                  · simp only [Act.put, List.setIfInBounds_toArray, List.set_cons_zero, List.set_cons_succ, i64_w, i32_w]
                    rfl
                  refine pure_ (i := 5) (N := some 112) (v := ?_) (a' := ?_) #[true, true, true, true, true, true, false, false, false, false, false, false, false, false, false, false] rfl rfl (by kernel_rfl) (fun _ _ _ h => h) (Or.inl ⟨by rfl, ?_⟩) ?_ ?_
                  rotate_left
                  · intro w'
                    go_simp
                    with_reducible rfl
                  rotate_left
                  · simp only [Act.put, List.setIfInBounds_toArray, List.set_cons_zero, List.set_cons_succ, i64_w, i32_w]
                    rfl
                  refine pure_ (i := 7) (N := some 114) (v := ?_) (a' := ?_) #[true, true, true, true, true, true, false, true, false, false, false, false, false, false, false, false] rfl rfl (by kernel_rfl) (fun _ _ _ h => h) (Or.inl ⟨by rfl, ?_⟩) ?_ ?_
                  rotate_left
                  · intro w'
                    go_simp
                    with_reducible rfl
                  rotate_left
                  · simp only [Act.put, List.setIfInBounds_toArray, List.set_cons_zero, List.set_cons_succ, i64_w, i32_w]
                    rfl
                  refine pure_ (i := 8) (N := some 115) (v := ?_) (a' := ?_) #[true, true, true, true, true, true, false, true, true, false, false, false, false, false, false, false] rfl rfl (by kernel_rfl) (fun _ _ _ h => h) (Or.inl ⟨by rfl, ?_⟩) ?_ ?_
                  rotate_left
                  · intro w'
                    go_simp
                    with_reducible rfl
                  rotate_left
                  · simp only [Act.put, List.setIfInBounds_toArray, List.set_cons_zero, List.set_cons_succ, i64_w, i32_w]
                    rfl
                  refine pure_ (i := 9) (N := some 116) (v := ?_) (a' := ?_) #[true, true, true, true, true, true, false, true, true, true, false, false, false, false, false, false] rfl rfl (by kernel_rfl) (fun _ _ _ h => h) (Or.inl ⟨by rfl, ?_⟩) ?_ ?_
                  rotate_left
                  · intro w'
                    go_simp
                    with_reducible rfl
                  rotate_left
                  · simp only [Act.put, List.setIfInBounds_toArray, List.set_cons_zero, List.set_cons_succ, i64_w, i32_w]
                    rfl
                  refine take_ (i := 6) (N := some 113) (v := ?_) (a' := ?_) #[true, true, true, true, true, true, true, true, true, true, false, false, false, false, false, false] rfl rfl (by kernel_rfl) (fun _ _ _ h => h) (Or.inl ⟨by rfl, ?_⟩) hHeld ?_ ?_
                  rotate_left
                  · rintro w' ⟨s0, s1⟩
                    go_simp
                    with_reducible rfl
                  rotate_left
                  · simp only [Act.put, List.setIfInBounds_toArray, List.set_cons_zero, List.set_cons_succ, i64_w, i32_w]
                    rfl
                  refine take_ (i := 10) (N := some 117) (v := ?_) (a' := ?_) #[true, true, true, true, true, true, true, true, true, true, true, false, false, false, false, false] rfl rfl (by kernel_rfl) (fun _ _ _ h => h) (Or.inl ⟨by rfl, ?_⟩) hHeld ?_ ?_
                  rotate_left
                  · rintro w' ⟨s0, s1⟩
                    go_simp
                    with_reducible rfl
                  rotate_left
                  · simp only [Act.put, List.setIfInBounds_toArray, List.set_cons_zero, List.set_cons_succ, i64_w, i32_w]
                    rfl
                  refine one_ (i := 11) (N := some 118) #[true, true, true, true, true, true, true, true, true, true, true, true, false, false, false, false] rfl rfl (by kernel_rfl) (by decide) (fun K hK => ?_)
                  refine value_ (w1 := ?_) (v := ?_) (by rfl) rfl ?_ ?_
                  rotate_left 2
                  · go_simp
                    constructor
                    · rfl
                    · rfl
                  refine hK.out _ _ ⟨(cell_grown ((grown_drew9 wr none).trans (World.grownBy_alloc _ _ none)) z0 (by simp)), (cell_grown ((grown_drew9 wr none).trans (World.grownBy_alloc _ _ none)) z3 (by simp))⟩ (fun hHeld => ?_)
                  clear hK K
                  refine norm_ (a' := ?_) ?_ ?_
                  rotate_left
                  · show Act.put _ (some 118) _ = _
                    simp only [Act.put, List.setIfInBounds_toArray, List.set_cons_zero, List.set_cons_succ, i64_w, i32_w]
                    rfl
                  refine last_ (i := 12) (N := some 119) #[true, true, true, true, true, true, true, true, true, true, true, true, true, false, false, false] rfl rfl (by kernel_rfl) (by decide) (fun K hK => ?_)
                  refine step_append_flat (d := Kd.int .i64) rfl (.tmp 113) (.tmp 118) 32 rfl w.heap.size 3 iI _ 8 Try.underlying32 iI1 iI2 iI3 iI4 rfl (by decide) (.slice AU lu.length cU) lu (by rfl) (FU.out.grown (row := none) ((grown_drew9 wr none).trans (World.grownBy_alloc _ _ none)) (fun _ h => by cases h)) x3 _ rfl wr.heap.size _ 3 (by rfl) (blk_new9 rfl) HLU.out.1 HLU.out.2 (Nat.le_trans HBV.out.size ((grown_drew9 wr none).trans (World.grownBy_alloc _ _ none)).size) ?_
                  intro gA cA w3 hF3 hG3 hA3 hl3
                  have hGG := World.grownBy.trans ((grown_drew9 wr _).trans (World.grownBy_alloc _ _ _)) hG3
                  obtain ⟨k3, f3⟩ := FR.out w3 hGG
                  refine hK.out _ _ ?_
                  clear hK K
                  refine norm_ (a' := ?_) ?_ ?_
                  rotate_left
                  · show Act.put _ (some 119) _ = _
                    simp only [Act.put, List.setIfInBounds_toArray, List.set_cons_zero, List.set_cons_succ, i64_w, i32_w]
                    rfl
                  refine pure_ (i := 13) (N := some 120) (v := ?_) (a' := ?_) #[true, true, true, true, true, true, true, true, true, true, true, true, true, true, false, false] rfl rfl (by kernel_rfl) (fun _ _ _ h => h) (Or.inl ⟨by rfl, ?_⟩) ?_ ?_
                  rotate_left
                  · intro w'
                    go_simp
                    with_reducible rfl
                  rotate_left
                  · simp only [Act.put, List.setIfInBounds_toArray, List.set_cons_zero, List.set_cons_succ, i64_w, i32_w]
                    rfl
                  refine pure_ (i := 14) (N := some 121) (v := ?_) (a' := ?_) #[true, true, true, true, true, true, true, true, true, true, true, true, true, true, true, false] rfl rfl (by kernel_rfl) (fun _ _ _ h => h) (Or.inl ⟨by rfl, ?_⟩) ?_ ?_
                  rotate_left
                  · intro w'
                    go_simp
                    with_reducible rfl
                  rotate_left
                  · simp only [Act.put, List.setIfInBounds_toArray, List.set_cons_zero, List.set_cons_succ, i64_w, i32_w]
                    rfl
                  refine last_ (i := 15) (N := none) #[true, true, true, true, true, true, true, true, true, true, true, true, true, true, true, true] rfl rfl (by kernel_rfl) (by decide) (fun K hK => ?_)
                  refine skip_ (w1 := ?_) (by rfl) rfl ?_ ?_
                  rotate_left
                  · go_simp
                    rfl
                  refine hK.out _ _ ?_
                  clear hK K
                  refine done_ (by kernel_rfl) ?_
                  have hbx : Below wr.heap.size wr (wr.alloc (.cells #[.int .i64 x3] 3)).drew := below_drew1 (below_alloc (Below.refl _ _) _)
                  have hn3 : Near (wr.alloc (.cells #[.int .i64 x3] 3)).drew (.slice (some ⟨gA, 0, none⟩) (lu.length + 1) cA) (.slice AU lu.length cU) := hA3.elim (fun h => .inl (by rw [h]; rfl)) (fun h => .inr ⟨gA, rfl, Nat.le_of_eq h.symm⟩)
                  have hP := (HO.out.1.below hbx).push_ (i := i3.toNat) (u' := .slice (some ⟨gA, 0, none⟩) (lu.length + 1) cA) (Nat.lt_succ_self _) HIG.out HG.out HU.out (by rw [HO.out.2.1, HX.out.2.1, ← HX.out.2.2]; exact hF3) hG3 hn3 (by rw [HO.out.2.1]; exact HX.out.1)
                  have hK1 : Kept wr w3 (fun k => k = R ∨ some k = Value.ownBlock (.slice AU lu.length cU)) := Kept.of_grown hGG (Kept.refl _ _) (fun k hk => .inl (.inr hk.symm))
                  have hK2 := Kept.setCell (p := ⟨R, i3.toNat * 3 + 1, none⟩) hK1 (.inl (.inl rfl)) (.slice (some ⟨gA, 0, none⟩) (lu.length + 1) cA)
                  have M1 := Aside0.mk (HFA.out.kept hK2 (fun k hk e => e.elim (fun e => by subst e; exact HFA.out.ne HRL.out (by decide) hk.symm) (fun e => HFA.out.apart FU.out (by decide) k hk e)))
                  have M2 := Aside0.mk (HT.out.kept hK2 (fun k hk e => e.elim (fun e => by subst e; exact HT.out.ne HRL.out (by decide) hk.symm) (fun e => HT.out.apart FU.out (by decide) k hk e)))
                  have M3 := Aside0.mk (Below.setCell (p := ⟨R, i3.toNat * 3 + 1, none⟩) (pw_below_grown HB.out _ HB.out.size hGG FU.out.base) HO.out.1.base (.slice (some ⟨gA, 0, none⟩) (lu.length + 1) cA))
                  have MP := Aside0.mk hP
                  have hpj : P i3.toNat + 1 = (j + 1).toNat := by
                    rw [HO.out.2.1]
                    have := REL2.out
                    have h0 : 0 ≤ j := of_eq_true g2c
                    omega
                  have MJ := Aside0.mk hpj
                  have MF := Aside0.mk HO.out.2.2
                  clear hbx hn3 hP hK1 hK2 hpj hF3 hG3 hA3 hl3 hGG k3 f3 HO HFA HT HB HBV FU FR HLU HX HU hHeld z0 z3 yT
                  go_wp2
                  go_roundg k2
                  case measure => omega
                  case rel => exact ⟨j + 1, _, _, rfl, REL2, ⟨MP.out, (if_pos rfl).trans MJ.out, fun k g h1 h2 => by show (if k = i3.toNat then _ else P k) = _; rw [if_neg (by omega)]; exact MF.out k g h1 h2⟩, M1, M2, M3⟩
                · have c2d : decide (j < (bT.length : Int)) = false := decide_eq_false c1
                  have hj : j.toNat = g.nx.length := by rw [← HT1.out]; omega
                  have hi1 : (i3 + 1).toNat = i3.toNat + 1 := by have := HI3.out; omega
                  have MO : Aside0 (Out w.heap.size wr R bs.length G inner (i3 + 1).toNat P ∧ ∀ (k : Nat) (g : GN), k < (i3 + 1).toNat → G[k]? = some g → P k = g.nx.length) := ⟨by
                    rw [hi1]
                    refine ⟨HO.out.1, fun k q h1 h2 => ?_⟩
                    by_cases hk : k = i3.toNat
                    · subst hk
                      rw [HG.out] at h2
                      obtain rfl := Option.some.inj h2
                      rw [HO.out.2.1, hj]
                    · exact HO.out.2.2 k q (by omega) h2⟩
                  clear HO HT hj hi1 c1 g0 gl gk2 HK
                  go_wp2
                  go_roundg k1
                  case measure => omega
                  case rel => exact ⟨i3 + 1, _, _, rfl, REL, MO, HFA, HB⟩
            · have c1d : decide (i3 < (bs.length : Int)) = false := decide_eq_false c1
              have hi3 : i3.toNat = bs.length := by omega
              rw [hi3] at HO
              have hr := HO.out.1.share HO.out.2 HTOLD.out (by have := HBN.out; omega)
              have hol : (outP (buildN l0 l0.length)).length = bs.length := by
                rw [← HO.out.1.many, ← HTOLD.out]
                simp [outP]
              have HR := Aside0.mk hr
              have HOL := Aside0.mk hol
              clear HO hr hol hi3 c1 g0 gl gk1 HK
              go_wp2
              go_ret2
              rw [HEND.out]
              exact ⟨_, rfl, HR.out, HB.out⟩
/-- Build, in the form of the print. -/
def trie_Build.f (l : List (List S53)) : Option (List S50 × Int) := if (∀ p ∈ l, ∀ s ∈ p, smallS s) ∧ totP l l.length ≤ 1000000000 then some (trie_Build.g l) else none
theorem trie_Build.calls (A0 : Option Addr) (c0 : Nat) (l0 : List (List S53)) (r1 : List S50) (r2 : Int) (w : World) (hr0 : Kd.C (Kd.slice 53 k53) w A0 l0.length l0) (hc0 : l0.length ≤ c0) (h : trie_Build.f l0 = some (r1, r2)) :
    Calls Try.prog 10 #[.slice A0 l0.length c0] w fun e w' => ∃ v0_ : Value, e = .returned (.tuple #[v0_, .int .i64 r2]) ∧ Kd.S k50 50 w' w.heap.size (fun _ => True) v0_ r1 ∧ Below w.heap.size w w' := by
  unfold trie_Build.f at h
  by_cases hc : (∀ p ∈ l0, ∀ s ∈ p, smallS s) ∧ totP l0 l0.length ≤ 1000000000
  · rw [if_pos hc] at h
    have hg := Option.some.inj h
    refine (trie_Build_calls A0 c0 l0 w hr0 hc0 hc.1 hc.2).mono ?_
    rintro e w' ⟨v, rfl, h1, h2⟩
    rw [hg] at h1 ⊢
    exact ⟨v, rfl, h1, h2⟩
  · rw [if_neg hc] at h
    cases h
end Go.Proofs.Ythlneooboiphdaa.PTrieShares
