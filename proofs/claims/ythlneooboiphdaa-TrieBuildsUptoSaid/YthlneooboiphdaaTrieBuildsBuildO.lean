/- trie.Build: the row that goes out, while it is filled. -/
import Derived.Test.YthlneooboiphdaaTrieBuildsBuildA
set_option linter.unusedVariables false
set_option linter.unusedSimpArgs false
namespace Go.Proofs.Ythlneooboiphdaa.PTrieBuilds
open Go.RowKit Go.Proofs.Ythlneooboiphdaa Go.Proofs.YthlneooboiphdaaW.PrintWords Go.Proofs.YthlneooboiphdaaW.PrintLast Go.Proofs.YthlneooboiphdaaW.PrintMore
theorem Nodes.keptS {base : Nat} {w X : World} {G : List GN} {S : Nat → Prop} (hN : Nodes base w G) (hk : Kept w X S)
    (hS : ∀ (i : Nat) (g : GN), G[i]? = some g → ¬ S g.b ∧ (∀ k, g.vS.ownBlock = some k → ¬ S k) ∧ (∀ k, g.vT.ownBlock = some k → ¬ S k) ∧ (∀ k, g.vE.ownBlock = some k → ¬ S k)) : Nodes base X G where
  cell := fun i g hi => ⟨blk_kept (hN.cell i g hi).1 hk (hS i g hi).1, (hN.cell i g hi).2⟩
  rs := fun i g hi => (hN.rs i g hi).kept hk (hS i g hi).2.1
  rt := fun i g hi => by
    obtain ⟨bs, h1, h2, h3⟩ := hN.rt i g hi
    exact ⟨bs, h1.kept hk (hS i g hi).2.2.1, h2, h3⟩
  re := fun i g hi => (hN.re i g hi).kept hk (hS i g hi).2.2.2
  sep := hN.sep
def castN (l : List Nat) : List Int := l.map (fun (x : Nat) => (x : Int))
structure Out (base : Nat) (W : World) (R n : Nat) (G : List GN) (inner : List Value) (m : Nat) (P : Nat → Nat) : Prop where
  own : W.ownsRow base 50 3 (.slice (some ⟨R, 0, none⟩) n n) n inner
  nodes : Nodes base W G
  many : G.length = n
  set_ : ∀ (k : Nat) (g : GN), k < m → G[k]? = some g → inner[k * 3]? = some g.vS ∧ inner[k * 3 + 2]? = some g.vE ∧ ∃ u, inner[k * 3 + 1]? = some u ∧ Flat (Kd.int .i64) 3 base W u (castN (g.nx.take (P k)))
  apart : ∀ (k k' : Nat) (u u' : Value), k ≠ k' → k < m → k' < m → inner[k * 3 + 1]? = some u → inner[k' * 3 + 1]? = some u' → ∀ b, u.ownBlock = some b → some b ≠ u'.ownBlock
  apartE : ∀ (k i : Nat) (u : Value) (g : GN), k < m → inner[k * 3 + 1]? = some u → G[i]? = some g → ∀ b, u.ownBlock = some b → some b ≠ g.vE.ownBlock
theorem Out.typed {base R n m : Nat} {W : World} {G : List GN} {inner : List Value} {P : Nat → Nat} (h : Out base W R n G inner m P) : ∃ cells, W.heap[R]? = some (.cells cells 50 (0, 0)) := own_typed h.own R rfl
theorem Out.base {base R n m : Nat} {W : World} {G : List GN} {inner : List Value} {P : Nat → Nat} (h : Out base W R n G inner m P) : base ≤ R := own_base h.own R rfl
theorem Out.len {base R n m : Nat} {W : World} {G : List GN} {inner : List Value} {P : Nat → Nat} (h : Out base W R n G inner m P) : inner.length = n * 3 := h.own.1
theorem Out.below {base R n m : Nat} {W W1 : World} {G : List GN} {inner : List Value} {P : Nat → Nat} (h : Out base W R n G inner m P) (hb : Below W.heap.size W W1) : Out base W1 R n G inner m P where
  own := pw_own_below h.own hb
  nodes := h.nodes.below hb
  many := h.many
  set_ := fun k g hk hg => by
    obtain ⟨h1, h2, u, h3, h4⟩ := h.set_ k g hk hg
    exact ⟨h1, h2, u, h3, h4.below hb⟩
  apart := h.apart
  apartE := h.apartE
/-- No node's block, and none of its rows, is of the row that goes out. -/
theorem Out.nodesFar {base R n m : Nat} {W : World} {G : List GN} {inner : List Value} {P : Nat → Nat} (h : Out base W R n G inner m P) (i : Nat) (g : GN) (hi : G[i]? = some g) :
    ¬ g.b = R ∧ (∀ k, g.vS.ownBlock = some k → ¬ k = R) ∧ (∀ k, g.vT.ownBlock = some k → ¬ k = R) ∧ (∀ k, g.vE.ownBlock = some k → ¬ k = R) := by
  obtain ⟨cells, hc⟩ := h.typed
  obtain ⟨bs, h1, _, _⟩ := h.nodes.rt i g hi
  refine ⟨fun e => ?_, fun k hk e => ?_, fun k hk e => ?_, fun k hk e => ?_⟩
  · have h2 := (h.nodes.cell i g hi).1
    rw [e, hc] at h2
    injection h2 with h2
    injection h2 with _ h2
    exact absurd h2 (by decide)
  · subst e
    exact (h.nodes.rs i g hi).ne hc (by decide) hk.symm
  · subst e
    exact h1.ne hc (by decide) hk.symm
  · subst e
    exact (h.nodes.re i g hi).ne hc (by decide) hk.symm
theorem set3_far {l : List Value} {a b c j : Nat} {x y z : Value} (h1 : a ≠ j) (h2 : b ≠ j) (h3 : c ≠ j) : (((l.set a x).set b y).set c z)[j]? = l[j]? := by
  rw [List.getElem?_set_ne h3, List.getElem?_set_ne h2, List.getElem?_set_ne h1]
/-- A row of the node is opened. -/
theorem Out.open_ {base R n m : Nat} {W : World} {G : List GN} {inner : List Value} {P : Nat → Nat} {g : GN} (h : Out base W R n G inner m P) (hm : m < n) (hg : G[m]? = some g) :
    Out base (((W.setCell ⟨R, m * 3, none⟩ g.vS).setCell ⟨R, m * 3 + 1, none⟩ (.slice none 0 0)).setCell ⟨R, m * 3 + 2, none⟩ g.vE) R n G (((inner.set (m * 3) g.vS).set (m * 3 + 1) (.slice none 0 0)).set (m * 3 + 2) g.vE) (m + 1) (fun k => if k = m then 0 else P k) := by
  have hl := h.len
  have o1 := (h.own.stored (m * 3) g.vS).1
  have o2 := (o1.stored (m * 3 + 1) (.slice none 0 0)).1
  have o3 := (o2.stored (m * 3 + 2) g.vE).1
  have hk : Kept W (((W.setCell ⟨R, m * 3, none⟩ g.vS).setCell ⟨R, m * 3 + 1, none⟩ (.slice none 0 0)).setCell ⟨R, m * 3 + 2, none⟩ g.vE) (fun k => k = R) := by
    have k0 : Kept W W (fun k => k = R) := Kept.refl W _
    have k1 := Kept.setCell (p := ⟨R, m * 3, none⟩) k0 (.inl rfl) g.vS
    have k2 := Kept.setCell (p := ⟨R, m * 3 + 1, none⟩) k1 (.inl rfl) (.slice none 0 0)
    exact Kept.setCell (p := ⟨R, m * 3 + 2, none⟩) k2 (.inl rfl) g.vE
  obtain ⟨cells, hc⟩ := h.typed
  have far : ∀ k : Nat, k < m → (((inner.set (m * 3) g.vS).set (m * 3 + 1) (.slice none 0 0)).set (m * 3 + 2) g.vE)[k * 3]? = inner[k * 3]? ∧ (((inner.set (m * 3) g.vS).set (m * 3 + 1) (.slice none 0 0)).set (m * 3 + 2) g.vE)[k * 3 + 1]? = inner[k * 3 + 1]? ∧ (((inner.set (m * 3) g.vS).set (m * 3 + 1) (.slice none 0 0)).set (m * 3 + 2) g.vE)[k * 3 + 2]? = inner[k * 3 + 2]? := fun k hk =>
    ⟨set3_far (by omega) (by omega) (by omega), set3_far (by omega) (by omega) (by omega), set3_far (by omega) (by omega) (by omega)⟩
  have at1 : (((inner.set (m * 3) g.vS).set (m * 3 + 1) (.slice none 0 0)).set (m * 3 + 2) g.vE)[m * 3 + 1]? = some (.slice none 0 0) := by
    rw [List.getElem?_set_ne (by omega), List.getElem?_set_self (by rw [List.length_set]; omega)]
  refine ⟨o3, h.nodes.keptS hk h.nodesFar, h.many, ?_, ?_, ?_⟩
  · intro k q hk1 hq
    by_cases he : k = m
    · subst he
      rw [hg] at hq
      obtain rfl := Option.some.inj hq
      refine ⟨?_, ?_, .slice none 0 0, at1, ?_⟩
      · rw [List.getElem?_set_ne (by omega), List.getElem?_set_ne (by omega), List.getElem?_set_self (by omega)]
      · rw [List.getElem?_set_self (by rw [List.length_set, List.length_set]; omega)]
      · rw [if_pos rfl]
        exact Flat.nil rfl _ _ _
    · obtain ⟨f1, f2, f3⟩ := far k (by omega)
      rw [f1, f2, f3, if_neg he]
      obtain ⟨h1, h2, u, h3, h4⟩ := h.set_ k q (by omega) hq
      refine ⟨h1, h2, u, h3, h4.kept hk (fun b hb e => ?_)⟩
      subst e
      exact h4.ne hc (by decide) hb.symm
  · intro k k' u u' hne hk1 hk2 hu hu'
    by_cases he : k = m
    · subst he
      rw [at1] at hu
      obtain rfl := Option.some.inj hu
      exact nil_apart rfl
    · by_cases he' : k' = m
      · subst he'
        rw [at1] at hu'
        obtain rfl := Option.some.inj hu'
        intro b _ e
        simp [Value.ownBlock] at e
      · rw [(far k (by omega)).2.1] at hu
        rw [(far k' (by omega)).2.1] at hu'
        exact h.apart k k' u u' hne (by omega) (by omega) hu hu'
  · intro k i u q hk1 hu hq
    by_cases he : k = m
    · subst he
      rw [at1] at hu
      obtain rfl := Option.some.inj hu
      exact nil_apart rfl
    · rw [(far k (by omega)).2.1] at hu
      exact h.apartE k i u q (by omega) hu hq
/-- A number comes to an open row. -/
theorem Out.push_ {base R n m i : Nat} {W W2 : World} {G : List GN} {inner : List Value} {P : Nat → Nat} {g : GN} {u u' : Value} {x : Nat} (h : Out base W R n G inner m P) (hi : i < m) (hin : i < n) (hg : G[i]? = some g) (hu : inner[i * 3 + 1]? = some u)
    (hF : Flat (Kd.int .i64) 3 base W2 u' (castN (g.nx.take (P i)) ++ [(x : Int)])) (hG : W.grownBy W2 u.ownBlock) (hn : Near W u' u) (hx : g.nx[P i]? = some x) :
    Out base (W2.setCell ⟨R, i * 3 + 1, none⟩ u') R n G (inner.set (i * 3 + 1) u') m (fun k => if k = i then P i + 1 else P k) := by
  have hl := h.len
  obtain ⟨cells, hc⟩ := h.typed
  obtain ⟨h1, h2, u0, h3, h4⟩ := h.set_ i g hi hg
  obtain rfl : u = u0 := by rw [hu] at h3; exact Option.some.inj h3
  have hRu : some R ≠ u.ownBlock := h4.ne hc (by decide)
  have hown2 := h.own.kept hG (.inr (fun e => hRu e))
  have hc2 := blk_grown hc hG hRu
  have o1 := (hown2.stored (i * 3 + 1) u').1
  have hk : Kept W (W2.setCell ⟨R, i * 3 + 1, none⟩ u') (fun k => k = R ∨ some k = u.ownBlock) := Kept.setCell (Kept.of_grown hG (Kept.refl _ _) (fun k hk => .inl (.inr hk.symm))) (.inl (.inl rfl)) u'
  have at1 : (inner.set (i * 3 + 1) u')[i * 3 + 1]? = some u' := by rw [List.getElem?_set_self (by omega)]
  have far1 : ∀ k : Nat, k ≠ i → (inner.set (i * 3 + 1) u')[k * 3 + 1]? = inner[k * 3 + 1]? := fun k hk => by rw [List.getElem?_set_ne (by omega)]
  have far0 : ∀ k : Nat, (inner.set (i * 3 + 1) u')[k * 3]? = inner[k * 3]? := fun k => by rw [List.getElem?_set_ne (by omega)]
  have far2 : ∀ k : Nat, (inner.set (i * 3 + 1) u')[k * 3 + 2]? = inner[k * 3 + 2]? := fun k => by rw [List.getElem?_set_ne (by omega)]
  refine ⟨o1, h.nodes.keptS hk (fun j q hq => ?_), h.many, ?_, ?_, ?_⟩
  · obtain ⟨n0, n1, n2, n3⟩ := h.nodesFar j q hq
    have hE := h.apartE i j u q hi hu hq
    obtain ⟨bs, hT, _, _⟩ := h.nodes.rt j q hq
    refine ⟨?_, ?_, ?_, ?_⟩
    · rintro (e | e)
      · exact n0 e
      · exact h4.ne (h.nodes.cell j q hq).1 (by decide) e
    · rintro k hk1 (e | e)
      · exact n1 k hk1 e
      · exact (h.nodes.rs j q hq).apart h4 (by decide) k hk1 e
    · rintro k hk1 (e | e)
      · exact n2 k hk1 e
      · exact hT.apart h4 (by decide) k hk1 e
    · rintro k hk1 (e | e)
      · exact n3 k hk1 e
      · exact hE k e.symm hk1.symm
  · intro k q hk1 hq
    by_cases he : k = i
    · subst he
      rw [hg] at hq
      obtain rfl := Option.some.inj hq
      rw [far0, far2, at1, if_pos rfl]
      refine ⟨h1, h2, u', rfl, ?_⟩
      have ht : castN (g.nx.take (P k + 1)) = castN (g.nx.take (P k)) ++ [(x : Int)] := by
        unfold castN
        obtain ⟨hlt, hxe⟩ := List.getElem?_eq_some_iff.1 hx
        rw [List.take_succ_eq_append_getElem hlt, List.map_append, hxe]
        rfl
      rw [ht]
      exact hF.set (hF.ne hc2 (by decide)) _
    · rw [far0, far2, far1 k he, if_neg he]
      obtain ⟨g1, g2, v, g3, g4⟩ := h.set_ k q hk1 hq
      refine ⟨g1, g2, v, g3, g4.kept hk (fun b hb => ?_)⟩
      rintro (e | e)
      · subst e
        exact g4.ne hc (by decide) hb.symm
      · exact h.apart k i v u he hk1 hi g3 hu b hb e
  · have other : ∀ (k : Nat) (v : Value), k ≠ i → k < m → inner[k * 3 + 1]? = some v → ∀ b, v.ownBlock = some b → some b ≠ u'.ownBlock := by
      intro k v hk1 hk2 hv
      have hlt : ∀ b, v.ownBlock = some b → b < W.heap.size := by
        have hkG : k < G.length := by
          have := (List.getElem?_eq_some_iff.1 hv).1
          rw [hl] at this
          rw [h.many]
          omega
        obtain ⟨_, _, v2, g3, g4⟩ := h.set_ k _ hk2 (List.getElem?_eq_getElem hkG)
        obtain rfl : v = v2 := by rw [hv] at g3; exact Option.some.inj g3
        exact g4.lt
      exact hn.apart hlt (h.apart k i v u hk1 hk2 hi hv hu)
    intro k k' v v' hne hk1 hk2 hv hv'
    by_cases he : k = i
    · subst he
      rw [at1] at hv
      obtain rfl := Option.some.inj hv
      rw [far1 k' (Ne.symm hne)] at hv'
      exact flip_ (other k' v' (Ne.symm hne) hk2 hv')
    · rw [far1 k he] at hv
      by_cases he' : k' = i
      · subst he'
        rw [at1] at hv'
        obtain rfl := Option.some.inj hv'
        exact other k v he hk1 hv
      · rw [far1 k' he'] at hv'
        exact h.apart k k' v v' hne hk1 hk2 hv hv'
  · intro k j v q hk1 hv hq
    by_cases he : k = i
    · subst he
      rw [at1] at hv
      obtain rfl := Option.some.inj hv
      exact flip_ (hn.apart (h.nodes.re j q hq).lt (flip_ (h.apartE k j u q hk1 hu hq)))
    · rw [far1 k he] at hv
      exact h.apartE k j v q hk1 hv hq
/-- The row that goes out, read. -/
theorem Out.reads {base R n : Nat} {W : World} {G : List GN} {inner : List Value} {P : Nat → Nat} {T : List PN} (h : Out base W R n G inner n P) (hP : ∀ (k : Nat) (g : GN), k < n → G[k]? = some g → P k = g.nx.length) (ht : G.map GN.abs = T) (hn : n ≤ 9223372036854775807) :
    Kd.C k50 W (some ⟨R, 0, none⟩) n (outP T) := by
  have hlen : (outP T).length = n := by
    rw [← h.many, ← ht]
    simp [outP]
  refine ⟨hlen, hn, fun _ => ⟨_, rfl, fun j p hj => ?_⟩⟩
  have hjn : j < n := by rw [← hlen]; exact (List.getElem?_eq_some_iff.1 hj).1
  have hjG : j < G.length := by rw [h.many]; exact hjn
  have hg : G[j]? = some (G[j]'hjG) := List.getElem?_eq_getElem hjG
  generalize G[j]'hjG = g at hg
  obtain ⟨h1, h2, u, h3, h4⟩ := h.set_ j g hjn hg
  rw [hP j g hjn hg, List.take_length] at h4
  have hp : p = ⟨g.st, castN g.nx, g.en⟩ := by
    unfold outP at hj
    rw [← ht, List.map_map, List.getElem?_map, hg] at hj
    simpa [GN.abs, castN] using hj.symm
  subst hp
  obtain ⟨AS, cS, eS⟩ := (h.nodes.rs j g hg).slice
  obtain ⟨AU, cU, eU⟩ := h4.slice
  obtain ⟨AE, cE, eE⟩ := (h.nodes.re j g hg).slice
  have qS := h.nodes.rs j g hg
  have qE := h.nodes.re j g hg
  rw [eS] at qS
  rw [eU] at h4
  rw [eE] at qE
  refine ⟨[g.vS, u, g.vE], rfl, ?_, fun i v hv => h.own.cells (g := R) rfl _ v ?_⟩
  · rw [eS, eU, eE]
    exact k50_mk W ⟨g.st, castN g.nx, g.en⟩ qS.reads.2.1 qS.reads.2.2 h4.reads.2.1 h4.reads.2.2 qE.reads.2.1 qE.reads.2.2
  · have hi := (List.getElem?_eq_some_iff.1 hv).1
    have hi3 : i < 3 := by simpa using hi
    match i, hi3, hv with
    | 0, _, hv => exact h1.trans (by simpa using hv)
    | 1, _, hv => exact h3.trans (by simpa using hv)
    | 2, _, hv => exact h2.trans (by simpa using hv)
theorem made_nil (m : Nat) : (madeCells #[.slice none 0 0, .slice none 0 0, .slice none 0 0] m).toList = List.replicate m (Value.slice none 0 0) := by
  apply List.ext_getElem
  · simp [madeCells]
  · intro i h1 h2
    have h3 : i % 3 < 3 := Nat.mod_lt _ (by decide)
    simp only [madeCells, Array.toList_map, Array.toList_range, List.getElem_map, List.getElem_range, List.getElem_replicate]
    show #[Value.slice none 0 0, .slice none 0 0, .slice none 0 0][i % 3]! = _
    rcases (show i % 3 = 0 ∨ i % 3 = 1 ∨ i % 3 = 2 by omega) with e | e | e <;> rw [e] <;> rfl
/-- The row, made. -/
theorem Out.made {base n : Nat} {W : World} {G : List GN} (hN : Nodes base W G) (hm : G.length = n) (hb : base ≤ W.heap.size) (hn : n ≤ maxLen) (P : Nat → Nat) :
    Out base (W.alloc (.cells (madeCells #[.slice none 0 0, .slice none 0 0, .slice none 0 0] (n * 3)) 50)) W.heap.size n G (List.replicate (n * 3) (.slice none 0 0)) 0 P where
  own := by
    have h := World.ownsRow_lit (base := base) (e := 50) (size := 3) W (madeCells #[.slice none 0 0, .slice none 0 0, .slice none 0 0] (n * 3)) n hb hn (by rw [size_madeCells])
    rw [made_nil] at h
    exact h
  nodes := hN.below (below_alloc (Below.refl _ _) _)
  many := hm
  set_ := fun k g h => absurd h (Nat.not_lt_zero k)
  apart := fun k k' u u' _ h => absurd h (Nat.not_lt_zero k)
  apartE := fun k i u g h => absurd h (Nat.not_lt_zero k)
end Go.Proofs.Ythlneooboiphdaa.PTrieBuilds
