/- Rows of the call's own whose elements lead to nothing else. -/
import Derived.Test.YthlneooboiphdaaWKept
import Derived.Test.YthlneooboiphdaaWMore
import Derived.Test.YthlneooboiphdaaWTab
import Derived.Deep.AppendLies
set_option linter.unusedVariables false
set_option linter.unusedSimpArgs false
namespace Go.Proofs.Ythlneooboiphdaa
open Go.RowKit Go.Proofs.YthlneooboiphdaaW.PrintWords Go.Proofs.YthlneooboiphdaaW.PrintLast Go.Proofs.YthlneooboiphdaaW.PrintMore
/-- A row of the call's own that leads to nothing else. -/
def Flat {α : Type} (d : Kd α) (e : Nat) (base : Nat) (w : World) (v : Value) (xs : List α) : Prop := d.E = [] ∧ d.R e w base (fun k => some k = v.ownBlock) v xs
theorem Flat.nil {α : Type} {d : Kd α} (hE : d.E = []) (e base : Nat) (w : World) : Flat d e base w (.slice none 0 0) [] := ⟨hE, Kd.R_nil d e w base _⟩
theorem Flat.of {α : Type} {d : Kd α} {e base : Nat} {w : World} {v : Value} {xs : List α} {ok : Nat → Prop} (hE : d.E = []) (h : d.R e w base ok v xs) : Flat d e base w v xs := ⟨hE, Kd.R_reok hE h (fun k hk => hk.symm)⟩
theorem Flat.below {α : Type} {d : Kd α} {e base : Nat} {w w1 : World} {v : Value} {xs : List α} (h : Flat d e base w v xs) (hb : Below w.heap.size w w1) : Flat d e base w1 v xs := ⟨h.1, Kd.R_below h.2 hb⟩
theorem Flat.set {α : Type} {d : Kd α} {e base : Nat} {w : World} {v : Value} {xs : List α} (h : Flat d e base w v xs) {p : Addr} (hne : some p.block ≠ v.ownBlock) (u : Value) : Flat d e base (w.setCell p u) v xs :=
  ⟨h.1, Kd.R_far h.2 (fun k hk e => hne (by rw [← e]; exact hk)) u⟩
theorem Flat.grown {α : Type} {d : Kd α} {e base : Nat} {w w1 : World} {v : Value} {xs : List α} (h : Flat d e base w v xs) {row : Option Nat} (hg : w.grownBy w1 row) (hne : ∀ k, row = some k → some k ≠ v.ownBlock) : Flat d e base w1 v xs :=
  ⟨h.1, Kd.R_grown2 h.2 h.1 hg hne⟩
theorem Flat.lt {α : Type} {d : Kd α} {e base : Nat} {w : World} {v : Value} {xs : List α} (h : Flat d e base w v xs) : ∀ k, v.ownBlock = some k → k < w.heap.size := Kd.R_lt h.2
theorem Flat.base {α : Type} {d : Kd α} {e base : Nat} {w : World} {v : Value} {xs : List α} (h : Flat d e base w v xs) : ∀ k, v.ownBlock = some k → base ≤ k := Kd.R_base h.2
/-- A row is no block of another type. -/
theorem Flat.ne {α : Type} {d : Kd α} {e base : Nat} {w : World} {v : Value} {xs : List α} (h : Flat d e base w v xs) {g t : Nat} {cells : Array Value} (hb : w.heap[g]? = some (.cells cells t (0, 0))) (ht : e ≠ t) : some g ≠ v.ownBlock := Kd.R_ne h.2 hb ht
theorem Flat.slice {α : Type} {d : Kd α} {e base : Nat} {w : World} {v : Value} {xs : List α} (h : Flat d e base w v xs) : ∃ A c, v = .slice A xs.length c := Kd.R_slice h.2
theorem Flat.reads {α : Type} {d : Kd α} {e base n c : Nat} {A : Option Addr} {w : World} {xs : List α} (h : Flat d e base w (.slice A n c) xs) : n = xs.length ∧ n ≤ c ∧ d.C w A xs.length xs := Kd.R_reads' h.2
/-- Two rows of unlike types are apart. -/
theorem Flat.apart {α β : Type} {d : Kd α} {d' : Kd β} {e e' base base' : Nat} {w : World} {v v' : Value} {xs : List α} {ys : List β} (h : Flat d e base w v xs) (h' : Flat d' e' base' w v' ys) (he : e ≠ e') : ∀ k, v.ownBlock = some k → some k ≠ v'.ownBlock := by
  intro k hk hk'
  obtain ⟨_, inner, ho, _⟩ := h.2
  obtain ⟨cells, hc⟩ := own_typed ho k hk
  exact h'.ne hc (fun q => he q.symm) hk'
/-- What an append leaves of a flat row. -/
theorem Flat.app {α : Type} {d : Kd α} {e base : Nat} {w w1 : World} {v v1 : Value} {xs : List α} {p : α} {inner cs : List Value} (h0 : ∀ k, v.ownBlock = some k → some k = v.ownBlock) (hE : d.E = []) (hr : Reps (d.M w base (fun k => some k = v.ownBlock ∧ some k ≠ v.ownBlock)) d.sz xs inner)
    (hp : d.M w base (fun _ => False) p cs) (hown : w1.ownsRow base e d.sz v1 (xs.length + 1) (inner ++ cs)) (hg : w.grownBy w1 v.ownBlock) (hat : v1.ownBlock = v.ownBlock ∨ ∃ b, v1.ownBlock = some b ∧ w.heap.size ≤ b) : Flat d e base w1 v1 (xs ++ [p]) := by
  have hr2 : Reps (d.M w base (fun k => True ∧ some k ≠ v.ownBlock)) d.sz xs inner := hr.imp_ (fun _ _ hq => d.M_mono (fun k hk => ⟨trivial, hk.2⟩) hq)
  exact Flat.of hE (Kd.R_appended (ok := fun _ => True) (okp := fun _ => False) (fun _ _ => trivial) hr2 hp (fun _ hk => hk.elim) (fun _ _ => trivial) hown hg hat)
theorem Flat.kept {α : Type} {d : Kd α} {e base : Nat} {w w1 : World} {v : Value} {xs : List α} {S : Nat → Prop} (h : Flat d e base w v xs) (hk : Kept w w1 S) (hne : ∀ k, v.ownBlock = some k → ¬ S k) : Flat d e base w1 v xs :=
  ⟨h.1, Kd.R_kept h.2 hk (fun k ho => hne k ho.symm)⟩
/-- What a turned row's block is. -/
def Near (w : World) (v' v : Value) : Prop := v'.ownBlock = v.ownBlock ∨ ∃ k, v'.ownBlock = some k ∧ w.heap.size ≤ k
theorem Near.refl (w : World) (v : Value) : Near w v v := .inl rfl
theorem Near.apart {w : World} {v' v u : Value} (h : Near w v' v) (hlt : ∀ k, u.ownBlock = some k → k < w.heap.size) (ha : ∀ k, u.ownBlock = some k → some k ≠ v.ownBlock) : ∀ k, u.ownBlock = some k → some k ≠ v'.ownBlock := by
  intro k hk e
  rcases h with h | ⟨m, h, hm⟩
  · exact ha k hk (by rw [e, h])
  · have := hlt k hk
    rw [h] at e
    injection e with e
    omega
theorem flip_ {u v : Value} (h : ∀ k, u.ownBlock = some k → some k ≠ v.ownBlock) : ∀ k, v.ownBlock = some k → some k ≠ u.ownBlock := fun k hk e => h k e.symm hk.symm
def nilV : Value := .slice none 0 0
theorem nil_apart {v u : Value} (h : v = .slice none 0 0) : ∀ k, v.ownBlock = some k → some k ≠ u.ownBlock := fun k hk => by subst h; simp [Value.ownBlock] at hk
theorem step_append_flat {α : Type} {d : Kd α} {P : Program} {w : World} {ops : Array Oper} {o : Oper} {a : Act} {K : Act → World → Prop} {Q : Exit → Act → World → Prop} {E : Prop} (hgd : o.guard = none) (s x : Operand) (t : TypeId)
    (ho : o.op = .call { callee := .builtin .append, args := #[s, x], argTypes := #[t, t] })
    (base : Nat) (e : TypeId) (i : TypeInfo) (z : Value) (bytes : Nat) (ht : P.underlying t = some (.slice e)) (hi : P.info? e = some i) (hz : i.zero = some z)
    (hsize : i.size = d.sz) (hby : i.bytes = bytes) (hzs : z.cells.size = d.sz) (hsz : 0 < d.sz)
    (v : Value) (xs : List α) (hs : a.eval s = v) (hflat : Flat d e base w v xs) (p : α) (cs : List Value) (hp : d.M w base (fun _ => False) p cs)
    (B c : Nat) (tb : TypeId) (hx : a.eval x = .slice (some ⟨B, 0, none⟩) 1 c) (hB : w.heap[B]? = some (.cells cs.toArray tb (0, 0)))
    (h63 : xs.length + 1 ≤ maxLen) (hbytes : (xs.length + 1) * bytes ≤ 140737488355328) (hbase : base ≤ w.heap.size)
    (h : ∀ g cap w', Flat d e base w' (.slice (some ⟨g, 0, none⟩) (xs.length + 1) cap) (xs ++ [p]) → w.grownBy w' v.ownBlock → (v.ownBlock = some g ∨ g = w.heap.size) → g < w'.heap.size → K (a.put o.dst (.slice (some ⟨g, 0, none⟩) (xs.length + 1) cap)) w') :
    if Region.wanted o (yielded ops a.tmps) = true then Oper.wp P o a w K Q else E := by
  obtain ⟨hE, hok, inner, hown, hreps⟩ := hflat
  refine step_append_lies w hgd s x t ho base e i z d.sz bytes ht hi hz hsize hby hzs hsz v xs.length inner hs hown ⟨B, 0, none⟩ 1 c cs hx (by rw [Nat.one_mul]; exact d.K_len (d.K_of_M hp)) (fun j u hu => World.news_of_block hB j u (by simpa using hu)) (d.K_one (d.K_of_M hp)) (by omega) h63 hbytes hbase w.heap.size rfl ?_
  intro g cap w' hown' hg hat hlt
  refine h g cap w' ?_ hg hat hlt
  refine Flat.app hok hE hreps hp hown' hg ?_
  rcases hat with hat | hat
  · exact .inl (by rw [hat]; rfl)
  · exact .inr ⟨g, rfl, by omega⟩
theorem list_append_flat {α : Type} {d : Kd α} {P : Program} {w : World} {ops : Array Oper} {rest : List Oper} {o : Oper} {a : Act} {Q : Exit → Act → World → Prop} (hgd : o.guard = none) (s x : Operand) (t : TypeId)
    (ho : o.op = .call { callee := .builtin .append, args := #[s, x], argTypes := #[t, t] })
    (base : Nat) (e : TypeId) (i : TypeInfo) (z : Value) (bytes : Nat) (ht : P.underlying t = some (.slice e)) (hi : P.info? e = some i) (hz : i.zero = some z)
    (hsize : i.size = d.sz) (hby : i.bytes = bytes) (hzs : z.cells.size = d.sz) (hsz : 0 < d.sz)
    (v : Value) (xs : List α) (hs : a.eval s = v) (hflat : Flat d e base w v xs) (p : α) (cs : List Value) (hp : d.M w base (fun _ => False) p cs)
    (B c : Nat) (tb : TypeId) (hx : a.eval x = .slice (some ⟨B, 0, none⟩) 1 c) (hB : w.heap[B]? = some (.cells cs.toArray tb (0, 0)))
    (h63 : xs.length + 1 ≤ maxLen) (hbytes : (xs.length + 1) * bytes ≤ 140737488355328) (hbase : base ≤ w.heap.size)
    (h : ∀ g cap w', Flat d e base w' (.slice (some ⟨g, 0, none⟩) (xs.length + 1) cap) (xs ++ [p]) → w.grownBy w' v.ownBlock → Near w (.slice (some ⟨g, 0, none⟩) (xs.length + 1) cap) v → g < w'.heap.size → wpList P ops Q rest (a.put o.dst (.slice (some ⟨g, 0, none⟩) (xs.length + 1) cap)) w') :
    wpList P ops Q (o :: rest) a w := by
  obtain ⟨hE, hok, inner, hown, hreps⟩ := hflat
  refine wpList_append_lies w hgd s x t ho base e i z d.sz bytes ht hi hz hsize hby hzs hsz v xs.length inner hs hown ⟨B, 0, none⟩ 1 c cs hx (by rw [Nat.one_mul]; exact d.K_len (d.K_of_M hp)) (fun j u hu => World.news_of_block hB j u (by simpa using hu)) (d.K_one (d.K_of_M hp)) (by omega) h63 hbytes hbase w.heap.size rfl ?_
  intro g cap w' hown' hg hat hlt
  refine h g cap w' ?_ hg ?_ hlt
  · refine Flat.app hok hE hreps hp hown' hg ?_
    rcases hat with hat | hat
    · exact .inl (by rw [hat]; rfl)
    · exact .inr ⟨g, rfl, by omega⟩
  · rcases hat with hat | hat
    · exact .inl (by rw [hat]; rfl)
    · exact .inr ⟨g, rfl, by omega⟩
/-- A row of one element, made anew. -/
theorem Flat.one {α : Type} {d : Kd α} (hE : d.E = []) (W : World) (base e : Nat) (hb : base ≤ W.heap.size) (p : α) (cs : List Value) (hp : ∀ w, d.M w base (fun _ => False) p cs) : Flat d e base (W.alloc (.cells cs.toArray e)) (.slice (some ⟨W.heap.size, 0, none⟩) 1 1) [p] := by
  refine ⟨hE, fun k hk => hk.symm, cs, ?_, ?_⟩
  · have h := World.ownsRow_lit (base := base) (e := e) (size := d.sz) W cs.toArray 1 hb (by unfold maxLen; omega) (by rw [List.size_toArray, d.K_len (d.K_of_M (hp W))]; simp)
    simpa using h
  · have h := (Reps.none (d.M (W.alloc (.cells cs.toArray e)) base (fun k => some k = Value.ownBlock (.slice (some ⟨W.heap.size, 0, none⟩) 1 1) ∧ some k ≠ Value.ownBlock (.slice (some ⟨W.heap.size, 0, none⟩) 1 1))) d.sz).snoc (p := p) (c := cs) (d.M_mono (fun _ h => h.elim) (hp _)) (d.K_len (d.K_of_M (hp W)))
    simpa using h
end Go.Proofs.Ythlneooboiphdaa
