/- From what a row reads of its arguments to what the printed contracts ask: each kind of type opens to a pure datum, with the bounds that the form's reach gives. Plain Lean over the kit's words. -/
import Derived.Test.YthlneooboiphdaaWMore
import Derived.ChangeShapes
import Derived.Lib.SmallJoins
import Derived.SizedLaws
namespace Go.Proofs.Ythlneooboiphdaa
open Go.RowKit Go.Proofs.YthlneooboiphdaaW.PrintWords
open Go.ChangeShapes Go.WideShapes

/-- What is read at a type as data is a value of the kind, and within the reach. -/
def Opens (P : Program) (t : TypeId) {α : Type} (d : Kd α) (ok : α → Prop) : Prop :=
  ∀ {H : Type} (enc : TypeId × Value → H) (w : World) (base : Nat) (spare : Nat → Bool) (fuel : Nat) (cs : List Value) (y : DataW H × List MemPlace),
    DataW.trod enc P w base spare true fuel t cs = some y → (∀ x ∈ y.1.weights P t, x ≤ reachBytes) → ∃ x : α, d.K w x cs ∧ ok x

theorem mapM_each {α β : Type} {f : α → Option β} : ∀ {l : List α} {ys : List β}, l.mapM f = some ys → ys.length = l.length ∧ ∀ (i : Nat) (x : α), l[i]? = some x → ∃ y, ys[i]? = some y ∧ f x = some y
  | [], ys, h => by
    simp at h
    subst h
    exact ⟨rfl, fun i x hx => by simp at hx⟩
  | a :: l, ys, h => by
    rw [List.mapM_cons] at h
    cases ha : f a with
    | none => simp [ha] at h
    | some b =>
      cases hl : l.mapM f with
      | none => simp [ha, hl] at h
      | some zs =>
        simp [ha, hl] at h
        subst h
        obtain ⟨h1, h2⟩ := mapM_each hl
        refine ⟨by simp [h1], fun i x hx => ?_⟩
        cases i with
        | zero =>
          simp at hx
          subst hx
          exact ⟨b, rfl, ha⟩
        | succ i => exact h2 i x (by simpa using hx)

theorem weightsAll_mem {H : Type} {P : Program} {e : TypeId} : ∀ {l : List (DataW H)} {d : DataW H}, d ∈ l → ∀ x ∈ d.weights P e, x ∈ DataW.weightsAll P e l
  | a :: l, d, h, x, hx => by
    simp only [DataW.weightsAll, List.mem_append]
    rcases List.mem_cons.1 h with rfl | h
    · exact .inl hx
    · exact .inr (weightsAll_mem h x hx)

theorem exists_list {α : Type} {n : Nat} {R : Nat → α → Prop} (h : ∀ i, i < n → ∃ x, R i x) : ∃ xs : List α, xs.length = n ∧ ∀ (i : Nat) (x : α), xs[i]? = some x → R i x := by
  induction n with
  | zero => exact ⟨[], rfl, fun i x hx => by simp at hx⟩
  | succ n ih =>
    obtain ⟨xs, h1, h2⟩ := ih (fun i hi => h i (by omega))
    obtain ⟨x, hx⟩ := h n (by omega)
    refine ⟨xs ++ [x], by simp [h1], fun i z hz => ?_⟩
    by_cases hi : i < xs.length
    · rw [List.getElem?_append_left hi] at hz
      exact h2 i z hz
    · rw [List.getElem?_append_right (by omega)] at hz
      have hi2 : i - xs.length = 0 := by
        by_cases g : i - xs.length = 0
        · exact g
        · rw [List.getElem?_eq_none (by simp; omega)] at hz
          cases hz
      rw [hi2] at hz
      simp at hz
      subst hz
      have : i = n := by omega
      subst this
      exact hx

theorem opens_slice {P : Program} {t e : TypeId} {α : Type} {d : Kd α} {ok : α → Prop} {B : Nat} (ht : P.underlying t = some (.slice e)) (hc : P.cellsOf e = d.sz) (hB : P.bytesOf e = B) (he : Opens P e d ok) :
    Opens P t (Kd.slice e d) (fun xs => xs.length ≤ maxLen ∧ xs.length * B ≤ 140737488351232 ∧ ∀ x ∈ xs, ok x) := by
  intro H enc w base spare fuel cs y h hw
  cases fuel with
  | zero => simp [DataW.trod] at h
  | succ fuel =>
    have key : cs = [.slice none 0 0] ∨ ∃ a len cap, cs = [.slice (some a) len cap] := by
      unfold DataW.trod at h
      rw [ht] at h
      split at h <;> first | exact .inl rfl | exact .inr ⟨_, _, _, rfl⟩ | (cases h; done) | simp_all
    rcases key with rfl | ⟨a, len, cap, rfl⟩
    · exact ⟨[], ⟨none, 0, rfl, Nat.le_refl _, rfl, by simp, fun h => absurd h (by simp)⟩, by simp, by simp, fun x hx => by cases hx⟩
    · unfold DataW.trod at h
      simp only [ht] at h
      split at h
      · rename_i hle
        cases hm : (List.range len).mapM (fun i => (w.cells? base (a.add (i * P.cellsOf e)) (P.cellsOf e)).bind (DataW.trod enc P w base spare true fuel e)) with
        | none => rw [hm] at h; cases h
        | some elems =>
          rw [hm] at h
          simp only [Option.bind_some] at h
          obtain ⟨rest, hrest, rfl⟩ := Option.map_eq_some_iff.1 h
          obtain ⟨h1, h2⟩ := mapM_each hm
          rw [List.length_range] at h1
          have each : ∀ i, i < len → ∃ x : α, (∃ c, c.length = d.sz ∧ d.K w x c ∧ ∀ j u, c[j]? = some u → w.cell? (a.add (i * d.sz + j)) = some u) ∧ ok x := by
            intro i hi
            obtain ⟨z, hz, hf⟩ := h2 i i (by simp [hi])
            obtain ⟨c, hcs, htr⟩ := Option.bind_eq_some_iff.1 hf
            have hmem : z.1 ∈ elems.map (·.1) := List.mem_map.2 ⟨z, List.mem_of_getElem? hz, rfl⟩
            obtain ⟨x, hx, hok⟩ := he enc w base spare fuel c z htr (fun n hn => hw n (by
              simp only [DataW.weights, ht, List.mem_cons, List.mem_append]
              exact .inr (.inl (weightsAll_mem hmem n hn))))
            refine ⟨x, ⟨c, d.K_len hx, hx, ?_⟩, hok⟩
            intro j u hj
            unfold World.cells? at hcs
            split at hcs
            · obtain ⟨g1, g2⟩ := mapM_each hcs
              rw [List.length_range] at g1
              have hjl : j < P.cellsOf e := by
                have := (List.getElem?_eq_some_iff.1 hj).1
                omega
              obtain ⟨v, hv, hcell⟩ := g2 j j (by simp [hjl])
              rw [hj] at hv
              obtain rfl := Option.some.inj hv
              rw [← hc, ← hcell]
              congr 1
              unfold Addr.add
              by_cases g3 : i * P.cellsOf e = 0 <;> by_cases g4 : j = 0 <;> simp [g3, g4, Nat.add_assoc]
            · cases hcs
          obtain ⟨xs, hl, hxs⟩ := exists_list each
          refine ⟨xs, ⟨some a, cap, by rw [hl], by omega, rfl, ?_, fun _ => ⟨a, rfl, fun j p hj => (hxs j p hj).1⟩⟩, ?_, ?_, ?_⟩
          · have := hle.2.2
            unfold maxLen at this
            omega
          · have := hle.2.2
            omega
          · have := hw ((elems.length + rest.length) * P.bytesOf e) (by simp only [DataW.weights, ht, List.length_map, List.mem_cons, true_or])
            rw [hB] at this
            unfold reachBytes at this
            have hle2 : xs.length * B ≤ (elems.length + rest.length) * B := Nat.mul_le_mul_right _ (by omega)
            omega
          · intro x hx
            obtain ⟨i, hi⟩ := List.mem_iff_getElem?.1 hx
            exact (hxs i x hi).2
      · cases h

#print axioms opens_slice
end Go.Proofs.Ythlneooboiphdaa
