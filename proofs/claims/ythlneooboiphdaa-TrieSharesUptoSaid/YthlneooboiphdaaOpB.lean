/- What a row of the second form reads of its arguments: each opens to a pure datum, measured by the reading's bulk. -/
import Derived.Test.YthlneooboiphdaaRows
import Derived.Test.YthlneooboiphdaaOp
import Derived.Deep.Strs
namespace Go.Proofs.Ythlneooboiphdaa
open Go.RowKit Go.Proofs.YthlneooboiphdaaW.PrintWords
/-- What is read at a type as data is a value of the kind, and measures no more than the reading's bulk. -/
def BOpens (P : Program) (t : TypeId) {α : Type} (d : Kd α) (m : α → Nat) : Prop :=
  ∀ {H : Type} (enc : TypeId × Value → H) (w : World) (base : Nat) (spare : Nat → Bool) (fuel : Nat) (cs : List Value) (y : DataW H × List MemPlace),
    DataW.trod enc P w base spare true fuel t cs = some y → ∃ x : α, d.K w x cs ∧ m x ≤ Rows.uptoBulk y.1
theorem bopens_int {P : Program} {t : TypeId} {k : IntKind} (ht : P.underlying t = some (.int k)) : BOpens P t (Kd.int k) (fun _ => 1) := by
  intro H enc w base spare fuel cs y h
  obtain ⟨n, hcs, hy, _⟩ := DataW.trod_int ht h
  subst hy
  exact ⟨n, hcs, by simp [Rows.uptoBulk]⟩
theorem bopens_string {P : Program} {t : TypeId} (ht : P.underlying t = some .string) : BOpens P t Kd.string (fun s => s.size + 1) := by
  intro H enc w base spare fuel cs y h
  obtain ⟨s, hcs, hy, _⟩ := DataW.trod_string ht h
  subst hy
  refine ⟨s, hcs, ?_⟩
  simp only [Rows.uptoBulk]
  exact Nat.le_of_eq rfl
theorem bulk_sum {H α : Type} {m : α → Nat} : ∀ (xs : List α) (ds : List (DataW H)), xs.length = ds.length → (∀ (i : Nat) x d, xs[i]? = some x → ds[i]? = some d → m x ≤ Rows.uptoBulk d) → (xs.map m).sum ≤ Rows.uptoBulkAll ds
  | [], [], _, _ => Nat.zero_le _
  | x :: xs, d :: ds, hl, h => by
    have h0 := h 0 x d rfl rfl
    have h1 := bulk_sum xs ds (by simpa using hl) (fun i x d hx hd => h (i + 1) x d (by simpa using hx) (by simpa using hd))
    simp only [List.map_cons, List.sum_cons, Rows.uptoBulkAll]
    omega
  | [], _ :: _, hl, _ => by simp at hl
  | _ :: _, [], hl, _ => by simp at hl
theorem bopens_slice {P : Program} {t e : TypeId} {α : Type} {d : Kd α} {m : α → Nat} (ht : P.underlying t = some (.slice e)) (hc : P.cellsOf e = d.sz) (he : BOpens P e d m) :
    BOpens P t (Kd.slice e d) (fun xs => (xs.map m).sum + 1) := by
  intro H enc w base spare fuel cs y h
  cases fuel with
  | zero => simp [DataW.trod] at h
  | succ fuel =>
    have key : cs = [.slice none 0 0] ∧ y.1 = .nil ∨ ∃ a len cap, cs = [.slice (some a) len cap] := by
      unfold DataW.trod at h
      rw [ht] at h
      split at h <;> first | (exact .inl ⟨rfl, by injection h with h; rw [← h]⟩) | exact .inr ⟨_, _, _, rfl⟩ | (cases h; done) | simp_all
    rcases key with ⟨rfl, hy⟩ | ⟨a, len, cap, rfl⟩
    · exact ⟨[], ⟨none, 0, rfl, Nat.le_refl _, rfl, by simp, fun h => absurd h (by simp)⟩, by rw [hy]; simp [Rows.uptoBulk]⟩
    · unfold DataW.trod at h
      simp only [ht] at h
      split at h
      · rename_i hle
        cases hm : (List.range len).mapM (fun i => (w.cells? base (a.add (i * P.cellsOf e)) (P.cellsOf e)).bind (DataW.trod enc P w base spare true fuel e)) with
        | none => rw [hm] at h; cases h
        | some elems =>
          rw [hm] at h
          simp only [Option.bind_some] at h
          obtain ⟨rest, hrest, rfl⟩ := Option.map_eq_some_iff.1 h
          obtain ⟨h1, h2⟩ := mapM_each hm
          rw [List.length_range] at h1
          have each : ∀ i, i < len → ∃ x : α, (∃ c, c.length = d.sz ∧ d.K w x c ∧ ∀ j u, c[j]? = some u → w.cell? (a.add (i * d.sz + j)) = some u) ∧ ∃ z, elems[i]? = some z ∧ m x ≤ Rows.uptoBulk z.1 := by
            intro i hi
            obtain ⟨z, hz, hf⟩ := h2 i i (by simp [hi])
            obtain ⟨c, hcs, htr⟩ := Option.bind_eq_some_iff.1 hf
            obtain ⟨x, hx, hok⟩ := he enc w base spare fuel c z htr
            refine ⟨x, ⟨c, d.K_len hx, hx, ?_⟩, z, hz, hok⟩
            intro j u hj
            unfold World.cells? at hcs
            split at hcs
            · obtain ⟨g1, g2⟩ := mapM_each hcs
              rw [List.length_range] at g1
              have hjl : j < P.cellsOf e := by
                have := (List.getElem?_eq_some_iff.1 hj).1
                omega
              obtain ⟨v, hv, hcell⟩ := g2 j j (by simp [hjl])
              rw [hj] at hv
              obtain rfl := Option.some.inj hv
              rw [← hc, ← hcell]
              congr 1
              unfold Addr.add
              by_cases g3 : i * P.cellsOf e = 0 <;> by_cases g4 : j = 0 <;> simp [g3, g4, Nat.add_assoc]
            · cases hcs
          obtain ⟨xs, hl, hxs⟩ := exists_list each
          refine ⟨xs, ⟨some a, cap, by rw [hl], by omega, rfl, ?_, fun _ => ⟨a, rfl, fun j p hj => (hxs j p hj).1⟩⟩, ?_⟩
          · have := hle.2.2
            unfold maxLen at this
            omega
          · have hs := bulk_sum (m := m) xs (elems.map (·.1)) (by rw [List.length_map]; omega) (fun i x dd hx hd => by
              obtain ⟨z, hz, hle⟩ := (hxs i x hx).2
              rw [List.getElem?_map, hz] at hd
              obtain rfl := Option.some.inj hd
              exact hle)
            simp only [Rows.uptoBulk]
            omega
      · cases h
/-- A struct of three fields of one cell each. -/
theorem bopens_three {P : Program} {t : TypeId} {f0 f1 f2 : Field} (ht : P.underlying t = some (.struct #[f0, f1, f2])) (o0 : f0.offset = 0) (o1 : f1.offset = 1) (o2 : f2.offset = 2) (hc : P.cellsOf t = 3)
    (e0 : P.cellsOf f0.type = 1) (e1 : P.cellsOf f1.type = 1) (e2 : P.cellsOf f2.type = 1) {α β γ : Type} {d0 : Kd α} {d1 : Kd β} {d2 : Kd γ} {m0 : α → Nat} {m1 : β → Nat} {m2 : γ → Nat} (b0 : BOpens P f0.type d0 m0) (b1 : BOpens P f1.type d1 m1) (b2 : BOpens P f2.type d2 m2)
    {H : Type} (enc : TypeId × Value → H) (w : World) (base : Nat) (spare : Nat → Bool) (fuel : Nat) (cs : List Value) (y : DataW H × List MemPlace) (h : DataW.trod enc P w base spare true fuel t cs = some y) :
    ∃ x0 x1 x2 c0 c1 c2, cs = [c0, c1, c2] ∧ d0.K w x0 [c0] ∧ d1.K w x1 [c1] ∧ d2.K w x2 [c2] ∧ m0 x0 + m1 x1 + m2 x2 + 1 ≤ Rows.uptoBulk y.1 := by
  obtain ⟨y0, y1, y2, n, rfl, hl, h0, h1, h2⟩ := Go.Deep.trod_struct3 ht h
  have hl3 : cs.length = 3 := hl.trans hc
  rw [o0, e0] at h0
  rw [o1, e1] at h1
  rw [o2, e2] at h2
  match cs, hl3 with
  | [c0, c1, c2], _ =>
    obtain ⟨x0, k0, q0⟩ := b0 enc w base spare n [c0] y0 h0
    obtain ⟨x1, k1, q1⟩ := b1 enc w base spare n [c1] y1 h1
    obtain ⟨x2, k2, q2⟩ := b2 enc w base spare n [c2] y2 h2
    refine ⟨x0, x1, x2, c0, c1, c2, rfl, k0, k1, k2, ?_⟩
    simp only [Rows.uptoBulk, Rows.uptoBulkAll]
    omega
end Go.Proofs.Ythlneooboiphdaa
