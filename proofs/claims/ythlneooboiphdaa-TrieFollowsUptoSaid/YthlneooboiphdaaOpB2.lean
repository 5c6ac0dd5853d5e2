/- Openings for second forms: a truth, a struct of four fields. -/
import Derived.Test.YthlneooboiphdaaOpB
import Derived.Lib.SmallJoins
namespace Go.Proofs.Ythlneooboiphdaa
open Go.RowKit Go.Joins Go.Proofs.YthlneooboiphdaaW.PrintWords
theorem bopens_bool {P : Program} {t : TypeId} (ht : P.underlying t = some .bool) : BOpens P t Kd.bool (fun _ => 1) := by
  intro H enc w base spare fuel cs y h
  obtain ⟨n, hcs, hy⟩ := DataW.trod_bool ht h
  subst hy
  exact ⟨n, hcs, by simp [Rows.uptoBulk]⟩
theorem bopens_four {P : Program} {t : TypeId} {f0 f1 f2 f3 : Field} (ht : P.underlying t = some (.struct #[f0, f1, f2, f3])) (o0 : f0.offset = 0) (o1 : f1.offset = 1) (o2 : f2.offset = 2) (o3 : f3.offset = 3) (hc : P.cellsOf t = 4)
    (e0 : P.cellsOf f0.type = 1) (e1 : P.cellsOf f1.type = 1) (e2 : P.cellsOf f2.type = 1) (e3 : P.cellsOf f3.type = 1) {α β γ δ : Type} {d0 : Kd α} {d1 : Kd β} {d2 : Kd γ} {d3 : Kd δ} {m0 : α → Nat} {m1 : β → Nat} {m2 : γ → Nat} {m3 : δ → Nat} (b0 : BOpens P f0.type d0 m0) (b1 : BOpens P f1.type d1 m1) (b2 : BOpens P f2.type d2 m2) (b3 : BOpens P f3.type d3 m3)
    {H : Type} (enc : TypeId × Value → H) (w : World) (base : Nat) (spare : Nat → Bool) (fuel : Nat) (cs : List Value) (y : DataW H × List MemPlace) (h : DataW.trod enc P w base spare true fuel t cs = some y) :
    ∃ x0 x1 x2 x3 c0 c1 c2 c3, cs = [c0, c1, c2, c3] ∧ d0.K w x0 [c0] ∧ d1.K w x1 [c1] ∧ d2.K w x2 [c2] ∧ d3.K w x3 [c3] ∧ m0 x0 + m1 x1 + m2 x2 + m3 x3 + 1 ≤ Rows.uptoBulk y.1 := by
  obtain ⟨y0, y1, y2, y3, n, rfl, hl, h0, h1, h2, h3⟩ := trod_struct4 ht h
  have hl3 : cs.length = 4 := hl.trans hc
  rw [o0, e0] at h0
  rw [o1, e1] at h1
  rw [o2, e2] at h2
  rw [o3, e3] at h3
  match cs, hl3 with
  | [c0, c1, c2, c3], _ =>
    obtain ⟨x0, k0, q0⟩ := b0 enc w base spare n [c0] y0 h0
    obtain ⟨x1, k1, q1⟩ := b1 enc w base spare n [c1] y1 h1
    obtain ⟨x2, k2, q2⟩ := b2 enc w base spare n [c2] y2 h2
    obtain ⟨x3, k3, q3⟩ := b3 enc w base spare n [c3] y3 h3
    refine ⟨x0, x1, x2, x3, c0, c1, c2, c3, rfl, k0, k1, k2, k3, ?_⟩
    simp only [Rows.uptoBulk, Rows.uptoBulkAll]
    omega
end Go.Proofs.Ythlneooboiphdaa
