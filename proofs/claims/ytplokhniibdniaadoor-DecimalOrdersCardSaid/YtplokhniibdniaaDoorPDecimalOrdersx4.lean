/- DecimalOrders: what the call returns, by the walk of its paths. By hand. -/
import Derived.Test.YtplokhniibdniaaDoorOrdWalk
import Derived.Test.YtplokhniibdniaaDoorOrdPure
namespace Go.Proofs.YtplokhniibdniaaDoor.PDecimalOrders
open Go.RowKit Go.Proofs.YtplokhniibdniaaDoorW.PrintWords Go.Proofs.YtplokhniibdniaaDoorW.PrintLast Go.Proofs.YtplokhniibdniaaDoorW.PrintMore Go.Proofs.YtplokhniibdniaaDoor.Dec
set_option linter.unusedVariables false

/-- True of all texts that are no longer than a text may be. -/
def quarrylaw11_DecimalOrders.f (a0_0 : Bool) (a0_1 : ByteArray) (a0_2 : Int) (a1_0 : Bool) (a1_1 : ByteArray) (a1_2 : Int) (a2_0 : Bool) (a2_1 : ByteArray) (a2_2 : Int) : Option (Bool) :=
  if a0_1.size ≤ 140737488351232 ∧ a1_1.size ≤ 140737488351232 ∧ a2_1.size ≤ 140737488351232 then some true else none
theorem quarrylaw11_DecimalOrders.calls (na : Bool) (sa : ByteArray) (ea : Int) (nb : Bool) (sb : ByteArray) (eb : Int) (nc : Bool) (sc : ByteArray) (ec : Int) (r : Bool) (w : World) (h : quarrylaw11_DecimalOrders.f na sa ea nb sb eb nc sc ec = some r) (hT : TabW w) :
    Calls Tryd.prog 8 #[.agg #[.bool na, .string sa, .int .i64 ea], .agg #[.bool nb, .string sb, .int .i64 eb], .agg #[.bool nc, .string sc, .int .i64 ec]] w fun e w' => e = .returned (.bool r) ∧ Below w.heap.size w w' := by
  unfold quarrylaw11_DecimalOrders.f at h
  split at h
  case isFalse => cases h
  rename_i hs
  obtain ⟨ha, hb, hc⟩ := hs
  cases h
  obtain ⟨k, hk⟩ : ∃ k, k = sa.size + sb.size + sc.size + 20 := ⟨_, rfl⟩
  have fa := formed_is na sa ea ha k (by omega)
  have fb := formed_is nb sb eb hb k (by omega)
  have fc := formed_is nc sc ec hc k (by omega)
  have gab := cmp_is na sa ea nb sb eb ha hb k (by omega)
  cases qa : fm sa ea
  · rw [qa] at fa
    rw [cmp_bad (by rw [qa]; rfl)] at gab
    exact bad_a na sa ea nb sb eb nc sc ec w hT k fa gab
  rw [qa] at fa
  cases qb : fm sb eb
  · rw [qb] at fb
    rw [cmp_bad (by rw [qa, qb]; rfl)] at gab
    exact bad_b na sa ea nb sb eb nc sc ec w hT k fa fb gab
  rw [qb] at fb
  rw [cmp_good qa qb] at gab
  cases qc : fm sc ec
  · rw [qc] at fc
    exact bad_c na sa ea nb sb eb nc sc ec w hT k fa fb fc _ gab
  rw [qc] at fc
  have gbc := cmp_is nb sb eb nc sc ec hb hc k (by omega)
  have gac := cmp_is na sa ea nc sc ec ha hc k (by omega)
  have gba := cmp_is nb sb eb na sa ea hb ha k (by omega)
  have gnn := cmp_is (!na) sa ea (!nb) sb eb ha hb k (by omega)
  rw [cmp_good qb qc] at gbc
  rw [cmp_good qa qc] at gac
  rw [cmp_good qb qa, cv_anti na sa ea nb sb eb] at gba
  rw [cmp_good qa qb, cv_flip na sa ea nb sb eb] at gnn
  have v1 := cv_vals na sa ea nb sb eb
  have tr := cv_trans na sa ea nb sb eb nc sc ec
  generalize cv na sa ea nb sb eb = x at *
  generalize cv nb sb eb nc sc ec = y at *
  generalize cv na sa ea nc sc ec = z at *
  by_cases p1 : 0 < x
  · exact good_a na sa ea nb sb eb nc sc ec w hT k fa fb fc x y z gab gbc gac gba (by omega) (by omega) gnn p1
  by_cases p2 : 0 < y
  · exact good_b na sa ea nb sb eb nc sc ec w hT k fa fb fc x y z gab gbc gac gba (by omega) (by omega) gnn (by omega) p2
  obtain ⟨t1, t2⟩ := tr (by omega) (by omega)
  by_cases p3 : z < 0
  · exact good_c na sa ea nb sb eb nc sc ec w hT k fa fb fc x y z gab gbc gac gba (by omega) (by omega) gnn (by omega) (by omega) p3
  obtain rfl : z = 0 := by omega
  obtain ⟨rfl, rfl⟩ := t2 rfl
  exact good_d na sa ea nb sb eb nc sc ec w hT k fa fb fc 0 gab gbc gac gba (by decide) (by decide) gnn rfl
end Go.Proofs.YtplokhniibdniaaDoor.PDecimalOrders
