/- words.Select in the form that the printed texts call. -/
import Derived.Test.YtahmpmlbonpabaaDoorSelect
import Derived.Test.YtahmpmlbonpabaaDoorTab
import Derived.Test.YtahmpmlbonpabaaDoorWMore
namespace Go.Proofs.YtahmpmlbonpabaaDoor
open Go.RowKit Go.Proofs.YtahmpmlbonpabaaDoorW.PrintWords Go.Proofs.YtahmpmlbonpabaaDoorW.PrintLast Go.Proofs.YtahmpmlbonpabaaDoorW.PrintMore

def u64ok (a : Int) : Prop := 0 ≤ a ∧ a < 18446744073709551616
instance (a : Int) : Decidable (u64ok a) := inferInstanceAs (Decidable (_ ∧ _))
def i64ok (a : Int) : Prop := -9223372036854775808 ≤ a ∧ a < 9223372036854775808
instance (a : Int) : Decidable (i64ok a) := inferInstanceAs (Decidable (_ ∧ _))
/-- What words.Select tells. -/
def words_Select.f (a0 a1 : Int) : Option Int := if u64ok a0 ∧ i64ok a1 then some (selectOf a0.toNat a1) else none
theorem words_Select.calls (a0 a1 : Int) (r : Int) (w : World) (h : words_Select.f a0 a1 = some r) (hT : TabW w := by first | exact hT | exact TabW.drewN hT _ | (refine TabW.below hT ?_; repeat (first | (with_reducible exact HB.out) | (with_reducible exact Below.refl _ _) | apply below_alloc | apply pw_below_drewN | apply below_drew1 | apply below_drew | assumption))) :
    Calls Tryd.prog 47 #[.int .u64 a0, .int .i64 a1] w fun e w' => e = .returned (.int .i64 r) ∧ Below w.heap.size w w' := by
  unfold words_Select.f at h
  by_cases hc : u64ok a0 ∧ i64ok a1
  · rw [if_pos hc] at h
    obtain ⟨⟨h1, h2⟩, h3⟩ := hc
    obtain rfl := Option.some.inj h
    obtain ⟨x, rfl⟩ := Int.eq_ofNat_of_zero_le h1
    rw [Int.toNat_natCast]
    exact select_calls x (by omega) a1 h3 w hT.tz hT.lt
  · rw [if_neg hc] at h
    cases h
end Go.Proofs.YtahmpmlbonpabaaDoor
