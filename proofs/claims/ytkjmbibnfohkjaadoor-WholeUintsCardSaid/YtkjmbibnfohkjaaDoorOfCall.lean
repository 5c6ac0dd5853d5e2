/- decimal.Of, under the name that the printed texts call. -/
import Derived.Test.YtkjmbibnfohkjaaDoorPOfFx1
import Derived.Test.YtkjmbibnfohkjaaDoorWholeBase
namespace Go.Proofs.YtkjmbibnfohkjaaDoor
open Go.RowKit Go.Proofs.YtkjmbibnfohkjaaDoor.Dec Go.Proofs.YtkjmbibnfohkjaaDoor.Reader Go.Proofs.YtkjmbibnfohkjaaDoor.Whole
def decimal_Of.f (s : ByteArray) : Option (Bool × ByteArray × Int × Int) := if s.size ≤ 140737488355328 then some (ofR (readOf s 0) s.size) else none
theorem decimal_Of.calls (a0 : ByteArray) (r1 : Bool) (r2 : ByteArray) (r3 : Int) (r4 : Int) (w : World) (h : decimal_Of.f a0 = some (r1, r2, r3, r4)) :
    Calls Tryd.prog 32 #[.string a0] w fun e w' => e = .returned (.tuple #[.agg #[.bool r1, .string r2, .int .i64 r3], .int .i64 r4]) ∧ Below w.heap.size w w' := by
  refine POfF.decimal_Of.calls a0 r1 r2 r3 r4 w ?_
  unfold decimal_Of.f at h
  split at h
  · rename_i hs
    rw [← h]
    unfold POfF.decimal_Of.f decimal_Read.f ofR
    rw [if_neg (by omega), if_pos ⟨by omega, by omega⟩, Option.bind_some, show (0 : Int).toNat = 0 from rfl, apply_ite some, apply_ite some]
  · cases h
end Go.Proofs.YtkjmbibnfohkjaaDoor
