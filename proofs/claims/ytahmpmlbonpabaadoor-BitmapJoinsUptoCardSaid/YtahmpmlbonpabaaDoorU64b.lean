/- Building a word bit by bit, and reading its bits. Plain Lean, no program. -/
import Derived.Test.YtahmpmlbonpabaaDoorU64
import Derived.Test.YtahmpmlbonpabaaDoorWMore
namespace Go.Proofs.YtahmpmlbonpabaaDoor.U64
open Go.RowKit Go.Proofs.YtahmpmlbonpabaaDoorW.PrintWords Go.Proofs.YtahmpmlbonpabaaDoorW.PrintLast Go.Proofs.YtahmpmlbonpabaaDoorW.PrintMore

theorem u64_small {i : Int} (h0 : 0 ≤ i) (h1 : i < 64) : IntKind.u64.wrap i = i := by
  rw [IntKind.wrap_u64]
  omega
theorem shr_word (b : BitVec 64) (i : Nat) (hi : i < 64) : shr .u64 (I b) (IntKind.u64.wrap (i : Int)) = I (b >>> i) := by
  rw [u64_small (by omega) (by omega)]
  unfold shr
  rw [Int.toNat_natCast, Nat.min_eq_left (by simp [IntKind.bits]; omega), shr_I]
end Go.Proofs.YtahmpmlbonpabaaDoor.U64
