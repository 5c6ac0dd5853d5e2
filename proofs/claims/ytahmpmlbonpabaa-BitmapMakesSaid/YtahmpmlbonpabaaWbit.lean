/- A row of words: is a place set? -/
import Derived.Test.YtahmpmlbonpabaaU64
namespace Go.Proofs.Ytahmpmlbonpabaa.Ones
/-- A row of words: is a place set? -/
def wbit (ws : List Nat) (i : Nat) : Bool := (ws.getD (i / 64) 0).testBit (i % 64)
theorem wbit_at (ws : List Nat) (q i : Nat) (hi : i < 64) : wbit ws (64 * q + i) = (ws.getD q 0).testBit i := by
  unfold wbit
  have e1 : (64 * q + i) / 64 = q := by omega
  have e2 : (64 * q + i) % 64 = i := by omega
  rw [e1, e2]
end Go.Proofs.Ytahmpmlbonpabaa.Ones
