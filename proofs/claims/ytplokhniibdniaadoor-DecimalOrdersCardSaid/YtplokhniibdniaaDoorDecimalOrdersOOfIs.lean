/- decimal.Of and awake, as they are printed. -/
import Derived.Test.YtplokhniibdniaaDoorPDecimalOrdersx3
import Derived.Test.YtplokhniibdniaaDoorDecShift
namespace Go.Proofs.YtplokhniibdniaaDoor.PDecimalOrders
open Go.RowKit Go.Proofs.YtplokhniibdniaaDoorW.PrintWords Go.Proofs.YtplokhniibdniaaDoorW.PrintLast Go.Proofs.YtplokhniibdniaaDoorW.PrintMore Go.Proofs.YtplokhniibdniaaDoor.Dec Go.Proofs.YtplokhniibdniaaDoor.Reader

theorem read_at (s : ByteArray) (i : Nat) (hi : i ≤ s.size) (hs : s.size ≤ 1152921504606846976) (hr : s.size ≤ i + 140737488355328) : decimal_Read.f s (i : Int) = some (readOf s i) := by
  unfold decimal_Read.f
  rw [if_neg (by omega), if_pos ⟨hs, by omega⟩]
  rfl
/-- What Of tells. -/
def ofR (r : Bool × ByteArray × Int × Int × Int) (n : Nat) : Bool × ByteArray × Int × Int :=
  if r.2.2.2.2 = 110 then (false, ⟨#[]⟩, 0, 110) else if r.2.2.2.1 < (n : Int) then (false, ⟨#[]⟩, 0, 110) else (r.1, r.2.1, r.2.2.1, r.2.2.2.2)
theorem of_is (s : ByteArray) (hs : s.size ≤ 140737488355328) : decimal_Of.f s = some (ofR (readOf s 0) s.size) := by
  unfold decimal_Of.f ofR
  have := read_at s 0 (Nat.zero_le _) (by omega) (by omega)
  rw [show ((0 : Nat) : Int) = 0 from rfl] at this
  rw [this, Option.bind_some]
  split
  · rfl
  · split <;> rfl
theorem awake_is : quarrylaw11_awake.f = some true := by
  have ht : (⟨#[49, 50, 53]⟩ : ByteArray).toList = [49, 50, 53] := by
    rw [ByteArray.toList_eq]
  unfold quarrylaw11_awake.f
  rw [of_is _ (by decide), Option.bind_some, of_is _ (by decide), Option.bind_some]
  have h1 : ofR (readOf (⟨#[45, 49, 50, 46, 53, 48, 101, 51]⟩ : ByteArray) 0) (⟨#[45, 49, 50, 46, 53, 48, 101, 51]⟩ : ByteArray).size = (true, ⟨#[49, 50, 53]⟩, 2, 0) := by decide +kernel
  have h2 : ofR (readOf (⟨#[48, 49]⟩ : ByteArray) 0) (⟨#[48, 49]⟩ : ByteArray).size = (false, ⟨#[]⟩, 0, 110) := by decide +kernel
  rw [h1, h2]
  simp only
  rw [ht]
  rfl
end Go.Proofs.YtplokhniibdniaaDoor.PDecimalOrders
