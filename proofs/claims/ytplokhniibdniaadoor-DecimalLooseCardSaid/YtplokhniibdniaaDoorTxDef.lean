/- What a decimal is written as. Plain Lean. -/
import Derived.Test.YtplokhniibdniaaDoorFmDef
import Derived.Lib.ItoaLen
import Derived.Lib.ItoaNum
namespace Go.Proofs.YtplokhniibdniaaDoor.Dec
open Go.RowKit Go.Proofs.YtplokhniibdniaaDoorW.PrintWords Go.Proofs.YtplokhniibdniaaDoorW.PrintLast Go.Proofs.YtplokhniibdniaaDoorW.PrintMore

/-- The digits as they are written. -/
def shown (s : ByteArray) : ByteArray := if s.size = 0 then ⟨#[48]⟩ else s
/-- With the sign. -/
def signed (n : Bool) (s : ByteArray) : ByteArray := if n = true then (⟨#[45]⟩ : ByteArray) ++ shown s else shown s
/-- The exponent as it is written. -/
def expText (e : Int) : ByteArray := if e = 0 then ⟨#[]⟩ else (⟨#[101]⟩ : ByteArray) ++ ⟨(Lib.itoa e).toArray⟩
/-- What Text tells. -/
def textOf (n : Bool) (s : ByteArray) (e : Int) : ByteArray × Int :=
  if fm s e = false then (⟨#[]⟩, 1) else (signed n s ++ expText e, 0)
theorem app_nil (s : ByteArray) : s ++ (⟨#[]⟩ : ByteArray) = s := by
  apply ByteArray.ext
  simp
theorem app_assoc (a b c : ByteArray) : a ++ b ++ c = a ++ (b ++ c) := by
  apply ByteArray.ext
  simp
theorem app_size (a b : ByteArray) : (a ++ b).size = a.size + b.size := by
  simp
theorem one_size (c : UInt8) : (⟨#[c]⟩ : ByteArray).size = 1 := rfl
theorem shown_size (s : ByteArray) : (shown s).size ≤ s.size + 1 := by
  unfold shown
  split
  · show 1 ≤ _
    omega
  · omega
theorem itoa_size (e : Int) (h0 : -9223372036854775808 ≤ e) (h1 : e ≤ 9223372036854775807) : (⟨(Lib.itoa e).toArray⟩ : ByteArray).size ≤ 21 := by
  show (Lib.itoa e).toArray.size ≤ 21
  rw [List.size_toArray]
  exact Lib.itoa_length_le e h0 h1
end Go.Proofs.YtplokhniibdniaaDoor.Dec
