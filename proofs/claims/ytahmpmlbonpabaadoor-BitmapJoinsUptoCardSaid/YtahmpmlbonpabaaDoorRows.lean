/-
  NARROWER THAN 'FOR EVERY INPUT', by the rows' own cells (each row's printed sentence says how): BitmapAsks: laid · BitmapRanks: laid · BitmapJoins: laid · BitmapEach: laid · BitmapTurns: laid · BitmapKeeps: laid · BitmapAlgebra: laid.
  DERIVED. THE GIVEN ROWS OF THIS SEAT. 7 by the template 'for every input the law returns true; each argument reads behind the call as it read before'; 0 by the template 'total and deterministic' (their statements: YtahmpmlbonpabaaDoorTotals.lean).
  GIVEN WITH THE SEED: the statements are not yours to turn. If you find one false, say at which input.
  Laid BY PROGRAM, IN A SANDBOX (cutbox-rows.mjs): the forced cells as the released guide's own fill.sh prints them over the translation 119db6e9f691fb77… (all of the seat's roots in one cut). By AI agents, Wed Nov 11 2026. No macro, syntax, notation, axiom, sorry.
-/
import Derived.Test.YtahmpmlbonpabaaDoorChecked
import GoSem.Claim
import GoSem.ClaimJoined
import GoSem.ClaimMapViews
import Derived.JoinedTies
import Derived.KernelRfl
namespace Go.Proofs.YtahmpmlbonpabaaDoor
/- THE CELL 'sum', in the pinned program and in every row, IS THE sha256 OF THE DUMP (.gsa) THAT YtahmpmlbonpabaaDoorProg.lean LOADS. Nothing in Lean hashes anything: it is a label: what it is worth is what the hold of that sum in a sandbox is worth. -/
noncomputable def Tryd.pinned : Pinned := { name := "ytahmpmlbonpabaadoor", sum := "119db6e9f691fb77a121d4c21bb10cd92b221135bc51630d38703d8e9a82d15a", checked := Tryd.checked }
namespace Rows
def none {H : Type} : Left H := { results := [], args := [] }

/- WHAT THE LISTED PACKAGE-LEVEL VARIABLES READ AS WHEN THE CALL BEGINS. Each datum BY PROGRAM (the guide's laid-datum.mjs) off the statement by which the dump's own 'gosem.cut.vars' lays the variable. In a bare row this is a premise. The card (YtahmpmlbonpabaaDoorCards.lean) ties it to the program's text. -/
def laid_math_bits_deBruijn64tab {H : Type} : DataW H := .agg [.lit (.int .u8 0), .lit (.int .u8 1), .lit (.int .u8 56), .lit (.int .u8 2), .lit (.int .u8 57), .lit (.int .u8 49), .lit (.int .u8 28), .lit (.int .u8 3), .lit (.int .u8 61), .lit (.int .u8 58), .lit (.int .u8 42), .lit (.int .u8 50), .lit (.int .u8 38), .lit (.int .u8 29), .lit (.int .u8 17), .lit (.int .u8 4), .lit (.int .u8 62), .lit (.int .u8 47), .lit (.int .u8 59), .lit (.int .u8 36), .lit (.int .u8 45), .lit (.int .u8 43), .lit (.int .u8 51), .lit (.int .u8 22), .lit (.int .u8 53), .lit (.int .u8 39), .lit (.int .u8 33), .lit (.int .u8 30), .lit (.int .u8 24), .lit (.int .u8 18), .lit (.int .u8 12), .lit (.int .u8 5), .lit (.int .u8 63), .lit (.int .u8 55), .lit (.int .u8 48), .lit (.int .u8 27), .lit (.int .u8 60), .lit (.int .u8 41), .lit (.int .u8 37), .lit (.int .u8 16), .lit (.int .u8 46), .lit (.int .u8 35), .lit (.int .u8 44), .lit (.int .u8 21), .lit (.int .u8 52), .lit (.int .u8 32), .lit (.int .u8 23), .lit (.int .u8 11), .lit (.int .u8 54), .lit (.int .u8 26), .lit (.int .u8 40), .lit (.int .u8 15), .lit (.int .u8 34), .lit (.int .u8 20), .lit (.int .u8 31), .lit (.int .u8 10), .lit (.int .u8 25), .lit (.int .u8 14), .lit (.int .u8 19), .lit (.int .u8 9), .lit (.int .u8 13), .lit (.int .u8 8), .lit (.int .u8 7), .lit (.int .u8 6)]

/-- 'quarrylaw04.BitmapAsks': WHATEVER THE INPUT: true; the input reads as it did. -/
def bitmapAsksSpec : ChangeSpec := { name := "bitmapAsks", fn := fun _ => fun
  | [d1, d2, d3] => { results := [.lit (.bool true)], args := [d1, d2, d3] }
  | _ => none }
def bitmapAsksRow : OpenClaim := { program := "ytahmpmlbonpabaadoor", sum := "119db6e9f691fb77a121d4c21bb10cd92b221135bc51630d38703d8e9a82d15a", func := "quarry/quarrylaw04.BitmapAsks", spec := "bitmapAsks", unfollowed := true, recurses := true, named := ["math/bits.deBruijn64tab"], apart := false, laid := [("math/bits.deBruijn64tab", laid_math_bits_deBruijn64tab)] }
def BitmapAsksSaid : Prop := bitmapAsksRow.holds Tryd.pinned (OpenSpec.ofChange bitmapAsksSpec)

/-- ITS FALSE NEIGHBOUR: 'it returns false'. Refute it at one input. -/
def bitmapAsksWrong : ChangeSpec := { name := "bitmapAsks", fn := fun _ => fun
  | [d1, d2, d3] => { results := [.lit (.bool false)], args := [d1, d2, d3] }
  | _ => none }
def BitmapAsksWrongFalsely : Prop := bitmapAsksRow.holds Tryd.pinned (OpenSpec.ofChange bitmapAsksWrong)

/-- 'quarrylaw04.BitmapRanks': WHATEVER THE INPUT: true; the input reads as it did. -/
def bitmapRanksSpec : ChangeSpec := { name := "bitmapRanks", fn := fun _ => fun
  | [d1, d2, d3] => { results := [.lit (.bool true)], args := [d1, d2, d3] }
  | _ => none }
def bitmapRanksRow : OpenClaim := { program := "ytahmpmlbonpabaadoor", sum := "119db6e9f691fb77a121d4c21bb10cd92b221135bc51630d38703d8e9a82d15a", func := "quarry/quarrylaw04.BitmapRanks", spec := "bitmapRanks", unfollowed := true, recurses := true, named := ["math/bits.deBruijn64tab"], apart := false, laid := [("math/bits.deBruijn64tab", laid_math_bits_deBruijn64tab)] }
def BitmapRanksSaid : Prop := bitmapRanksRow.holds Tryd.pinned (OpenSpec.ofChange bitmapRanksSpec)

/-- ITS FALSE NEIGHBOUR: 'it returns false'. Refute it at one input. -/
def bitmapRanksWrong : ChangeSpec := { name := "bitmapRanks", fn := fun _ => fun
  | [d1, d2, d3] => { results := [.lit (.bool false)], args := [d1, d2, d3] }
  | _ => none }
def BitmapRanksWrongFalsely : Prop := bitmapRanksRow.holds Tryd.pinned (OpenSpec.ofChange bitmapRanksWrong)

/-- 'quarrylaw04.BitmapJoins': WHATEVER THE INPUT: true; the input reads as it did. -/
def bitmapJoinsSpec : ChangeSpec := { name := "bitmapJoins", fn := fun _ => fun
  | [d1, d2] => { results := [.lit (.bool true)], args := [d1, d2] }
  | _ => none }
def bitmapJoinsRow : OpenClaim := { program := "ytahmpmlbonpabaadoor", sum := "119db6e9f691fb77a121d4c21bb10cd92b221135bc51630d38703d8e9a82d15a", func := "quarry/quarrylaw04.BitmapJoins", spec := "bitmapJoins", unfollowed := true, recurses := true, named := ["math/bits.deBruijn64tab"], apart := false, laid := [("math/bits.deBruijn64tab", laid_math_bits_deBruijn64tab)] }
def BitmapJoinsSaid : Prop := bitmapJoinsRow.holds Tryd.pinned (OpenSpec.ofChange bitmapJoinsSpec)

/-- ITS FALSE NEIGHBOUR: 'it returns false'. Refute it at one input. -/
def bitmapJoinsWrong : ChangeSpec := { name := "bitmapJoins", fn := fun _ => fun
  | [d1, d2] => { results := [.lit (.bool false)], args := [d1, d2] }
  | _ => none }
def BitmapJoinsWrongFalsely : Prop := bitmapJoinsRow.holds Tryd.pinned (OpenSpec.ofChange bitmapJoinsWrong)

/-- 'quarrylaw04.BitmapEach': WHATEVER THE INPUT: true; the input reads as it did. -/
def bitmapEachSpec : ChangeSpec := { name := "bitmapEach", fn := fun _ => fun
  | [d1, d2] => { results := [.lit (.bool true)], args := [d1, d2] }
  | _ => none }
def bitmapEachRow : OpenClaim := { program := "ytahmpmlbonpabaadoor", sum := "119db6e9f691fb77a121d4c21bb10cd92b221135bc51630d38703d8e9a82d15a", func := "quarry/quarrylaw04.BitmapEach", spec := "bitmapEach", unfollowed := true, recurses := true, named := ["math/bits.deBruijn64tab"], apart := false, laid := [("math/bits.deBruijn64tab", laid_math_bits_deBruijn64tab)] }
def BitmapEachSaid : Prop := bitmapEachRow.holds Tryd.pinned (OpenSpec.ofChange bitmapEachSpec)

/-- ITS FALSE NEIGHBOUR: 'it returns false'. Refute it at one input. -/
def bitmapEachWrong : ChangeSpec := { name := "bitmapEach", fn := fun _ => fun
  | [d1, d2] => { results := [.lit (.bool false)], args := [d1, d2] }
  | _ => none }
def BitmapEachWrongFalsely : Prop := bitmapEachRow.holds Tryd.pinned (OpenSpec.ofChange bitmapEachWrong)

/-- 'quarrylaw04.BitmapTurns': WHATEVER THE INPUT: true; the input reads as it did. -/
def bitmapTurnsSpec : ChangeSpec := { name := "bitmapTurns", fn := fun _ => fun
  | [d] => { results := [.lit (.bool true)], args := [d] }
  | _ => none }
def bitmapTurnsRow : OpenClaim := { program := "ytahmpmlbonpabaadoor", sum := "119db6e9f691fb77a121d4c21bb10cd92b221135bc51630d38703d8e9a82d15a", func := "quarry/quarrylaw04.BitmapTurns", spec := "bitmapTurns", unfollowed := true, recurses := true, named := ["math/bits.deBruijn64tab"], apart := false, laid := [("math/bits.deBruijn64tab", laid_math_bits_deBruijn64tab)] }
def BitmapTurnsSaid : Prop := bitmapTurnsRow.holds Tryd.pinned (OpenSpec.ofChange bitmapTurnsSpec)

/-- ITS FALSE NEIGHBOUR: 'it returns false'. Refute it at one input. -/
def bitmapTurnsWrong : ChangeSpec := { name := "bitmapTurns", fn := fun _ => fun
  | [d] => { results := [.lit (.bool false)], args := [d] }
  | _ => none }
def BitmapTurnsWrongFalsely : Prop := bitmapTurnsRow.holds Tryd.pinned (OpenSpec.ofChange bitmapTurnsWrong)

/-- 'quarrylaw04.BitmapKeeps': WHATEVER THE INPUT: true; the input reads as it did. -/
def bitmapKeepsSpec : ChangeSpec := { name := "bitmapKeeps", fn := fun _ => fun
  | [d1, d2, d3] => { results := [.lit (.bool true)], args := [d1, d2, d3] }
  | _ => none }
def bitmapKeepsRow : OpenClaim := { program := "ytahmpmlbonpabaadoor", sum := "119db6e9f691fb77a121d4c21bb10cd92b221135bc51630d38703d8e9a82d15a", func := "quarry/quarrylaw04.BitmapKeeps", spec := "bitmapKeeps", unfollowed := true, recurses := true, named := ["math/bits.deBruijn64tab"], apart := false, laid := [("math/bits.deBruijn64tab", laid_math_bits_deBruijn64tab)] }
def BitmapKeepsSaid : Prop := bitmapKeepsRow.holds Tryd.pinned (OpenSpec.ofChange bitmapKeepsSpec)

/-- ITS FALSE NEIGHBOUR: 'it returns false'. Refute it at one input. -/
def bitmapKeepsWrong : ChangeSpec := { name := "bitmapKeeps", fn := fun _ => fun
  | [d1, d2, d3] => { results := [.lit (.bool false)], args := [d1, d2, d3] }
  | _ => none }
def BitmapKeepsWrongFalsely : Prop := bitmapKeepsRow.holds Tryd.pinned (OpenSpec.ofChange bitmapKeepsWrong)

/-- 'quarrylaw04.BitmapAlgebra': WHATEVER THE INPUT: true; the input reads as it did. -/
def bitmapAlgebraSpec : ChangeSpec := { name := "bitmapAlgebra", fn := fun _ => fun
  | [d1, d2] => { results := [.lit (.bool true)], args := [d1, d2] }
  | _ => none }
def bitmapAlgebraRow : OpenClaim := { program := "ytahmpmlbonpabaadoor", sum := "119db6e9f691fb77a121d4c21bb10cd92b221135bc51630d38703d8e9a82d15a", func := "quarry/quarrylaw04.BitmapAlgebra", spec := "bitmapAlgebra", unfollowed := true, recurses := true, named := ["math/bits.deBruijn64tab"], apart := false, laid := [("math/bits.deBruijn64tab", laid_math_bits_deBruijn64tab)] }
def BitmapAlgebraSaid : Prop := bitmapAlgebraRow.holds Tryd.pinned (OpenSpec.ofChange bitmapAlgebraSpec)

/-- ITS FALSE NEIGHBOUR: 'it returns false'. Refute it at one input. -/
def bitmapAlgebraWrong : ChangeSpec := { name := "bitmapAlgebra", fn := fun _ => fun
  | [d1, d2] => { results := [.lit (.bool false)], args := [d1, d2] }
  | _ => none }
def BitmapAlgebraWrongFalsely : Prop := bitmapAlgebraRow.holds Tryd.pinned (OpenSpec.ofChange bitmapAlgebraWrong)

/- THE SECOND FORM. 'bulk': how many values and letters a reading holds, each counted each time it is reached (what is shared counts as often as it is met; a slice's spare places count too). A statement '..UptoSaid' is the law's where the arguments, and the package variables that the reading takes, are together of bulk at most 1048576: NARROWER than '..Said'. Prove '..Said' where nothing that the law and all that it calls make is longer than what came in: it says more and counts as full. Else prove '..UptoSaid'. A law counts once. -/
mutual
def uptoBulk {H : Type} : DataW H → Nat
  | .lit (.string bytes) => bytes.length + 1
  | .lit _ => 1
  | .nil => 1
  | .ptr d => uptoBulk d + 1
  | .slice elems spare => uptoBulkAll elems + uptoBulkAll spare + 1
  | .agg parts => uptoBulkAll parts + 1
  | .iface _ d => uptoBulk d + 1
  | .map entries => uptoBulkEntries entries + 1
  | .held _ => 1
def uptoBulkAll {H : Type} : List (DataW H) → Nat
  | [] => 0
  | d :: r => uptoBulk d + uptoBulkAll r
def uptoBulkEntries {H : Type} : List (Lit × DataW H) → Nat
  | [] => 0
  | x :: r => uptoBulkEntry x + uptoBulkEntries r
def uptoBulkEntry {H : Type} : Lit × DataW H → Nat
  | (.string bytes, d) => bytes.length + uptoBulk d + 1
  | (_, d) => uptoBulk d + 1
 end
def uptoSmall : (H : Type) → List (DataW H) → Bool := fun _ ds => decide (uptoBulkAll ds ≤ 1048576)
def OpenSpec.upto (s : _root_.Go.ChangeSpec) : _root_.Go.OpenSpec := { _root_.Go.OpenSpec.ofChange s with cond := some uptoSmall }

/-- 'quarrylaw04.BitmapAsks', WHERE WHAT IT READS IS OF BULK AT MOST 1048576: true; the input reads as it did. -/
def bitmapAsksUptoRow : OpenClaim := { program := "ytahmpmlbonpabaadoor", sum := "119db6e9f691fb77a121d4c21bb10cd92b221135bc51630d38703d8e9a82d15a", func := "quarry/quarrylaw04.BitmapAsks", spec := "bitmapAsks", unfollowed := true, recurses := true, named := ["math/bits.deBruijn64tab"], apart := false, laid := [("math/bits.deBruijn64tab", laid_math_bits_deBruijn64tab)], narrowed := true }
def BitmapAsksUptoSaid : Prop := bitmapAsksUptoRow.holds Tryd.pinned (OpenSpec.upto bitmapAsksSpec)

/-- 'quarrylaw04.BitmapRanks', WHERE WHAT IT READS IS OF BULK AT MOST 1048576: true; the input reads as it did. -/
def bitmapRanksUptoRow : OpenClaim := { program := "ytahmpmlbonpabaadoor", sum := "119db6e9f691fb77a121d4c21bb10cd92b221135bc51630d38703d8e9a82d15a", func := "quarry/quarrylaw04.BitmapRanks", spec := "bitmapRanks", unfollowed := true, recurses := true, named := ["math/bits.deBruijn64tab"], apart := false, laid := [("math/bits.deBruijn64tab", laid_math_bits_deBruijn64tab)], narrowed := true }
def BitmapRanksUptoSaid : Prop := bitmapRanksUptoRow.holds Tryd.pinned (OpenSpec.upto bitmapRanksSpec)

/-- 'quarrylaw04.BitmapJoins', WHERE WHAT IT READS IS OF BULK AT MOST 1048576: true; the input reads as it did. -/
def bitmapJoinsUptoRow : OpenClaim := { program := "ytahmpmlbonpabaadoor", sum := "119db6e9f691fb77a121d4c21bb10cd92b221135bc51630d38703d8e9a82d15a", func := "quarry/quarrylaw04.BitmapJoins", spec := "bitmapJoins", unfollowed := true, recurses := true, named := ["math/bits.deBruijn64tab"], apart := false, laid := [("math/bits.deBruijn64tab", laid_math_bits_deBruijn64tab)], narrowed := true }
def BitmapJoinsUptoSaid : Prop := bitmapJoinsUptoRow.holds Tryd.pinned (OpenSpec.upto bitmapJoinsSpec)

/-- 'quarrylaw04.BitmapEach', WHERE WHAT IT READS IS OF BULK AT MOST 1048576: true; the input reads as it did. -/
def bitmapEachUptoRow : OpenClaim := { program := "ytahmpmlbonpabaadoor", sum := "119db6e9f691fb77a121d4c21bb10cd92b221135bc51630d38703d8e9a82d15a", func := "quarry/quarrylaw04.BitmapEach", spec := "bitmapEach", unfollowed := true, recurses := true, named := ["math/bits.deBruijn64tab"], apart := false, laid := [("math/bits.deBruijn64tab", laid_math_bits_deBruijn64tab)], narrowed := true }
def BitmapEachUptoSaid : Prop := bitmapEachUptoRow.holds Tryd.pinned (OpenSpec.upto bitmapEachSpec)

/-- 'quarrylaw04.BitmapTurns', WHERE WHAT IT READS IS OF BULK AT MOST 1048576: true; the input reads as it did. -/
def bitmapTurnsUptoRow : OpenClaim := { program := "ytahmpmlbonpabaadoor", sum := "119db6e9f691fb77a121d4c21bb10cd92b221135bc51630d38703d8e9a82d15a", func := "quarry/quarrylaw04.BitmapTurns", spec := "bitmapTurns", unfollowed := true, recurses := true, named := ["math/bits.deBruijn64tab"], apart := false, laid := [("math/bits.deBruijn64tab", laid_math_bits_deBruijn64tab)], narrowed := true }
def BitmapTurnsUptoSaid : Prop := bitmapTurnsUptoRow.holds Tryd.pinned (OpenSpec.upto bitmapTurnsSpec)

/-- 'quarrylaw04.BitmapKeeps', WHERE WHAT IT READS IS OF BULK AT MOST 1048576: true; the input reads as it did. -/
def bitmapKeepsUptoRow : OpenClaim := { program := "ytahmpmlbonpabaadoor", sum := "119db6e9f691fb77a121d4c21bb10cd92b221135bc51630d38703d8e9a82d15a", func := "quarry/quarrylaw04.BitmapKeeps", spec := "bitmapKeeps", unfollowed := true, recurses := true, named := ["math/bits.deBruijn64tab"], apart := false, laid := [("math/bits.deBruijn64tab", laid_math_bits_deBruijn64tab)], narrowed := true }
def BitmapKeepsUptoSaid : Prop := bitmapKeepsUptoRow.holds Tryd.pinned (OpenSpec.upto bitmapKeepsSpec)

/-- 'quarrylaw04.BitmapAlgebra', WHERE WHAT IT READS IS OF BULK AT MOST 1048576: true; the input reads as it did. -/
def bitmapAlgebraUptoRow : OpenClaim := { program := "ytahmpmlbonpabaadoor", sum := "119db6e9f691fb77a121d4c21bb10cd92b221135bc51630d38703d8e9a82d15a", func := "quarry/quarrylaw04.BitmapAlgebra", spec := "bitmapAlgebra", unfollowed := true, recurses := true, named := ["math/bits.deBruijn64tab"], apart := false, laid := [("math/bits.deBruijn64tab", laid_math_bits_deBruijn64tab)], narrowed := true }
def BitmapAlgebraUptoSaid : Prop := bitmapAlgebraUptoRow.holds Tryd.pinned (OpenSpec.upto bitmapAlgebraSpec)

end Rows
end Go.Proofs.YtahmpmlbonpabaaDoor
