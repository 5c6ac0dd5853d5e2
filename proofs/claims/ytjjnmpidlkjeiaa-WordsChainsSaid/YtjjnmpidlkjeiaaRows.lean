/-
  No cell of these rows narrows 'for every input' (looked for: loops, veiled, ifaces, maps, wideKeys, modest, calm, conditions, laid).
  DERIVED. THE GIVEN ROWS OF THIS SEAT. 4 by the template 'for every input the law returns true; each argument reads behind the call as it read before'; 0 by the template 'total and deterministic' (their statements: YtjjnmpidlkjeiaaTotals.lean).
  GIVEN WITH THE SEED: the statements are not yours to turn. If you find one false, say at which input.
  Laid BY PROGRAM, IN A SANDBOX (cutbox-rows.mjs): the forced cells as the released guide's own fill.sh prints them over the translation f8e72b2759998ff7… (all of the seat's roots in one cut). By AI agents, Wed Nov 11 2026. No macro, syntax, notation, axiom, sorry.
-/
import Derived.Test.YtjjnmpidlkjeiaaChecked
import GoSem.Claim
import GoSem.ClaimJoined
import GoSem.ClaimMapViews
import Derived.JoinedTies
import Derived.KernelRfl
namespace Go.Proofs.Ytjjnmpidlkjeiaa
/- THE CELL 'sum', in the pinned program and in every row, IS THE sha256 OF THE DUMP (.gsa) THAT YtjjnmpidlkjeiaaProg.lean LOADS. Nothing in Lean hashes anything: it is a label: what it is worth is what the hold of that sum in a sandbox is worth. -/
noncomputable def Try.pinned : Pinned := { name := "ytjjnmpidlkjeiaa", sum := "f8e72b2759998ff7cad0fddbc827e42fb021fe023796ade0ef4fdc7febee0e7f", checked := Try.checked }
namespace Rows
def none {H : Type} : Left H := { results := [], args := [] }

/-- 'quarrylaw03.WordsEscapes': WHATEVER THE INPUT: true; the input reads as it did. -/
def wordsEscapesSpec : ChangeSpec := { name := "wordsEscapes", fn := fun _ => fun
  | [d1, d2] => { results := [.lit (.bool true)], args := [d1, d2] }
  | _ => none }
def wordsEscapesRow : OpenClaim := { program := "ytjjnmpidlkjeiaa", sum := "f8e72b2759998ff7cad0fddbc827e42fb021fe023796ade0ef4fdc7febee0e7f", func := "quarry/quarrylaw03.WordsEscapes", spec := "wordsEscapes", apart := false }
def WordsEscapesSaid : Prop := wordsEscapesRow.holds Try.pinned (OpenSpec.ofChange wordsEscapesSpec)

/-- ITS FALSE NEIGHBOUR: 'it returns false'. Refute it at one input. -/
def wordsEscapesWrong : ChangeSpec := { name := "wordsEscapes", fn := fun _ => fun
  | [d1, d2] => { results := [.lit (.bool false)], args := [d1, d2] }
  | _ => none }
def WordsEscapesWrongFalsely : Prop := wordsEscapesRow.holds Try.pinned (OpenSpec.ofChange wordsEscapesWrong)

/-- 'quarrylaw03.WordsChains': WHATEVER THE INPUT: true; the input reads as it did. -/
def wordsChainsSpec : ChangeSpec := { name := "wordsChains", fn := fun _ => fun
  | [d1, d2] => { results := [.lit (.bool true)], args := [d1, d2] }
  | _ => none }
def wordsChainsRow : OpenClaim := { program := "ytjjnmpidlkjeiaa", sum := "f8e72b2759998ff7cad0fddbc827e42fb021fe023796ade0ef4fdc7febee0e7f", func := "quarry/quarrylaw03.WordsChains", spec := "wordsChains", apart := false }
def WordsChainsSaid : Prop := wordsChainsRow.holds Try.pinned (OpenSpec.ofChange wordsChainsSpec)

/-- ITS FALSE NEIGHBOUR: 'it returns false'. Refute it at one input. -/
def wordsChainsWrong : ChangeSpec := { name := "wordsChains", fn := fun _ => fun
  | [d1, d2] => { results := [.lit (.bool false)], args := [d1, d2] }
  | _ => none }
def WordsChainsWrongFalsely : Prop := wordsChainsRow.holds Try.pinned (OpenSpec.ofChange wordsChainsWrong)

/-- 'quarrylaw03.WordsParities': WHATEVER THE INPUT: true; the input reads as it did. -/
def wordsParitiesSpec : ChangeSpec := { name := "wordsParities", fn := fun _ => fun
  | [d1, d2, d3] => { results := [.lit (.bool true)], args := [d1, d2, d3] }
  | _ => none }
def wordsParitiesRow : OpenClaim := { program := "ytjjnmpidlkjeiaa", sum := "f8e72b2759998ff7cad0fddbc827e42fb021fe023796ade0ef4fdc7febee0e7f", func := "quarry/quarrylaw03.WordsParities", spec := "wordsParities", inPlace := ["math/bits.Add64"], apart := false }
def WordsParitiesSaid : Prop := wordsParitiesRow.holds Try.pinned (OpenSpec.ofChange wordsParitiesSpec)

/-- ITS FALSE NEIGHBOUR: 'it returns false'. Refute it at one input. -/
def wordsParitiesWrong : ChangeSpec := { name := "wordsParities", fn := fun _ => fun
  | [d1, d2, d3] => { results := [.lit (.bool false)], args := [d1, d2, d3] }
  | _ => none }
def WordsParitiesWrongFalsely : Prop := wordsParitiesRow.holds Try.pinned (OpenSpec.ofChange wordsParitiesWrong)

/-- 'quarrylaw03.WordsTurns': WHATEVER THE INPUT: true; the input reads as it did. -/
def wordsTurnsSpec : ChangeSpec := { name := "wordsTurns", fn := fun _ => fun
  | [d1, d2, d3] => { results := [.lit (.bool true)], args := [d1, d2, d3] }
  | _ => none }
def wordsTurnsRow : OpenClaim := { program := "ytjjnmpidlkjeiaa", sum := "f8e72b2759998ff7cad0fddbc827e42fb021fe023796ade0ef4fdc7febee0e7f", func := "quarry/quarrylaw03.WordsTurns", spec := "wordsTurns", inPlace := ["math/bits.Add64"], apart := false }
def WordsTurnsSaid : Prop := wordsTurnsRow.holds Try.pinned (OpenSpec.ofChange wordsTurnsSpec)

/-- ITS FALSE NEIGHBOUR: 'it returns false'. Refute it at one input. -/
def wordsTurnsWrong : ChangeSpec := { name := "wordsTurns", fn := fun _ => fun
  | [d1, d2, d3] => { results := [.lit (.bool false)], args := [d1, d2, d3] }
  | _ => none }
def WordsTurnsWrongFalsely : Prop := wordsTurnsRow.holds Try.pinned (OpenSpec.ofChange wordsTurnsWrong)

/- THE SECOND FORM. 'bulk': how many values and letters a reading holds, each counted each time it is reached (what is shared counts as often as it is met; a slice's spare places count too). A statement '..UptoSaid' is the law's where the arguments, and the package variables that the reading takes, are together of bulk at most 1048576: NARROWER than '..Said'. Prove '..Said' where nothing that the law and all that it calls make is longer than what came in: it says more and counts as full. Else prove '..UptoSaid'. A law counts once. -/
mutual
def uptoBulk {H : Type} : DataW H → Nat
  | .lit (.string bytes) => bytes.length + 1
  | .lit _ => 1
  | .nil => 1
  | .ptr d => uptoBulk d + 1
  | .slice elems spare => uptoBulkAll elems + uptoBulkAll spare + 1
  | .agg parts => uptoBulkAll parts + 1
  | .iface _ d => uptoBulk d + 1
  | .map entries => uptoBulkEntries entries + 1
  | .held _ => 1
def uptoBulkAll {H : Type} : List (DataW H) → Nat
  | [] => 0
  | d :: r => uptoBulk d + uptoBulkAll r
def uptoBulkEntries {H : Type} : List (Lit × DataW H) → Nat
  | [] => 0
  | x :: r => uptoBulkEntry x + uptoBulkEntries r
def uptoBulkEntry {H : Type} : Lit × DataW H → Nat
  | (.string bytes, d) => bytes.length + uptoBulk d + 1
  | (_, d) => uptoBulk d + 1
 end
def uptoSmall : (H : Type) → List (DataW H) → Bool := fun _ ds => decide (uptoBulkAll ds ≤ 1048576)
def OpenSpec.upto (s : _root_.Go.ChangeSpec) : _root_.Go.OpenSpec := { _root_.Go.OpenSpec.ofChange s with cond := some uptoSmall }

/-- 'quarrylaw03.WordsEscapes', WHERE WHAT IT READS IS OF BULK AT MOST 1048576: true; the input reads as it did. -/
def wordsEscapesUptoRow : OpenClaim := { program := "ytjjnmpidlkjeiaa", sum := "f8e72b2759998ff7cad0fddbc827e42fb021fe023796ade0ef4fdc7febee0e7f", func := "quarry/quarrylaw03.WordsEscapes", spec := "wordsEscapes", apart := false, narrowed := true }
def WordsEscapesUptoSaid : Prop := wordsEscapesUptoRow.holds Try.pinned (OpenSpec.upto wordsEscapesSpec)

/-- 'quarrylaw03.WordsChains', WHERE WHAT IT READS IS OF BULK AT MOST 1048576: true; the input reads as it did. -/
def wordsChainsUptoRow : OpenClaim := { program := "ytjjnmpidlkjeiaa", sum := "f8e72b2759998ff7cad0fddbc827e42fb021fe023796ade0ef4fdc7febee0e7f", func := "quarry/quarrylaw03.WordsChains", spec := "wordsChains", apart := false, narrowed := true }
def WordsChainsUptoSaid : Prop := wordsChainsUptoRow.holds Try.pinned (OpenSpec.upto wordsChainsSpec)

/-- 'quarrylaw03.WordsParities', WHERE WHAT IT READS IS OF BULK AT MOST 1048576: true; the input reads as it did. -/
def wordsParitiesUptoRow : OpenClaim := { program := "ytjjnmpidlkjeiaa", sum := "f8e72b2759998ff7cad0fddbc827e42fb021fe023796ade0ef4fdc7febee0e7f", func := "quarry/quarrylaw03.WordsParities", spec := "wordsParities", inPlace := ["math/bits.Add64"], apart := false, narrowed := true }
def WordsParitiesUptoSaid : Prop := wordsParitiesUptoRow.holds Try.pinned (OpenSpec.upto wordsParitiesSpec)

/-- 'quarrylaw03.WordsTurns', WHERE WHAT IT READS IS OF BULK AT MOST 1048576: true; the input reads as it did. -/
def wordsTurnsUptoRow : OpenClaim := { program := "ytjjnmpidlkjeiaa", sum := "f8e72b2759998ff7cad0fddbc827e42fb021fe023796ade0ef4fdc7febee0e7f", func := "quarry/quarrylaw03.WordsTurns", spec := "wordsTurns", inPlace := ["math/bits.Add64"], apart := false, narrowed := true }
def WordsTurnsUptoSaid : Prop := wordsTurnsUptoRow.holds Try.pinned (OpenSpec.upto wordsTurnsSpec)

end Rows
end Go.Proofs.Ytjjnmpidlkjeiaa
