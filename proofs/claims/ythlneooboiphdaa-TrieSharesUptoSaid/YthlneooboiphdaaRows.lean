/-
  No cell of these rows narrows 'for every input' (looked for: loops, veiled, ifaces, maps, wideKeys, modest, calm, conditions, laid).
  DERIVED. THE GIVEN ROWS OF THIS SEAT. 7 by the template 'for every input the law returns true; each argument reads behind the call as it read before'; 0 by the template 'total and deterministic' (their statements: YthlneooboiphdaaTotals.lean).
  GIVEN WITH THE SEED: the statements are not yours to turn. If you find one false, say at which input.
  Laid BY PROGRAM, IN A SANDBOX (cutbox-rows.mjs): the forced cells as the released guide's own fill.sh prints them over the translation 3f269cd089a891a5… (all of the seat's roots in one cut). By AI agents, Wed Nov 11 2026. No macro, syntax, notation, axiom, sorry.
-/
import Derived.Test.YthlneooboiphdaaChecked
import GoSem.Claim
import GoSem.ClaimJoined
import GoSem.ClaimMapViews
import Derived.JoinedTies
import Derived.KernelRfl
namespace Go.Proofs.Ythlneooboiphdaa
/- THE CELL 'sum', in the pinned program and in every row, IS THE sha256 OF THE DUMP (.gsa) THAT YthlneooboiphdaaProg.lean LOADS. Nothing in Lean hashes anything: it is a label: what it is worth is what the hold of that sum in a sandbox is worth. -/
noncomputable def Try.pinned : Pinned := { name := "ythlneooboiphdaa", sum := "3f269cd089a891a5b6c63213fbdc13cafafb34d27984253e9a49f83ae58c8d94", checked := Try.checked }
namespace Rows
def none {H : Type} : Left H := { results := [], args := [] }

/-- 'quarrylaw23.TrieBuilds': WHATEVER THE INPUT: true; the input reads as it did. -/
def trieBuildsSpec : ChangeSpec := { name := "trieBuilds", fn := fun _ => fun
  | [d] => { results := [.lit (.bool true)], args := [d] }
  | _ => none }
def trieBuildsRow : OpenClaim := { program := "ythlneooboiphdaa", sum := "3f269cd089a891a5b6c63213fbdc13cafafb34d27984253e9a49f83ae58c8d94", func := "quarry/quarrylaw23.TrieBuilds", spec := "trieBuilds", apart := false }
def TrieBuildsSaid : Prop := trieBuildsRow.holds Try.pinned (OpenSpec.ofChange trieBuildsSpec)

/-- ITS FALSE NEIGHBOUR: 'it returns false'. Refute it at one input. -/
def trieBuildsWrong : ChangeSpec := { name := "trieBuilds", fn := fun _ => fun
  | [d] => { results := [.lit (.bool false)], args := [d] }
  | _ => none }
def TrieBuildsWrongFalsely : Prop := trieBuildsRow.holds Try.pinned (OpenSpec.ofChange trieBuildsWrong)

/-- 'quarrylaw23.TrieGoes': WHATEVER THE INPUT: true; the input reads as it did. -/
def trieGoesSpec : ChangeSpec := { name := "trieGoes", fn := fun _ => fun
  | [d1, d2] => { results := [.lit (.bool true)], args := [d1, d2] }
  | _ => none }
def trieGoesRow : OpenClaim := { program := "ythlneooboiphdaa", sum := "3f269cd089a891a5b6c63213fbdc13cafafb34d27984253e9a49f83ae58c8d94", func := "quarry/quarrylaw23.TrieGoes", spec := "trieGoes", recurses := true, apart := false }
def TrieGoesSaid : Prop := trieGoesRow.holds Try.pinned (OpenSpec.ofChange trieGoesSpec)

/-- ITS FALSE NEIGHBOUR: 'it returns false'. Refute it at one input. -/
def trieGoesWrong : ChangeSpec := { name := "trieGoes", fn := fun _ => fun
  | [d1, d2] => { results := [.lit (.bool false)], args := [d1, d2] }
  | _ => none }
def TrieGoesWrongFalsely : Prop := trieGoesRow.holds Try.pinned (OpenSpec.ofChange trieGoesWrong)

/-- 'quarrylaw23.TriePaths': WHATEVER THE INPUT: true; the input reads as it did. -/
def triePathsSpec : ChangeSpec := { name := "triePaths", fn := fun _ => fun
  | [d] => { results := [.lit (.bool true)], args := [d] }
  | _ => none }
def triePathsRow : OpenClaim := { program := "ythlneooboiphdaa", sum := "3f269cd089a891a5b6c63213fbdc13cafafb34d27984253e9a49f83ae58c8d94", func := "quarry/quarrylaw23.TriePaths", spec := "triePaths", recurses := true, apart := false }
def TriePathsSaid : Prop := triePathsRow.holds Try.pinned (OpenSpec.ofChange triePathsSpec)

/-- ITS FALSE NEIGHBOUR: 'it returns false'. Refute it at one input. -/
def triePathsWrong : ChangeSpec := { name := "triePaths", fn := fun _ => fun
  | [d] => { results := [.lit (.bool false)], args := [d] }
  | _ => none }
def TriePathsWrongFalsely : Prop := triePathsRow.holds Try.pinned (OpenSpec.ofChange triePathsWrong)

/-- 'quarrylaw23.TrieBack': WHATEVER THE INPUT: true; the input reads as it did. -/
def trieBackSpec : ChangeSpec := { name := "trieBack", fn := fun _ => fun
  | [d] => { results := [.lit (.bool true)], args := [d] }
  | _ => none }
def trieBackRow : OpenClaim := { program := "ythlneooboiphdaa", sum := "3f269cd089a891a5b6c63213fbdc13cafafb34d27984253e9a49f83ae58c8d94", func := "quarry/quarrylaw23.TrieBack", spec := "trieBack", recurses := true, apart := false }
def TrieBackSaid : Prop := trieBackRow.holds Try.pinned (OpenSpec.ofChange trieBackSpec)

/-- ITS FALSE NEIGHBOUR: 'it returns false'. Refute it at one input. -/
def trieBackWrong : ChangeSpec := { name := "trieBack", fn := fun _ => fun
  | [d] => { results := [.lit (.bool false)], args := [d] }
  | _ => none }
def TrieBackWrongFalsely : Prop := trieBackRow.holds Try.pinned (OpenSpec.ofChange trieBackWrong)

/-- 'quarrylaw23.TrieShares': WHATEVER THE INPUT: true; the input reads as it did. -/
def trieSharesSpec : ChangeSpec := { name := "trieShares", fn := fun _ => fun
  | [d1, d2] => { results := [.lit (.bool true)], args := [d1, d2] }
  | _ => none }
def trieSharesRow : OpenClaim := { program := "ythlneooboiphdaa", sum := "3f269cd089a891a5b6c63213fbdc13cafafb34d27984253e9a49f83ae58c8d94", func := "quarry/quarrylaw23.TrieShares", spec := "trieShares", recurses := true, apart := false }
def TrieSharesSaid : Prop := trieSharesRow.holds Try.pinned (OpenSpec.ofChange trieSharesSpec)

/-- ITS FALSE NEIGHBOUR: 'it returns false'. Refute it at one input. -/
def trieSharesWrong : ChangeSpec := { name := "trieShares", fn := fun _ => fun
  | [d1, d2] => { results := [.lit (.bool false)], args := [d1, d2] }
  | _ => none }
def TrieSharesWrongFalsely : Prop := trieSharesRow.holds Try.pinned (OpenSpec.ofChange trieSharesWrong)

/-- 'quarrylaw23.TrieFollows': WHATEVER THE INPUT: true; the input reads as it did. -/
def trieFollowsSpec : ChangeSpec := { name := "trieFollows", fn := fun _ => fun
  | [d1, d2] => { results := [.lit (.bool true)], args := [d1, d2] }
  | _ => none }
def trieFollowsRow : OpenClaim := { program := "ythlneooboiphdaa", sum := "3f269cd089a891a5b6c63213fbdc13cafafb34d27984253e9a49f83ae58c8d94", func := "quarry/quarrylaw23.TrieFollows", spec := "trieFollows", recurses := true, apart := false }
def TrieFollowsSaid : Prop := trieFollowsRow.holds Try.pinned (OpenSpec.ofChange trieFollowsSpec)

/-- ITS FALSE NEIGHBOUR: 'it returns false'. Refute it at one input. -/
def trieFollowsWrong : ChangeSpec := { name := "trieFollows", fn := fun _ => fun
  | [d1, d2] => { results := [.lit (.bool false)], args := [d1, d2] }
  | _ => none }
def TrieFollowsWrongFalsely : Prop := trieFollowsRow.holds Try.pinned (OpenSpec.ofChange trieFollowsWrong)

/-- 'quarrylaw23.TrieKeeps': WHATEVER THE INPUT: true; the input reads as it did. -/
def trieKeepsSpec : ChangeSpec := { name := "trieKeeps", fn := fun _ => fun
  | [d1, d2] => { results := [.lit (.bool true)], args := [d1, d2] }
  | _ => none }
def trieKeepsRow : OpenClaim := { program := "ythlneooboiphdaa", sum := "3f269cd089a891a5b6c63213fbdc13cafafb34d27984253e9a49f83ae58c8d94", func := "quarry/quarrylaw23.TrieKeeps", spec := "trieKeeps", recurses := true, apart := false }
def TrieKeepsSaid : Prop := trieKeepsRow.holds Try.pinned (OpenSpec.ofChange trieKeepsSpec)

/-- ITS FALSE NEIGHBOUR: 'it returns false'. Refute it at one input. -/
def trieKeepsWrong : ChangeSpec := { name := "trieKeeps", fn := fun _ => fun
  | [d1, d2] => { results := [.lit (.bool false)], args := [d1, d2] }
  | _ => none }
def TrieKeepsWrongFalsely : Prop := trieKeepsRow.holds Try.pinned (OpenSpec.ofChange trieKeepsWrong)

/- THE SECOND FORM. 'bulk': how many values and letters a reading holds, each counted each time it is reached (what is shared counts as often as it is met; a slice's spare places count too). A statement '..UptoSaid' is the law's where the arguments, and the package variables that the reading takes, are together of bulk at most 1048576: NARROWER than '..Said'. Prove '..Said' where nothing that the law and all that it calls make is longer than what came in: it says more and counts as full. Else prove '..UptoSaid'. A law counts once. -/
mutual
def uptoBulk {H : Type} : DataW H → Nat
  | .lit (.string bytes) => bytes.length + 1
  | .lit _ => 1
  | .nil => 1
  | .ptr d => uptoBulk d + 1
  | .slice elems spare => uptoBulkAll elems + uptoBulkAll spare + 1
  | .agg parts => uptoBulkAll parts + 1
  | .iface _ d => uptoBulk d + 1
  | .map entries => uptoBulkEntries entries + 1
  | .held _ => 1
def uptoBulkAll {H : Type} : List (DataW H) → Nat
  | [] => 0
  | d :: r => uptoBulk d + uptoBulkAll r
def uptoBulkEntries {H : Type} : List (Lit × DataW H) → Nat
  | [] => 0
  | x :: r => uptoBulkEntry x + uptoBulkEntries r
def uptoBulkEntry {H : Type} : Lit × DataW H → Nat
  | (.string bytes, d) => bytes.length + uptoBulk d + 1
  | (_, d) => uptoBulk d + 1
 end
def uptoSmall : (H : Type) → List (DataW H) → Bool := fun _ ds => decide (uptoBulkAll ds ≤ 1048576)
def OpenSpec.upto (s : _root_.Go.ChangeSpec) : _root_.Go.OpenSpec := { _root_.Go.OpenSpec.ofChange s with cond := some uptoSmall }

/-- 'quarrylaw23.TrieBuilds', WHERE WHAT IT READS IS OF BULK AT MOST 1048576: true; the input reads as it did. -/
def trieBuildsUptoRow : OpenClaim := { program := "ythlneooboiphdaa", sum := "3f269cd089a891a5b6c63213fbdc13cafafb34d27984253e9a49f83ae58c8d94", func := "quarry/quarrylaw23.TrieBuilds", spec := "trieBuilds", apart := false, narrowed := true }
def TrieBuildsUptoSaid : Prop := trieBuildsUptoRow.holds Try.pinned (OpenSpec.upto trieBuildsSpec)

/-- 'quarrylaw23.TrieGoes', WHERE WHAT IT READS IS OF BULK AT MOST 1048576: true; the input reads as it did. -/
def trieGoesUptoRow : OpenClaim := { program := "ythlneooboiphdaa", sum := "3f269cd089a891a5b6c63213fbdc13cafafb34d27984253e9a49f83ae58c8d94", func := "quarry/quarrylaw23.TrieGoes", spec := "trieGoes", recurses := true, apart := false, narrowed := true }
def TrieGoesUptoSaid : Prop := trieGoesUptoRow.holds Try.pinned (OpenSpec.upto trieGoesSpec)

/-- 'quarrylaw23.TriePaths', WHERE WHAT IT READS IS OF BULK AT MOST 1048576: true; the input reads as it did. -/
def triePathsUptoRow : OpenClaim := { program := "ythlneooboiphdaa", sum := "3f269cd089a891a5b6c63213fbdc13cafafb34d27984253e9a49f83ae58c8d94", func := "quarry/quarrylaw23.TriePaths", spec := "triePaths", recurses := true, apart := false, narrowed := true }
def TriePathsUptoSaid : Prop := triePathsUptoRow.holds Try.pinned (OpenSpec.upto triePathsSpec)

/-- 'quarrylaw23.TrieBack', WHERE WHAT IT READS IS OF BULK AT MOST 1048576: true; the input reads as it did. -/
def trieBackUptoRow : OpenClaim := { program := "ythlneooboiphdaa", sum := "3f269cd089a891a5b6c63213fbdc13cafafb34d27984253e9a49f83ae58c8d94", func := "quarry/quarrylaw23.TrieBack", spec := "trieBack", recurses := true, apart := false, narrowed := true }
def TrieBackUptoSaid : Prop := trieBackUptoRow.holds Try.pinned (OpenSpec.upto trieBackSpec)

/-- 'quarrylaw23.TrieShares', WHERE WHAT IT READS IS OF BULK AT MOST 1048576: true; the input reads as it did. -/
def trieSharesUptoRow : OpenClaim := { program := "ythlneooboiphdaa", sum := "3f269cd089a891a5b6c63213fbdc13cafafb34d27984253e9a49f83ae58c8d94", func := "quarry/quarrylaw23.TrieShares", spec := "trieShares", recurses := true, apart := false, narrowed := true }
def TrieSharesUptoSaid : Prop := trieSharesUptoRow.holds Try.pinned (OpenSpec.upto trieSharesSpec)

/-- 'quarrylaw23.TrieFollows', WHERE WHAT IT READS IS OF BULK AT MOST 1048576: true; the input reads as it did. -/
def trieFollowsUptoRow : OpenClaim := { program := "ythlneooboiphdaa", sum := "3f269cd089a891a5b6c63213fbdc13cafafb34d27984253e9a49f83ae58c8d94", func := "quarry/quarrylaw23.TrieFollows", spec := "trieFollows", recurses := true, apart := false, narrowed := true }
def TrieFollowsUptoSaid : Prop := trieFollowsUptoRow.holds Try.pinned (OpenSpec.upto trieFollowsSpec)

/-- 'quarrylaw23.TrieKeeps', WHERE WHAT IT READS IS OF BULK AT MOST 1048576: true; the input reads as it did. -/
def trieKeepsUptoRow : OpenClaim := { program := "ythlneooboiphdaa", sum := "3f269cd089a891a5b6c63213fbdc13cafafb34d27984253e9a49f83ae58c8d94", func := "quarry/quarrylaw23.TrieKeeps", spec := "trieKeeps", recurses := true, apart := false, narrowed := true }
def TrieKeepsUptoSaid : Prop := trieKeepsUptoRow.holds Try.pinned (OpenSpec.upto trieKeepsSpec)

end Rows
end Go.Proofs.Ythlneooboiphdaa
