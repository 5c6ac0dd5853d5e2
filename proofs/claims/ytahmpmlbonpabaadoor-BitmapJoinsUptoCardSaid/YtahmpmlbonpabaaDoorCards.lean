/-
  DERIVED. GIVEN WITH THE SEED: THE CARDS: each row of YtahmpmlbonpabaaDoorRows.lean that lists a variable, with what it lists TIED to the program's text (the seventh form; the later family's looks); each row that meets fmt, with fmt's text TOLD by the authors' own Lean function (tested against real Go, not proved from fmt's source: count such statements apart). THE CARD IS WHAT COUNTS. Prove the row's statement (the work); the ties are given (YtahmpmlbonpabaaDoorTie.lean); close each card by the builder's one call (the guide's Derived/Test/ToyasCard.lean, 'card_holds'). Laid BY PROGRAM, IN A SANDBOX (cutbox-door.mjs). By AI agents, Wed Nov 11 2026. No macro, syntax, notation, axiom, sorry.
-/
import Derived.Test.YtahmpmlbonpabaaDoorRows
import GoSem.ClaimSeven
namespace Go.Proofs.YtahmpmlbonpabaaDoor
namespace Rows

/-- THE TIED CARD OF 'quarrylaw04.BitmapAsks'. -/
def bitmapAsksCard : Claim7 := { stood := { row := bitmapAsksRow, standIns := [], harness := (true, "41753db303802eaf29503dc74cf54c77a1aa4aa4998501c2dcca085099d19cb7"), looks := false }, kinds := [], alts := [], laidByText := true, laidKinds := [.data], laidTests := true, laidLooks := .later }
def BitmapAsksCardSaid : Prop := Claim7.holds Tryd.pinned (.plain (OpenSpec.ofChange bitmapAsksSpec)) bitmapAsksCard

/-- THE TIED CARD OF 'quarrylaw04.BitmapRanks'. -/
def bitmapRanksCard : Claim7 := { stood := { row := bitmapRanksRow, standIns := [], harness := (true, "41753db303802eaf29503dc74cf54c77a1aa4aa4998501c2dcca085099d19cb7"), looks := false }, kinds := [], alts := [], laidByText := true, laidKinds := [.data], laidTests := true, laidLooks := .later }
def BitmapRanksCardSaid : Prop := Claim7.holds Tryd.pinned (.plain (OpenSpec.ofChange bitmapRanksSpec)) bitmapRanksCard

/-- THE TIED CARD OF 'quarrylaw04.BitmapJoins'. -/
def bitmapJoinsCard : Claim7 := { stood := { row := bitmapJoinsRow, standIns := [], harness := (true, "41753db303802eaf29503dc74cf54c77a1aa4aa4998501c2dcca085099d19cb7"), looks := false }, kinds := [], alts := [], laidByText := true, laidKinds := [.data], laidTests := true, laidLooks := .later }
def BitmapJoinsCardSaid : Prop := Claim7.holds Tryd.pinned (.plain (OpenSpec.ofChange bitmapJoinsSpec)) bitmapJoinsCard

/-- THE TIED CARD OF 'quarrylaw04.BitmapEach'. -/
def bitmapEachCard : Claim7 := { stood := { row := bitmapEachRow, standIns := [], harness := (true, "41753db303802eaf29503dc74cf54c77a1aa4aa4998501c2dcca085099d19cb7"), looks := false }, kinds := [], alts := [], laidByText := true, laidKinds := [.data], laidTests := true, laidLooks := .later }
def BitmapEachCardSaid : Prop := Claim7.holds Tryd.pinned (.plain (OpenSpec.ofChange bitmapEachSpec)) bitmapEachCard

/-- THE TIED CARD OF 'quarrylaw04.BitmapTurns'. -/
def bitmapTurnsCard : Claim7 := { stood := { row := bitmapTurnsRow, standIns := [], harness := (true, "41753db303802eaf29503dc74cf54c77a1aa4aa4998501c2dcca085099d19cb7"), looks := false }, kinds := [], alts := [], laidByText := true, laidKinds := [.data], laidTests := true, laidLooks := .later }
def BitmapTurnsCardSaid : Prop := Claim7.holds Tryd.pinned (.plain (OpenSpec.ofChange bitmapTurnsSpec)) bitmapTurnsCard

/-- THE TIED CARD OF 'quarrylaw04.BitmapKeeps'. -/
def bitmapKeepsCard : Claim7 := { stood := { row := bitmapKeepsRow, standIns := [], harness := (true, "41753db303802eaf29503dc74cf54c77a1aa4aa4998501c2dcca085099d19cb7"), looks := false }, kinds := [], alts := [], laidByText := true, laidKinds := [.data], laidTests := true, laidLooks := .later }
def BitmapKeepsCardSaid : Prop := Claim7.holds Tryd.pinned (.plain (OpenSpec.ofChange bitmapKeepsSpec)) bitmapKeepsCard

/-- THE TIED CARD OF 'quarrylaw04.BitmapAlgebra'. -/
def bitmapAlgebraCard : Claim7 := { stood := { row := bitmapAlgebraRow, standIns := [], harness := (true, "41753db303802eaf29503dc74cf54c77a1aa4aa4998501c2dcca085099d19cb7"), looks := false }, kinds := [], alts := [], laidByText := true, laidKinds := [.data], laidTests := true, laidLooks := .later }
def BitmapAlgebraCardSaid : Prop := Claim7.holds Tryd.pinned (.plain (OpenSpec.ofChange bitmapAlgebraSpec)) bitmapAlgebraCard

/-- THE SECOND FORM's CARD OF 'quarrylaw04.BitmapAsks'. -/
def bitmapAsksUptoCard : Claim7 := { stood := { row := bitmapAsksUptoRow, standIns := [], harness := (true, "41753db303802eaf29503dc74cf54c77a1aa4aa4998501c2dcca085099d19cb7"), looks := false }, kinds := [], alts := [], laidByText := true, laidKinds := [.data], laidTests := true, laidLooks := .later }
def BitmapAsksUptoCardSaid : Prop := Claim7.holds Tryd.pinned (.plain (OpenSpec.upto bitmapAsksSpec)) bitmapAsksUptoCard

/-- THE SECOND FORM's CARD OF 'quarrylaw04.BitmapRanks'. -/
def bitmapRanksUptoCard : Claim7 := { stood := { row := bitmapRanksUptoRow, standIns := [], harness := (true, "41753db303802eaf29503dc74cf54c77a1aa4aa4998501c2dcca085099d19cb7"), looks := false }, kinds := [], alts := [], laidByText := true, laidKinds := [.data], laidTests := true, laidLooks := .later }
def BitmapRanksUptoCardSaid : Prop := Claim7.holds Tryd.pinned (.plain (OpenSpec.upto bitmapRanksSpec)) bitmapRanksUptoCard

/-- THE SECOND FORM's CARD OF 'quarrylaw04.BitmapJoins'. -/
def bitmapJoinsUptoCard : Claim7 := { stood := { row := bitmapJoinsUptoRow, standIns := [], harness := (true, "41753db303802eaf29503dc74cf54c77a1aa4aa4998501c2dcca085099d19cb7"), looks := false }, kinds := [], alts := [], laidByText := true, laidKinds := [.data], laidTests := true, laidLooks := .later }
def BitmapJoinsUptoCardSaid : Prop := Claim7.holds Tryd.pinned (.plain (OpenSpec.upto bitmapJoinsSpec)) bitmapJoinsUptoCard

/-- THE SECOND FORM's CARD OF 'quarrylaw04.BitmapEach'. -/
def bitmapEachUptoCard : Claim7 := { stood := { row := bitmapEachUptoRow, standIns := [], harness := (true, "41753db303802eaf29503dc74cf54c77a1aa4aa4998501c2dcca085099d19cb7"), looks := false }, kinds := [], alts := [], laidByText := true, laidKinds := [.data], laidTests := true, laidLooks := .later }
def BitmapEachUptoCardSaid : Prop := Claim7.holds Tryd.pinned (.plain (OpenSpec.upto bitmapEachSpec)) bitmapEachUptoCard

/-- THE SECOND FORM's CARD OF 'quarrylaw04.BitmapTurns'. -/
def bitmapTurnsUptoCard : Claim7 := { stood := { row := bitmapTurnsUptoRow, standIns := [], harness := (true, "41753db303802eaf29503dc74cf54c77a1aa4aa4998501c2dcca085099d19cb7"), looks := false }, kinds := [], alts := [], laidByText := true, laidKinds := [.data], laidTests := true, laidLooks := .later }
def BitmapTurnsUptoCardSaid : Prop := Claim7.holds Tryd.pinned (.plain (OpenSpec.upto bitmapTurnsSpec)) bitmapTurnsUptoCard

/-- THE SECOND FORM's CARD OF 'quarrylaw04.BitmapKeeps'. -/
def bitmapKeepsUptoCard : Claim7 := { stood := { row := bitmapKeepsUptoRow, standIns := [], harness := (true, "41753db303802eaf29503dc74cf54c77a1aa4aa4998501c2dcca085099d19cb7"), looks := false }, kinds := [], alts := [], laidByText := true, laidKinds := [.data], laidTests := true, laidLooks := .later }
def BitmapKeepsUptoCardSaid : Prop := Claim7.holds Tryd.pinned (.plain (OpenSpec.upto bitmapKeepsSpec)) bitmapKeepsUptoCard

/-- THE SECOND FORM's CARD OF 'quarrylaw04.BitmapAlgebra'. -/
def bitmapAlgebraUptoCard : Claim7 := { stood := { row := bitmapAlgebraUptoRow, standIns := [], harness := (true, "41753db303802eaf29503dc74cf54c77a1aa4aa4998501c2dcca085099d19cb7"), looks := false }, kinds := [], alts := [], laidByText := true, laidKinds := [.data], laidTests := true, laidLooks := .later }
def BitmapAlgebraUptoCardSaid : Prop := Claim7.holds Tryd.pinned (.plain (OpenSpec.upto bitmapAlgebraSpec)) bitmapAlgebraUptoCard
end Rows
end Go.Proofs.YtahmpmlbonpabaaDoor
