/-
  DERIVED. GIVEN WITH THE SEED: THE CARDS: each row of YtjjnmpidlkjeiaaDoorRows.lean that lists a variable, with what it lists TIED to the program's text (the seventh form; the later family's looks); each row that meets fmt, with fmt's text TOLD by the authors' own Lean function (tested against real Go, not proved from fmt's source: count such statements apart). THE CARD IS WHAT COUNTS. Prove the row's statement (the work); the ties are given (YtjjnmpidlkjeiaaDoorTie.lean); close each card by the builder's one call (the guide's Derived/Test/ToyasCard.lean, 'card_holds'). Laid BY PROGRAM, IN A SANDBOX (cutbox-door.mjs). By AI agents, Wed Nov 11 2026. No macro, syntax, notation, axiom, sorry.
-/
import Derived.Test.YtjjnmpidlkjeiaaDoorRows
import GoSem.ClaimSeven
namespace Go.Proofs.YtjjnmpidlkjeiaaDoor
namespace Rows

/-- THE TIED CARD OF 'quarrylaw03.WordsSets'. -/
def wordsSetsCard : Claim7 := { stood := { row := wordsSetsRow, standIns := [], harness := (true, "6c629be51c8cf6b3d3bbaefb921eb71d0480b8829516e5120feffa61338fd18f"), looks := false }, kinds := [], alts := [], laidByText := true, laidKinds := [.data], laidTests := true, laidLooks := .later }
def WordsSetsCardSaid : Prop := Claim7.holds Tryd.pinned (.plain (OpenSpec.ofChange wordsSetsSpec)) wordsSetsCard

/-- THE TIED CARD OF 'quarrylaw03.WordsRuns'. -/
def wordsRunsCard : Claim7 := { stood := { row := wordsRunsRow, standIns := [], harness := (true, "6c629be51c8cf6b3d3bbaefb921eb71d0480b8829516e5120feffa61338fd18f"), looks := false }, kinds := [], alts := [], laidByText := true, laidKinds := [.data], laidTests := true, laidLooks := .later }
def WordsRunsCardSaid : Prop := Claim7.holds Tryd.pinned (.plain (OpenSpec.ofChange wordsRunsSpec)) wordsRunsCard

/-- THE TIED CARD OF 'quarrylaw03.WordsRanks'. -/
def wordsRanksCard : Claim7 := { stood := { row := wordsRanksRow, standIns := [], harness := (true, "6c629be51c8cf6b3d3bbaefb921eb71d0480b8829516e5120feffa61338fd18f"), looks := false }, kinds := [], alts := [], laidByText := true, laidKinds := [.data], laidTests := true, laidLooks := .later }
def WordsRanksCardSaid : Prop := Claim7.holds Tryd.pinned (.plain (OpenSpec.ofChange wordsRanksSpec)) wordsRanksCard

/-- THE TIED CARD OF 'quarrylaw03.WordsOrders'. -/
def wordsOrdersCard : Claim7 := { stood := { row := wordsOrdersRow, standIns := [], harness := (true, "6c629be51c8cf6b3d3bbaefb921eb71d0480b8829516e5120feffa61338fd18f"), looks := false }, kinds := [], alts := [], laidByText := true, laidKinds := [.data], laidTests := true, laidLooks := .later }
def WordsOrdersCardSaid : Prop := Claim7.holds Tryd.pinned (.plain (OpenSpec.ofChange wordsOrdersSpec)) wordsOrdersCard

/-- THE SECOND FORM's CARD OF 'quarrylaw03.WordsSets'. -/
def wordsSetsUptoCard : Claim7 := { stood := { row := wordsSetsUptoRow, standIns := [], harness := (true, "6c629be51c8cf6b3d3bbaefb921eb71d0480b8829516e5120feffa61338fd18f"), looks := false }, kinds := [], alts := [], laidByText := true, laidKinds := [.data], laidTests := true, laidLooks := .later }
def WordsSetsUptoCardSaid : Prop := Claim7.holds Tryd.pinned (.plain (OpenSpec.upto wordsSetsSpec)) wordsSetsUptoCard

/-- THE SECOND FORM's CARD OF 'quarrylaw03.WordsRuns'. -/
def wordsRunsUptoCard : Claim7 := { stood := { row := wordsRunsUptoRow, standIns := [], harness := (true, "6c629be51c8cf6b3d3bbaefb921eb71d0480b8829516e5120feffa61338fd18f"), looks := false }, kinds := [], alts := [], laidByText := true, laidKinds := [.data], laidTests := true, laidLooks := .later }
def WordsRunsUptoCardSaid : Prop := Claim7.holds Tryd.pinned (.plain (OpenSpec.upto wordsRunsSpec)) wordsRunsUptoCard

/-- THE SECOND FORM's CARD OF 'quarrylaw03.WordsRanks'. -/
def wordsRanksUptoCard : Claim7 := { stood := { row := wordsRanksUptoRow, standIns := [], harness := (true, "6c629be51c8cf6b3d3bbaefb921eb71d0480b8829516e5120feffa61338fd18f"), looks := false }, kinds := [], alts := [], laidByText := true, laidKinds := [.data], laidTests := true, laidLooks := .later }
def WordsRanksUptoCardSaid : Prop := Claim7.holds Tryd.pinned (.plain (OpenSpec.upto wordsRanksSpec)) wordsRanksUptoCard

/-- THE SECOND FORM's CARD OF 'quarrylaw03.WordsOrders'. -/
def wordsOrdersUptoCard : Claim7 := { stood := { row := wordsOrdersUptoRow, standIns := [], harness := (true, "6c629be51c8cf6b3d3bbaefb921eb71d0480b8829516e5120feffa61338fd18f"), looks := false }, kinds := [], alts := [], laidByText := true, laidKinds := [.data], laidTests := true, laidLooks := .later }
def WordsOrdersUptoCardSaid : Prop := Claim7.holds Tryd.pinned (.plain (OpenSpec.upto wordsOrdersSpec)) wordsOrdersUptoCard
end Rows
end Go.Proofs.YtjjnmpidlkjeiaaDoor
