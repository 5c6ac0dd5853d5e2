/-
  DERIVED. GIVEN WITH THE SEED: THE CARDS: each row of YtplokhniibdniaaDoorRows.lean that lists a variable, with what it lists TIED to the program's text (the seventh form; the later family's looks); each row that meets fmt, with fmt's text TOLD by the authors' own Lean function (tested against real Go, not proved from fmt's source: count such statements apart). THE CARD IS WHAT COUNTS. Prove the row's statement (the work); the ties are given (YtplokhniibdniaaDoorTie.lean); close each card by the builder's one call (the guide's Derived/Test/ToyasCard.lean, 'card_holds'). Laid BY PROGRAM, IN A SANDBOX (cutbox-door.mjs). By AI agents, Wed Nov 11 2026. No macro, syntax, notation, axiom, sorry.
-/
import Derived.Test.YtplokhniibdniaaDoorRows
import GoSem.ClaimSeven
namespace Go.Proofs.YtplokhniibdniaaDoor
namespace Rows

/-- THE TIED CARD OF 'quarrylaw11.DecimalShapes'. -/
def decimalShapesCard : Claim7 := { stood := { row := decimalShapesRow, standIns := [], harness := (true, "435b68ee2cb0d835c2aa802b2b285392f2daf0296c1816c476ac534554471b3e"), looks := false }, kinds := [], alts := [], laidByText := true, laidKinds := [.data, .data, .data], laidTests := true, laidLooks := .later }
def DecimalShapesCardSaid : Prop := Claim7.holds Tryd.pinned (.plain (OpenSpec.ofChange decimalShapesSpec)) decimalShapesCard

/-- THE TIED CARD OF 'quarrylaw11.DecimalReads'. -/
def decimalReadsCard : Claim7 := { stood := { row := decimalReadsRow, standIns := [], harness := (true, "435b68ee2cb0d835c2aa802b2b285392f2daf0296c1816c476ac534554471b3e"), looks := false }, kinds := [], alts := [], laidByText := true, laidKinds := [.data, .pinned], laidTests := true, laidLooks := .later }
def DecimalReadsCardSaid : Prop := Claim7.holds Tryd.pinned (.plain (OpenSpec.ofChange decimalReadsSpec)) decimalReadsCard

/-- THE TIED CARD OF 'quarrylaw11.DecimalIs'. -/
def decimalIsCard : Claim7 := { stood := { row := decimalIsRow, standIns := [], harness := (true, "435b68ee2cb0d835c2aa802b2b285392f2daf0296c1816c476ac534554471b3e"), looks := false }, kinds := [], alts := [], laidByText := true, laidKinds := [.data, .pinned], laidTests := true, laidLooks := .later }
def DecimalIsCardSaid : Prop := Claim7.holds Tryd.pinned (.plain (OpenSpec.ofChange decimalIsSpec)) decimalIsCard

/-- THE TIED CARD OF 'quarrylaw11.DecimalSplits'. -/
def decimalSplitsCard : Claim7 := { stood := { row := decimalSplitsRow, standIns := [], harness := (true, "435b68ee2cb0d835c2aa802b2b285392f2daf0296c1816c476ac534554471b3e"), looks := false }, kinds := [], alts := [], laidByText := true, laidKinds := [.data, .pinned], laidTests := true, laidLooks := .later }
def DecimalSplitsCardSaid : Prop := Claim7.holds Tryd.pinned (.plain (OpenSpec.ofChange decimalSplitsSpec)) decimalSplitsCard

/-- THE TIED CARD OF 'quarrylaw11.DecimalLoose'. -/
def decimalLooseCard : Claim7 := { stood := { row := decimalLooseRow, standIns := [], harness := (true, "435b68ee2cb0d835c2aa802b2b285392f2daf0296c1816c476ac534554471b3e"), looks := false }, kinds := [], alts := [], laidByText := true, laidKinds := [.data, .pinned], laidTests := true, laidLooks := .later }
def DecimalLooseCardSaid : Prop := Claim7.holds Tryd.pinned (.plain (OpenSpec.ofChange decimalLooseSpec)) decimalLooseCard

/-- THE TIED CARD OF 'quarrylaw11.DecimalOrders'. -/
def decimalOrdersCard : Claim7 := { stood := { row := decimalOrdersRow, standIns := [], harness := (true, "435b68ee2cb0d835c2aa802b2b285392f2daf0296c1816c476ac534554471b3e"), looks := false }, kinds := [], alts := [], laidByText := true, laidKinds := [.data, .pinned], laidTests := true, laidLooks := .later }
def DecimalOrdersCardSaid : Prop := Claim7.holds Tryd.pinned (.plain (OpenSpec.ofChange decimalOrdersSpec)) decimalOrdersCard

/-- THE TIED CARD OF 'quarrylaw11.DecimalBack'. -/
def decimalBackCard : Claim7 := { stood := { row := decimalBackRow, standIns := [], harness := (true, "435b68ee2cb0d835c2aa802b2b285392f2daf0296c1816c476ac534554471b3e"), looks := false }, kinds := [], alts := [], laidByText := true, laidKinds := [.data, .data, .data, .data, .pinned], laidTests := true, laidLooks := .later }
def DecimalBackCardSaid : Prop := Claim7.holds Tryd.pinned (.plain (OpenSpec.ofChange decimalBackSpec)) decimalBackCard

/-- THE SECOND FORM's CARD OF 'quarrylaw11.DecimalShapes'. -/
def decimalShapesUptoCard : Claim7 := { stood := { row := decimalShapesUptoRow, standIns := [], harness := (true, "435b68ee2cb0d835c2aa802b2b285392f2daf0296c1816c476ac534554471b3e"), looks := false }, kinds := [], alts := [], laidByText := true, laidKinds := [.data, .data, .data], laidTests := true, laidLooks := .later }
def DecimalShapesUptoCardSaid : Prop := Claim7.holds Tryd.pinned (.plain (OpenSpec.upto decimalShapesSpec)) decimalShapesUptoCard

/-- THE SECOND FORM's CARD OF 'quarrylaw11.DecimalReads'. -/
def decimalReadsUptoCard : Claim7 := { stood := { row := decimalReadsUptoRow, standIns := [], harness := (true, "435b68ee2cb0d835c2aa802b2b285392f2daf0296c1816c476ac534554471b3e"), looks := false }, kinds := [], alts := [], laidByText := true, laidKinds := [.data, .pinned], laidTests := true, laidLooks := .later }
def DecimalReadsUptoCardSaid : Prop := Claim7.holds Tryd.pinned (.plain (OpenSpec.upto decimalReadsSpec)) decimalReadsUptoCard

/-- THE SECOND FORM's CARD OF 'quarrylaw11.DecimalIs'. -/
def decimalIsUptoCard : Claim7 := { stood := { row := decimalIsUptoRow, standIns := [], harness := (true, "435b68ee2cb0d835c2aa802b2b285392f2daf0296c1816c476ac534554471b3e"), looks := false }, kinds := [], alts := [], laidByText := true, laidKinds := [.data, .pinned], laidTests := true, laidLooks := .later }
def DecimalIsUptoCardSaid : Prop := Claim7.holds Tryd.pinned (.plain (OpenSpec.upto decimalIsSpec)) decimalIsUptoCard

/-- THE SECOND FORM's CARD OF 'quarrylaw11.DecimalSplits'. -/
def decimalSplitsUptoCard : Claim7 := { stood := { row := decimalSplitsUptoRow, standIns := [], harness := (true, "435b68ee2cb0d835c2aa802b2b285392f2daf0296c1816c476ac534554471b3e"), looks := false }, kinds := [], alts := [], laidByText := true, laidKinds := [.data, .pinned], laidTests := true, laidLooks := .later }
def DecimalSplitsUptoCardSaid : Prop := Claim7.holds Tryd.pinned (.plain (OpenSpec.upto decimalSplitsSpec)) decimalSplitsUptoCard

/-- THE SECOND FORM's CARD OF 'quarrylaw11.DecimalLoose'. -/
def decimalLooseUptoCard : Claim7 := { stood := { row := decimalLooseUptoRow, standIns := [], harness := (true, "435b68ee2cb0d835c2aa802b2b285392f2daf0296c1816c476ac534554471b3e"), looks := false }, kinds := [], alts := [], laidByText := true, laidKinds := [.data, .pinned], laidTests := true, laidLooks := .later }
def DecimalLooseUptoCardSaid : Prop := Claim7.holds Tryd.pinned (.plain (OpenSpec.upto decimalLooseSpec)) decimalLooseUptoCard

/-- THE SECOND FORM's CARD OF 'quarrylaw11.DecimalOrders'. -/
def decimalOrdersUptoCard : Claim7 := { stood := { row := decimalOrdersUptoRow, standIns := [], harness := (true, "435b68ee2cb0d835c2aa802b2b285392f2daf0296c1816c476ac534554471b3e"), looks := false }, kinds := [], alts := [], laidByText := true, laidKinds := [.data, .pinned], laidTests := true, laidLooks := .later }
def DecimalOrdersUptoCardSaid : Prop := Claim7.holds Tryd.pinned (.plain (OpenSpec.upto decimalOrdersSpec)) decimalOrdersUptoCard

/-- THE SECOND FORM's CARD OF 'quarrylaw11.DecimalBack'. -/
def decimalBackUptoCard : Claim7 := { stood := { row := decimalBackUptoRow, standIns := [], harness := (true, "435b68ee2cb0d835c2aa802b2b285392f2daf0296c1816c476ac534554471b3e"), looks := false }, kinds := [], alts := [], laidByText := true, laidKinds := [.data, .data, .data, .data, .pinned], laidTests := true, laidLooks := .later }
def DecimalBackUptoCardSaid : Prop := Claim7.holds Tryd.pinned (.plain (OpenSpec.upto decimalBackSpec)) decimalBackUptoCard
end Rows
end Go.Proofs.YtplokhniibdniaaDoor
