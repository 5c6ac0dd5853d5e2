/-
  DERIVED. GIVEN WITH THE SEED: THE CARDS: each row of YtkjmbibnfohkjaaDoorRows.lean that lists a variable, with what it lists TIED to the program's text (the seventh form; the later family's looks); each row that meets fmt, with fmt's text TOLD by the authors' own Lean function (tested against real Go, not proved from fmt's source: count such statements apart). THE CARD IS WHAT COUNTS. Prove the row's statement (the work); the ties are given (YtkjmbibnfohkjaaDoorTie.lean); close each card by the builder's one call (the guide's Derived/Test/ToyasCard.lean, 'card_holds'). Laid BY PROGRAM, IN A SANDBOX (cutbox-door.mjs). By AI agents, Wed Nov 11 2026. No macro, syntax, notation, axiom, sorry.
-/
import Derived.Test.YtkjmbibnfohkjaaDoorRows
import GoSem.ClaimSeven
namespace Go.Proofs.YtkjmbibnfohkjaaDoor
namespace Rows

/-- THE TIED CARD OF 'quarrylaw12.WholeTexts'. -/
def wholeTextsCard : Claim7 := { stood := { row := wholeTextsRow, standIns := [], harness := (true, "7fc864c17e189f19550a122b338334fce704e950afad50a88ba1b95061198933"), looks := true }, kinds := [], alts := [], laidByText := true, laidKinds := [.data, .data, .data], laidTests := true, laidLooks := .later }
def WholeTextsCardSaid : Prop := Claim7.holds Tryd.pinned (.plain (OpenSpec.ofChange wholeTextsSpec)) wholeTextsCard

/-- THE TIED CARD OF 'quarrylaw12.WholeWidens'. -/
def wholeWidensCard : Claim7 := { stood := { row := wholeWidensRow, standIns := [], harness := (true, "7fc864c17e189f19550a122b338334fce704e950afad50a88ba1b95061198933"), looks := true }, kinds := [], alts := [], laidByText := true, laidKinds := [.data, .pinned], laidTests := true, laidLooks := .later }
def WholeWidensCardSaid : Prop := Claim7.holds Tryd.pinned (.plain (OpenSpec.ofChange wholeWidensSpec)) wholeWidensCard

/-- THE TIED CARD OF 'quarrylaw12.WholeBack'. -/
def wholeBackCard : Claim7 := { stood := { row := wholeBackRow, standIns := [], harness := (true, "7fc864c17e189f19550a122b338334fce704e950afad50a88ba1b95061198933"), looks := true }, kinds := [], alts := [], laidByText := true, laidKinds := [.data, .pinned], laidTests := true, laidLooks := .later }
def WholeBackCardSaid : Prop := Claim7.holds Tryd.pinned (.plain (OpenSpec.ofChange wholeBackSpec)) wholeBackCard

/-- THE TIED CARD OF 'quarrylaw12.WholeOnce'. -/
def wholeOnceCard : Claim7 := { stood := { row := wholeOnceRow, standIns := [], harness := (true, "7fc864c17e189f19550a122b338334fce704e950afad50a88ba1b95061198933"), looks := true }, kinds := [], alts := [], laidByText := true, laidKinds := [.data, .pinned], laidTests := true, laidLooks := .later }
def WholeOnceCardSaid : Prop := Claim7.holds Tryd.pinned (.plain (OpenSpec.ofChange wholeOnceSpec)) wholeOnceCard

/-- THE TIED CARD OF 'quarrylaw12.WholeInts'. -/
def wholeIntsCard : Claim7 := { stood := { row := wholeIntsRow, standIns := [], harness := (true, "7fc864c17e189f19550a122b338334fce704e950afad50a88ba1b95061198933"), looks := true }, kinds := [], alts := [], laidByText := true, laidKinds := [.data, .data, .data, .data, .pinned], laidTests := true, laidLooks := .later }
def WholeIntsCardSaid : Prop := Claim7.holds Tryd.pinned (.plain (OpenSpec.ofChange wholeIntsSpec)) wholeIntsCard

/-- THE TIED CARD OF 'quarrylaw12.WholeUints'. -/
def wholeUintsCard : Claim7 := { stood := { row := wholeUintsRow, standIns := [], harness := (true, "7fc864c17e189f19550a122b338334fce704e950afad50a88ba1b95061198933"), looks := true }, kinds := [], alts := [], laidByText := true, laidKinds := [.data, .data, .data, .data, .pinned], laidTests := true, laidLooks := .later }
def WholeUintsCardSaid : Prop := Claim7.holds Tryd.pinned (.plain (OpenSpec.ofChange wholeUintsSpec)) wholeUintsCard

/-- THE SECOND FORM's CARD OF 'quarrylaw12.WholeTexts'. -/
def wholeTextsUptoCard : Claim7 := { stood := { row := wholeTextsUptoRow, standIns := [], harness := (true, "7fc864c17e189f19550a122b338334fce704e950afad50a88ba1b95061198933"), looks := true }, kinds := [], alts := [], laidByText := true, laidKinds := [.data, .data, .data], laidTests := true, laidLooks := .later }
def WholeTextsUptoCardSaid : Prop := Claim7.holds Tryd.pinned (.plain (OpenSpec.upto wholeTextsSpec)) wholeTextsUptoCard

/-- THE SECOND FORM's CARD OF 'quarrylaw12.WholeWidens'. -/
def wholeWidensUptoCard : Claim7 := { stood := { row := wholeWidensUptoRow, standIns := [], harness := (true, "7fc864c17e189f19550a122b338334fce704e950afad50a88ba1b95061198933"), looks := true }, kinds := [], alts := [], laidByText := true, laidKinds := [.data, .pinned], laidTests := true, laidLooks := .later }
def WholeWidensUptoCardSaid : Prop := Claim7.holds Tryd.pinned (.plain (OpenSpec.upto wholeWidensSpec)) wholeWidensUptoCard

/-- THE SECOND FORM's CARD OF 'quarrylaw12.WholeBack'. -/
def wholeBackUptoCard : Claim7 := { stood := { row := wholeBackUptoRow, standIns := [], harness := (true, "7fc864c17e189f19550a122b338334fce704e950afad50a88ba1b95061198933"), looks := true }, kinds := [], alts := [], laidByText := true, laidKinds := [.data, .pinned], laidTests := true, laidLooks := .later }
def WholeBackUptoCardSaid : Prop := Claim7.holds Tryd.pinned (.plain (OpenSpec.upto wholeBackSpec)) wholeBackUptoCard

/-- THE SECOND FORM's CARD OF 'quarrylaw12.WholeOnce'. -/
def wholeOnceUptoCard : Claim7 := { stood := { row := wholeOnceUptoRow, standIns := [], harness := (true, "7fc864c17e189f19550a122b338334fce704e950afad50a88ba1b95061198933"), looks := true }, kinds := [], alts := [], laidByText := true, laidKinds := [.data, .pinned], laidTests := true, laidLooks := .later }
def WholeOnceUptoCardSaid : Prop := Claim7.holds Tryd.pinned (.plain (OpenSpec.upto wholeOnceSpec)) wholeOnceUptoCard

/-- THE SECOND FORM's CARD OF 'quarrylaw12.WholeInts'. -/
def wholeIntsUptoCard : Claim7 := { stood := { row := wholeIntsUptoRow, standIns := [], harness := (true, "7fc864c17e189f19550a122b338334fce704e950afad50a88ba1b95061198933"), looks := true }, kinds := [], alts := [], laidByText := true, laidKinds := [.data, .data, .data, .data, .pinned], laidTests := true, laidLooks := .later }
def WholeIntsUptoCardSaid : Prop := Claim7.holds Tryd.pinned (.plain (OpenSpec.upto wholeIntsSpec)) wholeIntsUptoCard

/-- THE SECOND FORM's CARD OF 'quarrylaw12.WholeUints'. -/
def wholeUintsUptoCard : Claim7 := { stood := { row := wholeUintsUptoRow, standIns := [], harness := (true, "7fc864c17e189f19550a122b338334fce704e950afad50a88ba1b95061198933"), looks := true }, kinds := [], alts := [], laidByText := true, laidKinds := [.data, .data, .data, .data, .pinned], laidTests := true, laidLooks := .later }
def WholeUintsUptoCardSaid : Prop := Claim7.holds Tryd.pinned (.plain (OpenSpec.upto wholeUintsSpec)) wholeUintsUptoCard
end Rows
end Go.Proofs.YtkjmbibnfohkjaaDoor
