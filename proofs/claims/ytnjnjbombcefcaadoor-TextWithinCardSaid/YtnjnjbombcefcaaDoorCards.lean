/-
  DERIVED. GIVEN WITH THE SEED: THE CARDS: each row of YtnjnjbombcefcaaDoorRows.lean that lists a variable, with what it lists TIED to the program's text (the seventh form; the later family's looks); each row that meets fmt, with fmt's text TOLD by the authors' own Lean function (tested against real Go, not proved from fmt's source: count such statements apart). THE CARD IS WHAT COUNTS. Prove the row's statement (the work); the ties are given (YtnjnjbombcefcaaDoorTie.lean); close each card by the builder's one call (the guide's Derived/Test/ToyasCard.lean, 'card_holds'). Laid BY PROGRAM, IN A SANDBOX (cutbox-door.mjs). By AI agents, Wed Nov 11 2026. No macro, syntax, notation, axiom, sorry.
-/
import Derived.Test.YtnjnjbombcefcaaDoorRows
import GoSem.ClaimSeven
namespace Go.Proofs.YtnjnjbombcefcaaDoor
namespace Rows

/-- THE TIED CARD OF 'daybooklaw05.TextParses'. -/
def textParsesCard : Claim7 := { stood := { row := textParsesRow, standIns := [], harness := (true, "2c1b0c5dc47c4d01650986f51759bf661af04024dc1981f3fe467858ec6458fb"), looks := true }, kinds := [], alts := [], laidByText := true, laidKinds := [.data, .data, .data, .sentinel, .sentinel], laidTests := true, laidLooks := .later }
def TextParsesCardSaid : Prop := Claim7.holds Tryd.pinned (.plain (OpenSpec.ofChange textParsesSpec)) textParsesCard

/-- THE TIED CARD OF 'daybooklaw05.TextWithin'. -/
def textWithinCard : Claim7 := { stood := { row := textWithinRow, standIns := [], harness := (true, "2c1b0c5dc47c4d01650986f51759bf661af04024dc1981f3fe467858ec6458fb"), looks := true }, kinds := [], alts := [], laidByText := true, laidKinds := [.data, .data, .data, .sentinel, .sentinel], laidTests := true, laidLooks := .later }
def TextWithinCardSaid : Prop := Claim7.holds Tryd.pinned (.plain (OpenSpec.ofChange textWithinSpec)) textWithinCard

/-- THE TIED CARD OF 'daybooklaw05.TextNames'. -/
def textNamesCard : Claim7 := { stood := { row := textNamesRow, standIns := [], harness := (true, "2c1b0c5dc47c4d01650986f51759bf661af04024dc1981f3fe467858ec6458fb"), looks := true }, kinds := [], alts := [], laidByText := true, laidKinds := [.data, .data, .data, .sentinel, .sentinel], laidTests := true, laidLooks := .later }
def TextNamesCardSaid : Prop := Claim7.holds Tryd.pinned (.plain (OpenSpec.ofChange textNamesSpec)) textNamesCard

/-- THE TIED CARD OF 'daybooklaw08.ClaimNodes'. -/
def claimNodesCard : Claim7 := { stood := { row := claimNodesRow, standIns := [], harness := (true, "2c1b0c5dc47c4d01650986f51759bf661af04024dc1981f3fe467858ec6458fb"), looks := true }, kinds := [], alts := [], laidByText := true, laidKinds := [.data], laidTests := true, laidLooks := .later }
def ClaimNodesCardSaid : Prop := Claim7.holds Tryd.pinned (.plain (OpenSpec.ofChange claimNodesSpec)) claimNodesCard

/-- THE TIED CARD OF 'daybooklaw08.ClaimReads'. -/
def claimReadsCard : Claim7 := { stood := { row := claimReadsRow, standIns := [], harness := (true, "2c1b0c5dc47c4d01650986f51759bf661af04024dc1981f3fe467858ec6458fb"), looks := true }, kinds := [], alts := [], laidByText := true, laidKinds := [.data, .data, .data, .data], laidTests := true, laidLooks := .later }
def ClaimReadsCardSaid : Prop := Claim7.holds Tryd.pinned (.plain (OpenSpec.ofChange claimReadsSpec)) claimReadsCard

/-- THE TIED CARD OF 'daybooklaw19.ShapeWrites'. -/
def shapeWritesCard : Claim7 := { stood := { row := shapeWritesRow, standIns := [], harness := (true, "2c1b0c5dc47c4d01650986f51759bf661af04024dc1981f3fe467858ec6458fb"), looks := true }, kinds := [], alts := [], laidByText := true, laidKinds := [.data, .data, .data], laidTests := true, laidLooks := .later }
def ShapeWritesCardSaid : Prop := Claim7.holds Tryd.pinned (.plain (OpenSpec.ofChange shapeWritesSpec)) shapeWritesCard

/-- THE SECOND FORM's CARD OF 'daybooklaw05.TextParses'. -/
def textParsesUptoCard : Claim7 := { stood := { row := textParsesUptoRow, standIns := [], harness := (true, "2c1b0c5dc47c4d01650986f51759bf661af04024dc1981f3fe467858ec6458fb"), looks := true }, kinds := [], alts := [], laidByText := true, laidKinds := [.data, .data, .data, .sentinel, .sentinel], laidTests := true, laidLooks := .later }
def TextParsesUptoCardSaid : Prop := Claim7.holds Tryd.pinned (.plain (OpenSpec.upto textParsesSpec)) textParsesUptoCard

/-- THE SECOND FORM's CARD OF 'daybooklaw05.TextWithin'. -/
def textWithinUptoCard : Claim7 := { stood := { row := textWithinUptoRow, standIns := [], harness := (true, "2c1b0c5dc47c4d01650986f51759bf661af04024dc1981f3fe467858ec6458fb"), looks := true }, kinds := [], alts := [], laidByText := true, laidKinds := [.data, .data, .data, .sentinel, .sentinel], laidTests := true, laidLooks := .later }
def TextWithinUptoCardSaid : Prop := Claim7.holds Tryd.pinned (.plain (OpenSpec.upto textWithinSpec)) textWithinUptoCard

/-- THE SECOND FORM's CARD OF 'daybooklaw05.TextNames'. -/
def textNamesUptoCard : Claim7 := { stood := { row := textNamesUptoRow, standIns := [], harness := (true, "2c1b0c5dc47c4d01650986f51759bf661af04024dc1981f3fe467858ec6458fb"), looks := true }, kinds := [], alts := [], laidByText := true, laidKinds := [.data, .data, .data, .sentinel, .sentinel], laidTests := true, laidLooks := .later }
def TextNamesUptoCardSaid : Prop := Claim7.holds Tryd.pinned (.plain (OpenSpec.upto textNamesSpec)) textNamesUptoCard

/-- THE SECOND FORM's CARD OF 'daybooklaw08.ClaimNodes'. -/
def claimNodesUptoCard : Claim7 := { stood := { row := claimNodesUptoRow, standIns := [], harness := (true, "2c1b0c5dc47c4d01650986f51759bf661af04024dc1981f3fe467858ec6458fb"), looks := true }, kinds := [], alts := [], laidByText := true, laidKinds := [.data], laidTests := true, laidLooks := .later }
def ClaimNodesUptoCardSaid : Prop := Claim7.holds Tryd.pinned (.plain (OpenSpec.upto claimNodesSpec)) claimNodesUptoCard

/-- THE SECOND FORM's CARD OF 'daybooklaw08.ClaimReads'. -/
def claimReadsUptoCard : Claim7 := { stood := { row := claimReadsUptoRow, standIns := [], harness := (true, "2c1b0c5dc47c4d01650986f51759bf661af04024dc1981f3fe467858ec6458fb"), looks := true }, kinds := [], alts := [], laidByText := true, laidKinds := [.data, .data, .data, .data], laidTests := true, laidLooks := .later }
def ClaimReadsUptoCardSaid : Prop := Claim7.holds Tryd.pinned (.plain (OpenSpec.upto claimReadsSpec)) claimReadsUptoCard

/-- THE SECOND FORM's CARD OF 'daybooklaw19.ShapeWrites'. -/
def shapeWritesUptoCard : Claim7 := { stood := { row := shapeWritesUptoRow, standIns := [], harness := (true, "2c1b0c5dc47c4d01650986f51759bf661af04024dc1981f3fe467858ec6458fb"), looks := true }, kinds := [], alts := [], laidByText := true, laidKinds := [.data, .data, .data], laidTests := true, laidLooks := .later }
def ShapeWritesUptoCardSaid : Prop := Claim7.holds Tryd.pinned (.plain (OpenSpec.upto shapeWritesSpec)) shapeWritesUptoCard
end Rows
end Go.Proofs.YtnjnjbombcefcaaDoor
