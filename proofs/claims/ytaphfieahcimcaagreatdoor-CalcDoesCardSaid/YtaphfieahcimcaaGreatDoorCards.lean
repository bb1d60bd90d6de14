/-
  DERIVED. GIVEN WITH THE SEED: THE CARDS: each row of YtaphfieahcimcaaGreatDoorRows.lean that lists a variable, with what it lists TIED to the program's text (the seventh form; the later family's looks); each row that meets fmt, with fmt's text TOLD by the authors' own Lean function (tested against real Go, not proved from fmt's source: count such statements apart). THE CARD IS WHAT COUNTS. Prove the row's statement (the work); the ties are given (YtaphfieahcimcaaGreatDoorTie.lean); close each card by the builder's one call (the guide's Derived/Test/ToyasCard.lean, 'card_holds'). Laid BY PROGRAM, IN A SANDBOX (cutbox-door.mjs). By AI agents, Wed Nov 11 2026. No macro, syntax, notation, axiom, sorry.
-/
import Derived.Test.YtaphfieahcimcaaGreatDoorRows
import GoSem.ClaimSeven
namespace Go.Proofs.YtaphfieahcimcaaGreatDoor
namespace Rows

/-- THE TIED CARD OF 'daybooklaw15.CalcDoes'. -/
def calcDoesCard : Claim7 := { stood := { row := calcDoesRow, standIns := [], harness := (true, "bfa9a61f4481683220bcc26b48b0f42f31568ee9408425361d6c4bbaa18bbfff"), looks := true }, kinds := [], alts := [], laidByText := true, laidKinds := [.data, .data, .data, .sentinel, .sentinel], laidTests := true, laidLooks := .later }
def CalcDoesCardSaid : Prop := Claim7.holds Tryz.pinned (.plain (OpenSpec.ofChange calcDoesSpec)) calcDoesCard

/-- THE SECOND FORM's CARD OF 'daybooklaw15.CalcDoes'. -/
def calcDoesUptoCard : Claim7 := { stood := { row := calcDoesUptoRow, standIns := [], harness := (true, "bfa9a61f4481683220bcc26b48b0f42f31568ee9408425361d6c4bbaa18bbfff"), looks := true }, kinds := [], alts := [], laidByText := true, laidKinds := [.data, .data, .data, .sentinel, .sentinel], laidTests := true, laidLooks := .later }
def CalcDoesUptoCardSaid : Prop := Claim7.holds Tryz.pinned (.plain (OpenSpec.upto calcDoesSpec)) calcDoesUptoCard
end Rows
end Go.Proofs.YtaphfieahcimcaaGreatDoor
