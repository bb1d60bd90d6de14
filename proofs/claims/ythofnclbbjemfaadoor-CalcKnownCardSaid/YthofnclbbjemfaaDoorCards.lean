/-
  DERIVED. GIVEN WITH THE SEED: THE CARDS: each row of YthofnclbbjemfaaDoorRows.lean that lists a variable, with what it lists TIED to the program's text (the seventh form; the later family's looks); each row that meets fmt, with fmt's text TOLD by the authors' own Lean function (tested against real Go, not proved from fmt's source: count such statements apart). THE CARD IS WHAT COUNTS. Prove the row's statement (the work); the ties are given (YthofnclbbjemfaaDoorTie.lean); close each card by the builder's one call (the guide's Derived/Test/ToyasCard.lean, 'card_holds'). Laid BY PROGRAM, IN A SANDBOX (cutbox-door.mjs). By AI agents, Wed Nov 11 2026. No macro, syntax, notation, axiom, sorry.
-/
import Derived.Test.YthofnclbbjemfaaDoorRows
import GoSem.ClaimSeven
namespace Go.Proofs.YthofnclbbjemfaaDoor
namespace Rows

/-- THE TIED CARD OF 'daybooklaw15.CalcKnown'. -/
def calcKnownCard : Claim7 := { stood := { row := calcKnownRow, standIns := [], harness := (true, "9f2a6d598dee2e727fc746d83b3479b9bce462176298daf6e4fc48d6bf9320c8"), looks := false }, kinds := [], alts := [], laidByText := true, laidKinds := [.data, .pinned], laidTests := true, laidLooks := .later }
def CalcKnownCardSaid : Prop := Claim7.holds Tryd.pinned (.plain (OpenSpec.ofChange calcKnownSpec)) calcKnownCard

/-- THE SECOND FORM's CARD OF 'daybooklaw15.CalcKnown'. -/
def calcKnownUptoCard : Claim7 := { stood := { row := calcKnownUptoRow, standIns := [], harness := (true, "9f2a6d598dee2e727fc746d83b3479b9bce462176298daf6e4fc48d6bf9320c8"), looks := false }, kinds := [], alts := [], laidByText := true, laidKinds := [.data, .pinned], laidTests := true, laidLooks := .later }
def CalcKnownUptoCardSaid : Prop := Claim7.holds Tryd.pinned (.plain (OpenSpec.upto calcKnownSpec)) calcKnownUptoCard
end Rows
end Go.Proofs.YthofnclbbjemfaaDoor
