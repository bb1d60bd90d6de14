/-
  DERIVED. GIVEN WITH THE SEED: THE CARDS: each row of YtaphfieahcimcaaDoorRows.lean that lists a variable, with what it lists TIED to the program's text (the seventh form; the later family's looks); each row that meets fmt, with fmt's text TOLD by the authors' own Lean function (tested against real Go, not proved from fmt's source: count such statements apart). THE CARD IS WHAT COUNTS. Prove the row's statement (the work); the ties are given (YtaphfieahcimcaaDoorTie.lean); close each card by the builder's one call (the guide's Derived/Test/ToyasCard.lean, 'card_holds'). Laid BY PROGRAM, IN A SANDBOX (cutbox-door.mjs). By AI agents, Wed Nov 11 2026. No macro, syntax, notation, axiom, sorry.
-/
import Derived.Test.YtaphfieahcimcaaDoorRows
import GoSem.ClaimSeven
namespace Go.Proofs.YtaphfieahcimcaaDoor
namespace Rows

/-- THE TIED CARD OF 'daybooklaw15.CalcKnown'. -/
def calcKnownCard : Claim7 := { stood := { row := calcKnownRow, standIns := [], harness := (true, "51ad704654b44c1b42c093c909909d7b529f02579a99ee6ad6948612e9cc7880"), looks := true }, kinds := [], alts := [], laidByText := true, laidKinds := [.data, .pinned], laidTests := true, laidLooks := .later }
def CalcKnownCardSaid : Prop := Claim7.holds Tryd.pinned (.plain (OpenSpec.ofChange calcKnownSpec)) calcKnownCard

/-- THE TIED CARD OF 'daybooklaw15.CalcNames'. -/
def calcNamesCard : Claim7 := { stood := { row := calcNamesRow, standIns := [], harness := (true, "51ad704654b44c1b42c093c909909d7b529f02579a99ee6ad6948612e9cc7880"), looks := true }, kinds := [], alts := [], laidByText := true, laidKinds := [.data, .data, .data, .sentinel, .sentinel], laidTests := true, laidLooks := .later }
def CalcNamesCardSaid : Prop := Claim7.holds Tryd.pinned (.plain (OpenSpec.ofChange calcNamesSpec)) calcNamesCard

/-- THE TIED CARD OF 'daybooklaw15.CalcAnswers'. -/
def calcAnswersCard : Claim7 := { stood := { row := calcAnswersRow, standIns := [], harness := (true, "51ad704654b44c1b42c093c909909d7b529f02579a99ee6ad6948612e9cc7880"), looks := true }, kinds := [], alts := [], laidByText := true, laidKinds := [.data, .data, .data, .sentinel, .sentinel], laidTests := true, laidLooks := .later }
def CalcAnswersCardSaid : Prop := Claim7.holds Tryd.pinned (.plain (OpenSpec.ofChange calcAnswersSpec)) calcAnswersCard

/-- THE TIED CARD OF 'daybooklaw15.CalcNumbers'. -/
def calcNumbersCard : Claim7 := { stood := { row := calcNumbersRow, standIns := [], harness := (true, "51ad704654b44c1b42c093c909909d7b529f02579a99ee6ad6948612e9cc7880"), looks := true }, kinds := [], alts := [], laidByText := true, laidKinds := [.data, .data, .data, .sentinel, .sentinel], laidTests := true, laidLooks := .later }
def CalcNumbersCardSaid : Prop := Claim7.holds Tryd.pinned (.plain (OpenSpec.ofChange calcNumbersSpec)) calcNumbersCard

/-- THE TIED CARD OF 'daybooklaw15.CalcTexts'. -/
def calcTextsCard : Claim7 := { stood := { row := calcTextsRow, standIns := [], harness := (true, "51ad704654b44c1b42c093c909909d7b529f02579a99ee6ad6948612e9cc7880"), looks := true }, kinds := [], alts := [], laidByText := true, laidKinds := [.data, .data, .data, .sentinel, .sentinel], laidTests := true, laidLooks := .later }
def CalcTextsCardSaid : Prop := Claim7.holds Tryd.pinned (.plain (OpenSpec.ofChange calcTextsSpec)) calcTextsCard

/-- THE TIED CARD OF 'daybooklaw15.CalcOrder'. -/
def calcOrderCard : Claim7 := { stood := { row := calcOrderRow, standIns := [], harness := (true, "51ad704654b44c1b42c093c909909d7b529f02579a99ee6ad6948612e9cc7880"), looks := true }, kinds := [], alts := [], laidByText := true, laidKinds := [.data, .data, .data, .sentinel, .sentinel], laidTests := true, laidLooks := .later }
def CalcOrderCardSaid : Prop := Claim7.holds Tryd.pinned (.plain (OpenSpec.ofChange calcOrderSpec)) calcOrderCard

/-- THE SECOND FORM's CARD OF 'daybooklaw15.CalcKnown'. -/
def calcKnownUptoCard : Claim7 := { stood := { row := calcKnownUptoRow, standIns := [], harness := (true, "51ad704654b44c1b42c093c909909d7b529f02579a99ee6ad6948612e9cc7880"), looks := true }, kinds := [], alts := [], laidByText := true, laidKinds := [.data, .pinned], laidTests := true, laidLooks := .later }
def CalcKnownUptoCardSaid : Prop := Claim7.holds Tryd.pinned (.plain (OpenSpec.upto calcKnownSpec)) calcKnownUptoCard

/-- THE SECOND FORM's CARD OF 'daybooklaw15.CalcNames'. -/
def calcNamesUptoCard : Claim7 := { stood := { row := calcNamesUptoRow, standIns := [], harness := (true, "51ad704654b44c1b42c093c909909d7b529f02579a99ee6ad6948612e9cc7880"), looks := true }, kinds := [], alts := [], laidByText := true, laidKinds := [.data, .data, .data, .sentinel, .sentinel], laidTests := true, laidLooks := .later }
def CalcNamesUptoCardSaid : Prop := Claim7.holds Tryd.pinned (.plain (OpenSpec.upto calcNamesSpec)) calcNamesUptoCard

/-- THE SECOND FORM's CARD OF 'daybooklaw15.CalcAnswers'. -/
def calcAnswersUptoCard : Claim7 := { stood := { row := calcAnswersUptoRow, standIns := [], harness := (true, "51ad704654b44c1b42c093c909909d7b529f02579a99ee6ad6948612e9cc7880"), looks := true }, kinds := [], alts := [], laidByText := true, laidKinds := [.data, .data, .data, .sentinel, .sentinel], laidTests := true, laidLooks := .later }
def CalcAnswersUptoCardSaid : Prop := Claim7.holds Tryd.pinned (.plain (OpenSpec.upto calcAnswersSpec)) calcAnswersUptoCard

/-- THE SECOND FORM's CARD OF 'daybooklaw15.CalcNumbers'. -/
def calcNumbersUptoCard : Claim7 := { stood := { row := calcNumbersUptoRow, standIns := [], harness := (true, "51ad704654b44c1b42c093c909909d7b529f02579a99ee6ad6948612e9cc7880"), looks := true }, kinds := [], alts := [], laidByText := true, laidKinds := [.data, .data, .data, .sentinel, .sentinel], laidTests := true, laidLooks := .later }
def CalcNumbersUptoCardSaid : Prop := Claim7.holds Tryd.pinned (.plain (OpenSpec.upto calcNumbersSpec)) calcNumbersUptoCard

/-- THE SECOND FORM's CARD OF 'daybooklaw15.CalcTexts'. -/
def calcTextsUptoCard : Claim7 := { stood := { row := calcTextsUptoRow, standIns := [], harness := (true, "51ad704654b44c1b42c093c909909d7b529f02579a99ee6ad6948612e9cc7880"), looks := true }, kinds := [], alts := [], laidByText := true, laidKinds := [.data, .data, .data, .sentinel, .sentinel], laidTests := true, laidLooks := .later }
def CalcTextsUptoCardSaid : Prop := Claim7.holds Tryd.pinned (.plain (OpenSpec.upto calcTextsSpec)) calcTextsUptoCard

/-- THE SECOND FORM's CARD OF 'daybooklaw15.CalcOrder'. -/
def calcOrderUptoCard : Claim7 := { stood := { row := calcOrderUptoRow, standIns := [], harness := (true, "51ad704654b44c1b42c093c909909d7b529f02579a99ee6ad6948612e9cc7880"), looks := true }, kinds := [], alts := [], laidByText := true, laidKinds := [.data, .data, .data, .sentinel, .sentinel], laidTests := true, laidLooks := .later }
def CalcOrderUptoCardSaid : Prop := Claim7.holds Tryd.pinned (.plain (OpenSpec.upto calcOrderSpec)) calcOrderUptoCard
end Rows
end Go.Proofs.YtaphfieahcimcaaDoor
