/-
  DERIVED. GIVEN WITH THE SEED: THE CARDS: each row of YtmciagbogdlcoaaDoorRows.lean that lists a variable, with what it lists TIED to the program's text (the seventh form; the later family's looks); each row that meets fmt, with fmt's text TOLD by the authors' own Lean function (tested against real Go, not proved from fmt's source: count such statements apart). THE CARD IS WHAT COUNTS. Prove the row's statement (the work); the ties are given (YtmciagbogdlcoaaDoorTie.lean); close each card by the builder's one call (the guide's Derived/Test/ToyasCard.lean, 'card_holds'). Laid BY PROGRAM, IN A SANDBOX (cutbox-door.mjs). By AI agents, Wed Nov 11 2026. No macro, syntax, notation, axiom, sorry.
-/
import Derived.Test.YtmciagbogdlcoaaDoorRows
import GoSem.ClaimSeven
namespace Go.Proofs.YtmciagbogdlcoaaDoor
namespace Rows

/-- THE TIED CARD OF 'rectolaw13.PrintTexts'. -/
def printTextsCard : Claim7 := { stood := { row := printTextsRow, standIns := [], harness := (true, "abb66f91ddd1065ae0fae45ddfd22bc1cd83cb664ce5ac746f42acced7a00254"), looks := false }, kinds := [], alts := [], laidByText := true, laidKinds := [.data, .data, .pinned], laidTests := true, laidLooks := .later }
def PrintTextsCardSaid : Prop := Claim7.holds Tryd.pinned (.plain (OpenSpec.ofChange printTextsSpec)) printTextsCard

/-- THE TIED CARD OF 'rectolaw13.PrintLines'. -/
def printLinesCard : Claim7 := { stood := { row := printLinesRow, standIns := [], harness := (true, "abb66f91ddd1065ae0fae45ddfd22bc1cd83cb664ce5ac746f42acced7a00254"), looks := false }, kinds := [], alts := [], laidByText := true, laidKinds := [.data, .data, .pinned], laidTests := true, laidLooks := .later }
def PrintLinesCardSaid : Prop := Claim7.holds Tryd.pinned (.plain (OpenSpec.ofChange printLinesSpec)) printLinesCard

/-- THE TIED CARD OF 'rectolaw13.PrintJoins'. -/
def printJoinsCard : Claim7 := { stood := { row := printJoinsRow, standIns := [], harness := (true, "abb66f91ddd1065ae0fae45ddfd22bc1cd83cb664ce5ac746f42acced7a00254"), looks := false }, kinds := [], alts := [], laidByText := true, laidKinds := [.data, .data, .pinned], laidTests := true, laidLooks := .later }
def PrintJoinsCardSaid : Prop := Claim7.holds Tryd.pinned (.plain (OpenSpec.ofChange printJoinsSpec)) printJoinsCard

/-- THE TIED CARD OF 'rectolaw13.PrintApart'. -/
def printApartCard : Claim7 := { stood := { row := printApartRow, standIns := [], harness := (true, "abb66f91ddd1065ae0fae45ddfd22bc1cd83cb664ce5ac746f42acced7a00254"), looks := false }, kinds := [], alts := [], laidByText := true, laidKinds := [.data, .data, .pinned], laidTests := true, laidLooks := .later }
def PrintApartCardSaid : Prop := Claim7.holds Tryd.pinned (.plain (OpenSpec.ofChange printApartSpec)) printApartCard

/-- THE TIED CARD OF 'rectolaw13.PrintVoid'. -/
def printVoidCard : Claim7 := { stood := { row := printVoidRow, standIns := [], harness := (true, "abb66f91ddd1065ae0fae45ddfd22bc1cd83cb664ce5ac746f42acced7a00254"), looks := false }, kinds := [], alts := [], laidByText := true, laidKinds := [.data, .data, .pinned], laidTests := true, laidLooks := .later }
def PrintVoidCardSaid : Prop := Claim7.holds Tryd.pinned (.plain (OpenSpec.ofChange printVoidSpec)) printVoidCard

/-- THE TIED CARD OF 'rectolaw24.WordsPages'. -/
def wordsPagesCard : Claim7 := { stood := { row := wordsPagesRow, standIns := [], harness := (true, "abb66f91ddd1065ae0fae45ddfd22bc1cd83cb664ce5ac746f42acced7a00254"), looks := false }, kinds := [], alts := [], laidByText := true, laidKinds := [.data, .data, .pinned], laidTests := true, laidLooks := .later }
def WordsPagesCardSaid : Prop := Claim7.holds Tryd.pinned (.plain (OpenSpec.ofChange wordsPagesSpec)) wordsPagesCard

/-- THE SECOND FORM's CARD OF 'rectolaw13.PrintTexts'. -/
def printTextsUptoCard : Claim7 := { stood := { row := printTextsUptoRow, standIns := [], harness := (true, "abb66f91ddd1065ae0fae45ddfd22bc1cd83cb664ce5ac746f42acced7a00254"), looks := false }, kinds := [], alts := [], laidByText := true, laidKinds := [.data, .data, .pinned], laidTests := true, laidLooks := .later }
def PrintTextsUptoCardSaid : Prop := Claim7.holds Tryd.pinned (.plain (OpenSpec.upto printTextsSpec)) printTextsUptoCard

/-- THE SECOND FORM's CARD OF 'rectolaw13.PrintLines'. -/
def printLinesUptoCard : Claim7 := { stood := { row := printLinesUptoRow, standIns := [], harness := (true, "abb66f91ddd1065ae0fae45ddfd22bc1cd83cb664ce5ac746f42acced7a00254"), looks := false }, kinds := [], alts := [], laidByText := true, laidKinds := [.data, .data, .pinned], laidTests := true, laidLooks := .later }
def PrintLinesUptoCardSaid : Prop := Claim7.holds Tryd.pinned (.plain (OpenSpec.upto printLinesSpec)) printLinesUptoCard

/-- THE SECOND FORM's CARD OF 'rectolaw13.PrintJoins'. -/
def printJoinsUptoCard : Claim7 := { stood := { row := printJoinsUptoRow, standIns := [], harness := (true, "abb66f91ddd1065ae0fae45ddfd22bc1cd83cb664ce5ac746f42acced7a00254"), looks := false }, kinds := [], alts := [], laidByText := true, laidKinds := [.data, .data, .pinned], laidTests := true, laidLooks := .later }
def PrintJoinsUptoCardSaid : Prop := Claim7.holds Tryd.pinned (.plain (OpenSpec.upto printJoinsSpec)) printJoinsUptoCard

/-- THE SECOND FORM's CARD OF 'rectolaw13.PrintApart'. -/
def printApartUptoCard : Claim7 := { stood := { row := printApartUptoRow, standIns := [], harness := (true, "abb66f91ddd1065ae0fae45ddfd22bc1cd83cb664ce5ac746f42acced7a00254"), looks := false }, kinds := [], alts := [], laidByText := true, laidKinds := [.data, .data, .pinned], laidTests := true, laidLooks := .later }
def PrintApartUptoCardSaid : Prop := Claim7.holds Tryd.pinned (.plain (OpenSpec.upto printApartSpec)) printApartUptoCard

/-- THE SECOND FORM's CARD OF 'rectolaw13.PrintVoid'. -/
def printVoidUptoCard : Claim7 := { stood := { row := printVoidUptoRow, standIns := [], harness := (true, "abb66f91ddd1065ae0fae45ddfd22bc1cd83cb664ce5ac746f42acced7a00254"), looks := false }, kinds := [], alts := [], laidByText := true, laidKinds := [.data, .data, .pinned], laidTests := true, laidLooks := .later }
def PrintVoidUptoCardSaid : Prop := Claim7.holds Tryd.pinned (.plain (OpenSpec.upto printVoidSpec)) printVoidUptoCard

/-- THE SECOND FORM's CARD OF 'rectolaw24.WordsPages'. -/
def wordsPagesUptoCard : Claim7 := { stood := { row := wordsPagesUptoRow, standIns := [], harness := (true, "abb66f91ddd1065ae0fae45ddfd22bc1cd83cb664ce5ac746f42acced7a00254"), looks := false }, kinds := [], alts := [], laidByText := true, laidKinds := [.data, .data, .pinned], laidTests := true, laidLooks := .later }
def WordsPagesUptoCardSaid : Prop := Claim7.holds Tryd.pinned (.plain (OpenSpec.upto wordsPagesSpec)) wordsPagesUptoCard
end Rows
end Go.Proofs.YtmciagbogdlcoaaDoor
