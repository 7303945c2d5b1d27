/-
  DERIVED. GIVEN WITH THE SEED: THE CARDS: each row of YtmciagbogdlcoaaGreatDoorRows.lean that lists a variable, with what it lists TIED to the program's text (the seventh form; the later family's looks); each row that meets fmt, with fmt's text TOLD by the authors' own Lean function (tested against real Go, not proved from fmt's source: count such statements apart). THE CARD IS WHAT COUNTS. Prove the row's statement (the work); the ties are given (YtmciagbogdlcoaaGreatDoorTie.lean); close each card by the builder's one call (the guide's Derived/Test/ToyasCard.lean, 'card_holds'). Laid BY PROGRAM, IN A SANDBOX (cutbox-door.mjs). By AI agents, Wed Nov 11 2026. No macro, syntax, notation, axiom, sorry.
-/
import Derived.Test.YtmciagbogdlcoaaGreatDoorRows
import GoSem.ClaimSeven
namespace Go.Proofs.YtmciagbogdlcoaaGreatDoor
namespace Rows

/-- THE TIED CARD OF 'rectolaw17.FilterAllows'. -/
def filterAllowsCard : Claim7 := { stood := { row := filterAllowsRow, standIns := [], harness := (true, "714770367e767a27d8855a14f83ebc740907f4c82dd13b16e2b58f4e49dffc7f"), looks := false }, kinds := [], alts := [], laidByText := true, laidKinds := [.data, .data, .pinned], laidTests := true, laidLooks := .later }
def FilterAllowsCardSaid : Prop := Claim7.holds Tryz.pinned (.plain (OpenSpec.ofChange filterAllowsSpec)) filterAllowsCard

/-- THE TIED CARD OF 'rectolaw17.FilterStays'. -/
def filterStaysCard : Claim7 := { stood := { row := filterStaysRow, standIns := [], harness := (true, "714770367e767a27d8855a14f83ebc740907f4c82dd13b16e2b58f4e49dffc7f"), looks := false }, kinds := [], alts := [], laidByText := true, laidKinds := [.data, .data, .pinned], laidTests := true, laidLooks := .later }
def FilterStaysCardSaid : Prop := Claim7.holds Tryz.pinned (.plain (OpenSpec.ofChange filterStaysSpec)) filterStaysCard

/-- THE TIED CARD OF 'rectolaw17.FilterJoins'. -/
def filterJoinsCard : Claim7 := { stood := { row := filterJoinsRow, standIns := [], harness := (true, "714770367e767a27d8855a14f83ebc740907f4c82dd13b16e2b58f4e49dffc7f"), looks := false }, kinds := [], alts := [], laidByText := true, laidKinds := [.data, .data, .pinned], laidTests := true, laidLooks := .later }
def FilterJoinsCardSaid : Prop := Claim7.holds Tryz.pinned (.plain (OpenSpec.ofChange filterJoinsSpec)) filterJoinsCard

/-- THE SECOND FORM's CARD OF 'rectolaw17.FilterAllows'. -/
def filterAllowsUptoCard : Claim7 := { stood := { row := filterAllowsUptoRow, standIns := [], harness := (true, "714770367e767a27d8855a14f83ebc740907f4c82dd13b16e2b58f4e49dffc7f"), looks := false }, kinds := [], alts := [], laidByText := true, laidKinds := [.data, .data, .pinned], laidTests := true, laidLooks := .later }
def FilterAllowsUptoCardSaid : Prop := Claim7.holds Tryz.pinned (.plain (OpenSpec.upto filterAllowsSpec)) filterAllowsUptoCard

/-- THE SECOND FORM's CARD OF 'rectolaw17.FilterStays'. -/
def filterStaysUptoCard : Claim7 := { stood := { row := filterStaysUptoRow, standIns := [], harness := (true, "714770367e767a27d8855a14f83ebc740907f4c82dd13b16e2b58f4e49dffc7f"), looks := false }, kinds := [], alts := [], laidByText := true, laidKinds := [.data, .data, .pinned], laidTests := true, laidLooks := .later }
def FilterStaysUptoCardSaid : Prop := Claim7.holds Tryz.pinned (.plain (OpenSpec.upto filterStaysSpec)) filterStaysUptoCard

/-- THE SECOND FORM's CARD OF 'rectolaw17.FilterJoins'. -/
def filterJoinsUptoCard : Claim7 := { stood := { row := filterJoinsUptoRow, standIns := [], harness := (true, "714770367e767a27d8855a14f83ebc740907f4c82dd13b16e2b58f4e49dffc7f"), looks := false }, kinds := [], alts := [], laidByText := true, laidKinds := [.data, .data, .pinned], laidTests := true, laidLooks := .later }
def FilterJoinsUptoCardSaid : Prop := Claim7.holds Tryz.pinned (.plain (OpenSpec.upto filterJoinsSpec)) filterJoinsUptoCard
end Rows
end Go.Proofs.YtmciagbogdlcoaaGreatDoor
