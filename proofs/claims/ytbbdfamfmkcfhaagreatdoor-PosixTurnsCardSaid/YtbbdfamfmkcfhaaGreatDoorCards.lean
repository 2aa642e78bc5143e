/-
  DERIVED. GIVEN WITH THE SEED: THE CARDS: each row of YtbbdfamfmkcfhaaGreatDoorRows.lean that lists a variable, with what it lists TIED to the program's text (the seventh form; the later family's looks); each row that meets fmt, with fmt's text TOLD by the authors' own Lean function (tested against real Go, not proved from fmt's source: count such statements apart). THE CARD IS WHAT COUNTS. Prove the row's statement (the work); the ties are given (YtbbdfamfmkcfhaaGreatDoorTie.lean); close each card by the builder's one call (the guide's Derived/Test/ToyasCard.lean, 'card_holds'). Laid BY PROGRAM, IN A SANDBOX (cutbox-door.mjs). By AI agents, Wed Nov 11 2026. No macro, syntax, notation, axiom, sorry.
-/
import Derived.Test.YtbbdfamfmkcfhaaGreatDoorRows
import GoSem.ClaimSeven
namespace Go.Proofs.YtbbdfamfmkcfhaaGreatDoor
namespace Rows

/-- THE TIED CARD OF 'carryalllaw15.PosixTurns'. -/
def posixTurnsCard : Claim7 := { stood := { row := posixTurnsRow, standIns := [], harness := (true, "4db3a98bc25cf004e95821cc9ede09f317997d3275c3b9665bed01835969744c"), looks := true }, kinds := [], alts := [], laidByText := true, laidKinds := [.data, .data, .data, .data, .pinned], laidTests := true, laidLooks := .later }
def PosixTurnsCardSaid : Prop := Claim7.holds Tryz.pinned (.plain (OpenSpec.ofChange posixTurnsSpec)) posixTurnsCard

/-- THE TIED CARD OF 'carryalllaw15.PosixParts'. -/
def posixPartsCard : Claim7 := { stood := { row := posixPartsRow, standIns := [], harness := (true, "4db3a98bc25cf004e95821cc9ede09f317997d3275c3b9665bed01835969744c"), looks := true }, kinds := [], alts := [], laidByText := true, laidKinds := [.data, .data, .data, .data, .pinned], laidTests := true, laidLooks := .later }
def PosixPartsCardSaid : Prop := Claim7.holds Tryz.pinned (.plain (OpenSpec.ofChange posixPartsSpec)) posixPartsCard

/-- THE TIED CARD OF 'carryalllaw15.PosixOdd'. -/
def posixOddCard : Claim7 := { stood := { row := posixOddRow, standIns := [], harness := (true, "4db3a98bc25cf004e95821cc9ede09f317997d3275c3b9665bed01835969744c"), looks := true }, kinds := [], alts := [], laidByText := true, laidKinds := [.data, .data, .data, .data, .pinned], laidTests := true, laidLooks := .later }
def PosixOddCardSaid : Prop := Claim7.holds Tryz.pinned (.plain (OpenSpec.ofChange posixOddSpec)) posixOddCard

/-- THE SECOND FORM's CARD OF 'carryalllaw15.PosixTurns'. -/
def posixTurnsUptoCard : Claim7 := { stood := { row := posixTurnsUptoRow, standIns := [], harness := (true, "4db3a98bc25cf004e95821cc9ede09f317997d3275c3b9665bed01835969744c"), looks := true }, kinds := [], alts := [], laidByText := true, laidKinds := [.data, .data, .data, .data, .pinned], laidTests := true, laidLooks := .later }
def PosixTurnsUptoCardSaid : Prop := Claim7.holds Tryz.pinned (.plain (OpenSpec.upto posixTurnsSpec)) posixTurnsUptoCard

/-- THE SECOND FORM's CARD OF 'carryalllaw15.PosixParts'. -/
def posixPartsUptoCard : Claim7 := { stood := { row := posixPartsUptoRow, standIns := [], harness := (true, "4db3a98bc25cf004e95821cc9ede09f317997d3275c3b9665bed01835969744c"), looks := true }, kinds := [], alts := [], laidByText := true, laidKinds := [.data, .data, .data, .data, .pinned], laidTests := true, laidLooks := .later }
def PosixPartsUptoCardSaid : Prop := Claim7.holds Tryz.pinned (.plain (OpenSpec.upto posixPartsSpec)) posixPartsUptoCard

/-- THE SECOND FORM's CARD OF 'carryalllaw15.PosixOdd'. -/
def posixOddUptoCard : Claim7 := { stood := { row := posixOddUptoRow, standIns := [], harness := (true, "4db3a98bc25cf004e95821cc9ede09f317997d3275c3b9665bed01835969744c"), looks := true }, kinds := [], alts := [], laidByText := true, laidKinds := [.data, .data, .data, .data, .pinned], laidTests := true, laidLooks := .later }
def PosixOddUptoCardSaid : Prop := Claim7.holds Tryz.pinned (.plain (OpenSpec.upto posixOddSpec)) posixOddUptoCard
end Rows
end Go.Proofs.YtbbdfamfmkcfhaaGreatDoor
