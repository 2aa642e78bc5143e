/-
  DERIVED. GIVEN WITH THE SEED: THE CARDS: each row of YtniiccdonafhmaaDoorRows.lean that lists a variable, with what it lists TIED to the program's text (the seventh form; the later family's looks); each row that meets fmt, with fmt's text TOLD by the authors' own Lean function (tested against real Go, not proved from fmt's source: count such statements apart). THE CARD IS WHAT COUNTS. Prove the row's statement (the work); the ties are given (YtniiccdonafhmaaDoorTie.lean); close each card by the builder's one call (the guide's Derived/Test/ToyasCard.lean, 'card_holds'). Laid BY PROGRAM, IN A SANDBOX (cutbox-door.mjs). By AI agents, Wed Nov 11 2026. No macro, syntax, notation, axiom, sorry.
-/
import Derived.Test.YtniiccdonafhmaaDoorRows
import GoSem.ClaimSeven
namespace Go.Proofs.YtniiccdonafhmaaDoor
namespace Rows

/-- THE TIED CARD OF 'carryalllaw07.QuadReads'. -/
def quadReadsCard : Claim7 := { stood := { row := quadReadsRow, standIns := [], harness := (true, "843e04ff8c457b53884b84d6bb5c0183db71cacfca9ff3cb30cb71a71cd25bcb"), looks := false }, kinds := [], alts := [], laidByText := true, laidKinds := [.data, .data, .data, .data, .pinned], laidTests := true, laidLooks := .later }
def QuadReadsCardSaid : Prop := Claim7.holds Tryd.pinned (.plain (OpenSpec.ofChange quadReadsSpec)) quadReadsCard

/-- THE TIED CARD OF 'carryalllaw07.QuadBack'. -/
def quadBackCard : Claim7 := { stood := { row := quadBackRow, standIns := [], harness := (true, "843e04ff8c457b53884b84d6bb5c0183db71cacfca9ff3cb30cb71a71cd25bcb"), looks := false }, kinds := [], alts := [], laidByText := true, laidKinds := [.data, .data, .data, .data, .pinned], laidTests := true, laidLooks := .later }
def QuadBackCardSaid : Prop := Claim7.holds Tryd.pinned (.plain (OpenSpec.ofChange quadBackSpec)) quadBackCard

/-- THE TIED CARD OF 'carryalllaw07.QuadFour'. -/
def quadFourCard : Claim7 := { stood := { row := quadFourRow, standIns := [], harness := (true, "843e04ff8c457b53884b84d6bb5c0183db71cacfca9ff3cb30cb71a71cd25bcb"), looks := false }, kinds := [], alts := [], laidByText := true, laidKinds := [.data, .data, .data, .data, .pinned], laidTests := true, laidLooks := .later }
def QuadFourCardSaid : Prop := Claim7.holds Tryd.pinned (.plain (OpenSpec.ofChange quadFourSpec)) quadFourCard

/-- THE TIED CARD OF 'carryalllaw07.QuadMany'. -/
def quadManyCard : Claim7 := { stood := { row := quadManyRow, standIns := [], harness := (true, "843e04ff8c457b53884b84d6bb5c0183db71cacfca9ff3cb30cb71a71cd25bcb"), looks := false }, kinds := [], alts := [], laidByText := true, laidKinds := [.data, .data, .data, .data, .pinned], laidTests := true, laidLooks := .later }
def QuadManyCardSaid : Prop := Claim7.holds Tryd.pinned (.plain (OpenSpec.ofChange quadManySpec)) quadManyCard

/-- THE SECOND FORM's CARD OF 'carryalllaw07.QuadReads'. -/
def quadReadsUptoCard : Claim7 := { stood := { row := quadReadsUptoRow, standIns := [], harness := (true, "843e04ff8c457b53884b84d6bb5c0183db71cacfca9ff3cb30cb71a71cd25bcb"), looks := false }, kinds := [], alts := [], laidByText := true, laidKinds := [.data, .data, .data, .data, .pinned], laidTests := true, laidLooks := .later }
def QuadReadsUptoCardSaid : Prop := Claim7.holds Tryd.pinned (.plain (OpenSpec.upto quadReadsSpec)) quadReadsUptoCard

/-- THE SECOND FORM's CARD OF 'carryalllaw07.QuadBack'. -/
def quadBackUptoCard : Claim7 := { stood := { row := quadBackUptoRow, standIns := [], harness := (true, "843e04ff8c457b53884b84d6bb5c0183db71cacfca9ff3cb30cb71a71cd25bcb"), looks := false }, kinds := [], alts := [], laidByText := true, laidKinds := [.data, .data, .data, .data, .pinned], laidTests := true, laidLooks := .later }
def QuadBackUptoCardSaid : Prop := Claim7.holds Tryd.pinned (.plain (OpenSpec.upto quadBackSpec)) quadBackUptoCard

/-- THE SECOND FORM's CARD OF 'carryalllaw07.QuadFour'. -/
def quadFourUptoCard : Claim7 := { stood := { row := quadFourUptoRow, standIns := [], harness := (true, "843e04ff8c457b53884b84d6bb5c0183db71cacfca9ff3cb30cb71a71cd25bcb"), looks := false }, kinds := [], alts := [], laidByText := true, laidKinds := [.data, .data, .data, .data, .pinned], laidTests := true, laidLooks := .later }
def QuadFourUptoCardSaid : Prop := Claim7.holds Tryd.pinned (.plain (OpenSpec.upto quadFourSpec)) quadFourUptoCard

/-- THE SECOND FORM's CARD OF 'carryalllaw07.QuadMany'. -/
def quadManyUptoCard : Claim7 := { stood := { row := quadManyUptoRow, standIns := [], harness := (true, "843e04ff8c457b53884b84d6bb5c0183db71cacfca9ff3cb30cb71a71cd25bcb"), looks := false }, kinds := [], alts := [], laidByText := true, laidKinds := [.data, .data, .data, .data, .pinned], laidTests := true, laidLooks := .later }
def QuadManyUptoCardSaid : Prop := Claim7.holds Tryd.pinned (.plain (OpenSpec.upto quadManySpec)) quadManyUptoCard
end Rows
end Go.Proofs.YtniiccdonafhmaaDoor
