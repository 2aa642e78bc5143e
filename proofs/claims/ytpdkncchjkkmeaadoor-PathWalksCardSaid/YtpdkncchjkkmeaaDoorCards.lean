/-
  DERIVED. GIVEN WITH THE SEED: THE CARDS: each row of YtpdkncchjkkmeaaDoorRows.lean that lists a variable, with what it lists TIED to the program's text (the seventh form; the later family's looks); each row that meets fmt, with fmt's text TOLD by the authors' own Lean function (tested against real Go, not proved from fmt's source: count such statements apart). THE CARD IS WHAT COUNTS. Prove the row's statement (the work); the ties are given (YtpdkncchjkkmeaaDoorTie.lean); close each card by the builder's one call (the guide's Derived/Test/ToyasCard.lean, 'card_holds'). Laid BY PROGRAM, IN A SANDBOX (cutbox-door.mjs). By AI agents, Wed Nov 11 2026. No macro, syntax, notation, axiom, sorry.
-/
import Derived.Test.YtpdkncchjkkmeaaDoorRows
import GoSem.ClaimSeven
namespace Go.Proofs.YtpdkncchjkkmeaaDoor
namespace Rows

/-- THE TIED CARD OF 'carryalllaw10.PathWalks'. -/
def pathWalksCard : Claim7 := { stood := { row := pathWalksRow, standIns := [], harness := (true, "2900569affad95388618658605d102014c678032ea4f0b6761dd1462981b683c"), looks := false }, kinds := [], alts := [], laidByText := true, laidKinds := [.data, .pinned], laidTests := true, laidLooks := .later }
def PathWalksCardSaid : Prop := Claim7.holds Tryd.pinned (.plain (OpenSpec.ofChange pathWalksSpec)) pathWalksCard

/-- THE TIED CARD OF 'carryalllaw10.PathStill'. -/
def pathStillCard : Claim7 := { stood := { row := pathStillRow, standIns := [], harness := (true, "2900569affad95388618658605d102014c678032ea4f0b6761dd1462981b683c"), looks := false }, kinds := [], alts := [], laidByText := true, laidKinds := [.data, .pinned], laidTests := true, laidLooks := .later }
def PathStillCardSaid : Prop := Claim7.holds Tryd.pinned (.plain (OpenSpec.ofChange pathStillSpec)) pathStillCard

/-- THE TIED CARD OF 'carryalllaw10.PathPlain'. -/
def pathPlainCard : Claim7 := { stood := { row := pathPlainRow, standIns := [], harness := (true, "2900569affad95388618658605d102014c678032ea4f0b6761dd1462981b683c"), looks := false }, kinds := [], alts := [], laidByText := true, laidKinds := [.data, .pinned], laidTests := true, laidLooks := .later }
def PathPlainCardSaid : Prop := Claim7.holds Tryd.pinned (.plain (OpenSpec.ofChange pathPlainSpec)) pathPlainCard

/-- THE TIED CARD OF 'carryalllaw10.PathTells'. -/
def pathTellsCard : Claim7 := { stood := { row := pathTellsRow, standIns := [], harness := (true, "2900569affad95388618658605d102014c678032ea4f0b6761dd1462981b683c"), looks := false }, kinds := [], alts := [], laidByText := true, laidKinds := [.data, .pinned], laidTests := true, laidLooks := .later }
def PathTellsCardSaid : Prop := Claim7.holds Tryd.pinned (.plain (OpenSpec.ofChange pathTellsSpec)) pathTellsCard

/-- THE SECOND FORM's CARD OF 'carryalllaw10.PathWalks'. -/
def pathWalksUptoCard : Claim7 := { stood := { row := pathWalksUptoRow, standIns := [], harness := (true, "2900569affad95388618658605d102014c678032ea4f0b6761dd1462981b683c"), looks := false }, kinds := [], alts := [], laidByText := true, laidKinds := [.data, .pinned], laidTests := true, laidLooks := .later }
def PathWalksUptoCardSaid : Prop := Claim7.holds Tryd.pinned (.plain (OpenSpec.upto pathWalksSpec)) pathWalksUptoCard

/-- THE SECOND FORM's CARD OF 'carryalllaw10.PathStill'. -/
def pathStillUptoCard : Claim7 := { stood := { row := pathStillUptoRow, standIns := [], harness := (true, "2900569affad95388618658605d102014c678032ea4f0b6761dd1462981b683c"), looks := false }, kinds := [], alts := [], laidByText := true, laidKinds := [.data, .pinned], laidTests := true, laidLooks := .later }
def PathStillUptoCardSaid : Prop := Claim7.holds Tryd.pinned (.plain (OpenSpec.upto pathStillSpec)) pathStillUptoCard

/-- THE SECOND FORM's CARD OF 'carryalllaw10.PathPlain'. -/
def pathPlainUptoCard : Claim7 := { stood := { row := pathPlainUptoRow, standIns := [], harness := (true, "2900569affad95388618658605d102014c678032ea4f0b6761dd1462981b683c"), looks := false }, kinds := [], alts := [], laidByText := true, laidKinds := [.data, .pinned], laidTests := true, laidLooks := .later }
def PathPlainUptoCardSaid : Prop := Claim7.holds Tryd.pinned (.plain (OpenSpec.upto pathPlainSpec)) pathPlainUptoCard

/-- THE SECOND FORM's CARD OF 'carryalllaw10.PathTells'. -/
def pathTellsUptoCard : Claim7 := { stood := { row := pathTellsUptoRow, standIns := [], harness := (true, "2900569affad95388618658605d102014c678032ea4f0b6761dd1462981b683c"), looks := false }, kinds := [], alts := [], laidByText := true, laidKinds := [.data, .pinned], laidTests := true, laidLooks := .later }
def PathTellsUptoCardSaid : Prop := Claim7.holds Tryd.pinned (.plain (OpenSpec.upto pathTellsSpec)) pathTellsUptoCard
end Rows
end Go.Proofs.YtpdkncchjkkmeaaDoor
