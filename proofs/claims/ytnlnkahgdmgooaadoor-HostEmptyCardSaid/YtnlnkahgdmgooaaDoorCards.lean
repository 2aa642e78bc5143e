/-
  DERIVED. GIVEN WITH THE SEED: THE CARDS: each row of YtnlnkahgdmgooaaDoorRows.lean that lists a variable, with what it lists TIED to the program's text (the seventh form; the later family's looks); each row that meets fmt, with fmt's text TOLD by the authors' own Lean function (tested against real Go, not proved from fmt's source: count such statements apart). THE CARD IS WHAT COUNTS. Prove the row's statement (the work); the ties are given (YtnlnkahgdmgooaaDoorTie.lean); close each card by the builder's one call (the guide's Derived/Test/ToyasCard.lean, 'card_holds'). Laid BY PROGRAM, IN A SANDBOX (cutbox-door.mjs). By AI agents, Wed Nov 11 2026. No macro, syntax, notation, axiom, sorry.
-/
import Derived.Test.YtnlnkahgdmgooaaDoorRows
import GoSem.ClaimSeven
namespace Go.Proofs.YtnlnkahgdmgooaaDoor
namespace Rows

/-- THE TIED CARD OF 'carryalllaw09.HostBack'. -/
def hostBackCard : Claim7 := { stood := { row := hostBackRow, standIns := [], harness := (true, "2f46ec91ee722397dd76269e26b898b3f9206fdb78fca0db4fe29eea75624553"), looks := true }, kinds := [], alts := [], laidByText := true, laidKinds := [.data, .data, .data, .data, .sentinel, .sentinel, .pinned], laidTests := true, laidLooks := .later }
def HostBackCardSaid : Prop := Claim7.holds Tryd.pinned (.plain (OpenSpec.ofChange hostBackSpec)) hostBackCard

/-- THE TIED CARD OF 'carryalllaw09.HostCase'. -/
def hostCaseCard : Claim7 := { stood := { row := hostCaseRow, standIns := [], harness := (true, "2f46ec91ee722397dd76269e26b898b3f9206fdb78fca0db4fe29eea75624553"), looks := true }, kinds := [], alts := [], laidByText := true, laidKinds := [.data, .data, .data, .data, .sentinel, .sentinel, .pinned], laidTests := true, laidLooks := .later }
def HostCaseCardSaid : Prop := Claim7.holds Tryd.pinned (.plain (OpenSpec.ofChange hostCaseSpec)) hostCaseCard

/-- THE TIED CARD OF 'carryalllaw09.HostEmpty'. -/
def hostEmptyCard : Claim7 := { stood := { row := hostEmptyRow, standIns := [], harness := (true, "2f46ec91ee722397dd76269e26b898b3f9206fdb78fca0db4fe29eea75624553"), looks := true }, kinds := [], alts := [], laidByText := true, laidKinds := [.data, .data, .data, .data, .sentinel, .sentinel, .pinned], laidTests := true, laidLooks := .later }
def HostEmptyCardSaid : Prop := Claim7.holds Tryd.pinned (.plain (OpenSpec.ofChange hostEmptySpec)) hostEmptyCard

/-- THE SECOND FORM's CARD OF 'carryalllaw09.HostBack'. -/
def hostBackUptoCard : Claim7 := { stood := { row := hostBackUptoRow, standIns := [], harness := (true, "2f46ec91ee722397dd76269e26b898b3f9206fdb78fca0db4fe29eea75624553"), looks := true }, kinds := [], alts := [], laidByText := true, laidKinds := [.data, .data, .data, .data, .sentinel, .sentinel, .pinned], laidTests := true, laidLooks := .later }
def HostBackUptoCardSaid : Prop := Claim7.holds Tryd.pinned (.plain (OpenSpec.upto hostBackSpec)) hostBackUptoCard

/-- THE SECOND FORM's CARD OF 'carryalllaw09.HostCase'. -/
def hostCaseUptoCard : Claim7 := { stood := { row := hostCaseUptoRow, standIns := [], harness := (true, "2f46ec91ee722397dd76269e26b898b3f9206fdb78fca0db4fe29eea75624553"), looks := true }, kinds := [], alts := [], laidByText := true, laidKinds := [.data, .data, .data, .data, .sentinel, .sentinel, .pinned], laidTests := true, laidLooks := .later }
def HostCaseUptoCardSaid : Prop := Claim7.holds Tryd.pinned (.plain (OpenSpec.upto hostCaseSpec)) hostCaseUptoCard

/-- THE SECOND FORM's CARD OF 'carryalllaw09.HostEmpty'. -/
def hostEmptyUptoCard : Claim7 := { stood := { row := hostEmptyUptoRow, standIns := [], harness := (true, "2f46ec91ee722397dd76269e26b898b3f9206fdb78fca0db4fe29eea75624553"), looks := true }, kinds := [], alts := [], laidByText := true, laidKinds := [.data, .data, .data, .data, .sentinel, .sentinel, .pinned], laidTests := true, laidLooks := .later }
def HostEmptyUptoCardSaid : Prop := Claim7.holds Tryd.pinned (.plain (OpenSpec.upto hostEmptySpec)) hostEmptyUptoCard
end Rows
end Go.Proofs.YtnlnkahgdmgooaaDoor
