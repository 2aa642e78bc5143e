/-
  DERIVED. GIVEN WITH THE SEED: THE CARDS: each row of YtamoggikjaoanaaDoorRows.lean that lists a variable, with what it lists TIED to the program's text (the seventh form; the later family's looks); each row that meets fmt, with fmt's text TOLD by the authors' own Lean function (tested against real Go, not proved from fmt's source: count such statements apart). THE CARD IS WHAT COUNTS. Prove the row's statement (the work); the ties are given (YtamoggikjaoanaaDoorTie.lean); close each card by the builder's one call (the guide's Derived/Test/ToyasCard.lean, 'card_holds'). Laid BY PROGRAM, IN A SANDBOX (cutbox-door.mjs). By AI agents, Wed Nov 11 2026. No macro, syntax, notation, axiom, sorry.
-/
import Derived.Test.YtamoggikjaoanaaDoorRows
import GoSem.ClaimSeven
namespace Go.Proofs.YtamoggikjaoanaaDoor
namespace Rows

/-- THE TIED CARD OF 'carryalllaw11.UrlWrites'. -/
def urlWritesCard : Claim7 := { stood := { row := urlWritesRow, standIns := [], harness := (true, "a75d61832405afd3d35ba960085540c2c592116b835b2a7f6e997bc75eb2e91b"), looks := false }, kinds := [], alts := [], laidByText := true, laidKinds := [.data, .data, .data], laidTests := true, laidLooks := .later }
def UrlWritesCardSaid : Prop := Claim7.holds Tryd.pinned (.plain (OpenSpec.ofChange urlWritesSpec)) urlWritesCard

/-- THE TIED CARD OF 'carryalllaw11.UrlSchemes'. -/
def urlSchemesCard : Claim7 := { stood := { row := urlSchemesRow, standIns := [], harness := (true, "a75d61832405afd3d35ba960085540c2c592116b835b2a7f6e997bc75eb2e91b"), looks := false }, kinds := [], alts := [], laidByText := true, laidKinds := [.data, .data, .data], laidTests := true, laidLooks := .later }
def UrlSchemesCardSaid : Prop := Claim7.holds Tryd.pinned (.plain (OpenSpec.ofChange urlSchemesSpec)) urlSchemesCard

/-- THE TIED CARD OF 'carryalllaw11.UrlSame'. -/
def urlSameCard : Claim7 := { stood := { row := urlSameRow, standIns := [], harness := (true, "a75d61832405afd3d35ba960085540c2c592116b835b2a7f6e997bc75eb2e91b"), looks := false }, kinds := [], alts := [], laidByText := true, laidKinds := [.data, .data, .data], laidTests := true, laidLooks := .later }
def UrlSameCardSaid : Prop := Claim7.holds Tryd.pinned (.plain (OpenSpec.ofChange urlSameSpec)) urlSameCard

/-- THE TIED CARD OF 'carryalllaw11.UrlFragments'. -/
def urlFragmentsCard : Claim7 := { stood := { row := urlFragmentsRow, standIns := [], harness := (true, "a75d61832405afd3d35ba960085540c2c592116b835b2a7f6e997bc75eb2e91b"), looks := false }, kinds := [], alts := [], laidByText := true, laidKinds := [.data, .data, .data], laidTests := true, laidLooks := .later }
def UrlFragmentsCardSaid : Prop := Claim7.holds Tryd.pinned (.plain (OpenSpec.ofChange urlFragmentsSpec)) urlFragmentsCard

/-- THE SECOND FORM's CARD OF 'carryalllaw11.UrlWrites'. -/
def urlWritesUptoCard : Claim7 := { stood := { row := urlWritesUptoRow, standIns := [], harness := (true, "a75d61832405afd3d35ba960085540c2c592116b835b2a7f6e997bc75eb2e91b"), looks := false }, kinds := [], alts := [], laidByText := true, laidKinds := [.data, .data, .data], laidTests := true, laidLooks := .later }
def UrlWritesUptoCardSaid : Prop := Claim7.holds Tryd.pinned (.plain (OpenSpec.upto urlWritesSpec)) urlWritesUptoCard

/-- THE SECOND FORM's CARD OF 'carryalllaw11.UrlSchemes'. -/
def urlSchemesUptoCard : Claim7 := { stood := { row := urlSchemesUptoRow, standIns := [], harness := (true, "a75d61832405afd3d35ba960085540c2c592116b835b2a7f6e997bc75eb2e91b"), looks := false }, kinds := [], alts := [], laidByText := true, laidKinds := [.data, .data, .data], laidTests := true, laidLooks := .later }
def UrlSchemesUptoCardSaid : Prop := Claim7.holds Tryd.pinned (.plain (OpenSpec.upto urlSchemesSpec)) urlSchemesUptoCard

/-- THE SECOND FORM's CARD OF 'carryalllaw11.UrlSame'. -/
def urlSameUptoCard : Claim7 := { stood := { row := urlSameUptoRow, standIns := [], harness := (true, "a75d61832405afd3d35ba960085540c2c592116b835b2a7f6e997bc75eb2e91b"), looks := false }, kinds := [], alts := [], laidByText := true, laidKinds := [.data, .data, .data], laidTests := true, laidLooks := .later }
def UrlSameUptoCardSaid : Prop := Claim7.holds Tryd.pinned (.plain (OpenSpec.upto urlSameSpec)) urlSameUptoCard

/-- THE SECOND FORM's CARD OF 'carryalllaw11.UrlFragments'. -/
def urlFragmentsUptoCard : Claim7 := { stood := { row := urlFragmentsUptoRow, standIns := [], harness := (true, "a75d61832405afd3d35ba960085540c2c592116b835b2a7f6e997bc75eb2e91b"), looks := false }, kinds := [], alts := [], laidByText := true, laidKinds := [.data, .data, .data], laidTests := true, laidLooks := .later }
def UrlFragmentsUptoCardSaid : Prop := Claim7.holds Tryd.pinned (.plain (OpenSpec.upto urlFragmentsSpec)) urlFragmentsUptoCard
end Rows
end Go.Proofs.YtamoggikjaoanaaDoor
