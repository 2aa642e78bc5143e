/-
  DERIVED. GIVEN WITH THE SEED: THE CARDS: each row of YtbobbbpjphkooaaDoorRows.lean that lists a variable, with what it lists TIED to the program's text (the seventh form; the later family's looks); each row that meets fmt, with fmt's text TOLD by the authors' own Lean function (tested against real Go, not proved from fmt's source: count such statements apart). THE CARD IS WHAT COUNTS. Prove the row's statement (the work); the ties are given (YtbobbbpjphkooaaDoorTie.lean); close each card by the builder's one call (the guide's Derived/Test/ToyasCard.lean, 'card_holds'). Laid BY PROGRAM, IN A SANDBOX (cutbox-door.mjs). By AI agents, Wed Nov 11 2026. No macro, syntax, notation, axiom, sorry.
-/
import Derived.Test.YtbobbbpjphkooaaDoorRows
import GoSem.ClaimSeven
namespace Go.Proofs.YtbobbbpjphkooaaDoor
namespace Rows

/-- THE TIED CARD OF 'carryalllaw03.BaseWrites'. -/
def baseWritesCard : Claim7 := { stood := { row := baseWritesRow, standIns := [], harness := (true, "c932918c22437e84f8c6190090c74ce4cb3cc5f7d3e17ce78740bfc33024561b"), looks := false }, kinds := [], alts := [], laidByText := true, laidKinds := [.data, .pinned], laidTests := true, laidLooks := .later }
def BaseWritesCardSaid : Prop := Claim7.holds Tryd.pinned (.plain (OpenSpec.ofChange baseWritesSpec)) baseWritesCard

/-- THE TIED CARD OF 'carryalllaw03.BaseReads'. -/
def baseReadsCard : Claim7 := { stood := { row := baseReadsRow, standIns := [], harness := (true, "c932918c22437e84f8c6190090c74ce4cb3cc5f7d3e17ce78740bfc33024561b"), looks := false }, kinds := [], alts := [], laidByText := true, laidKinds := [.data, .pinned], laidTests := true, laidLooks := .later }
def BaseReadsCardSaid : Prop := Claim7.holds Tryd.pinned (.plain (OpenSpec.ofChange baseReadsSpec)) baseReadsCard

/-- THE TIED CARD OF 'carryalllaw03.BaseBlanks'. -/
def baseBlanksCard : Claim7 := { stood := { row := baseBlanksRow, standIns := [], harness := (true, "c932918c22437e84f8c6190090c74ce4cb3cc5f7d3e17ce78740bfc33024561b"), looks := false }, kinds := [], alts := [], laidByText := true, laidKinds := [.data, .pinned], laidTests := true, laidLooks := .later }
def BaseBlanksCardSaid : Prop := Claim7.holds Tryd.pinned (.plain (OpenSpec.ofChange baseBlanksSpec)) baseBlanksCard

/-- THE TIED CARD OF 'carryalllaw03.BaseParts'. -/
def basePartsCard : Claim7 := { stood := { row := basePartsRow, standIns := [], harness := (true, "c932918c22437e84f8c6190090c74ce4cb3cc5f7d3e17ce78740bfc33024561b"), looks := false }, kinds := [], alts := [], laidByText := true, laidKinds := [.data, .pinned], laidTests := true, laidLooks := .later }
def BasePartsCardSaid : Prop := Claim7.holds Tryd.pinned (.plain (OpenSpec.ofChange basePartsSpec)) basePartsCard

/-- THE TIED CARD OF 'carryalllaw03.BaseOdd'. -/
def baseOddCard : Claim7 := { stood := { row := baseOddRow, standIns := [], harness := (true, "c932918c22437e84f8c6190090c74ce4cb3cc5f7d3e17ce78740bfc33024561b"), looks := false }, kinds := [], alts := [], laidByText := true, laidKinds := [.data, .pinned], laidTests := true, laidLooks := .later }
def BaseOddCardSaid : Prop := Claim7.holds Tryd.pinned (.plain (OpenSpec.ofChange baseOddSpec)) baseOddCard

/-- THE SECOND FORM's CARD OF 'carryalllaw03.BaseWrites'. -/
def baseWritesUptoCard : Claim7 := { stood := { row := baseWritesUptoRow, standIns := [], harness := (true, "c932918c22437e84f8c6190090c74ce4cb3cc5f7d3e17ce78740bfc33024561b"), looks := false }, kinds := [], alts := [], laidByText := true, laidKinds := [.data, .pinned], laidTests := true, laidLooks := .later }
def BaseWritesUptoCardSaid : Prop := Claim7.holds Tryd.pinned (.plain (OpenSpec.upto baseWritesSpec)) baseWritesUptoCard

/-- THE SECOND FORM's CARD OF 'carryalllaw03.BaseReads'. -/
def baseReadsUptoCard : Claim7 := { stood := { row := baseReadsUptoRow, standIns := [], harness := (true, "c932918c22437e84f8c6190090c74ce4cb3cc5f7d3e17ce78740bfc33024561b"), looks := false }, kinds := [], alts := [], laidByText := true, laidKinds := [.data, .pinned], laidTests := true, laidLooks := .later }
def BaseReadsUptoCardSaid : Prop := Claim7.holds Tryd.pinned (.plain (OpenSpec.upto baseReadsSpec)) baseReadsUptoCard

/-- THE SECOND FORM's CARD OF 'carryalllaw03.BaseBlanks'. -/
def baseBlanksUptoCard : Claim7 := { stood := { row := baseBlanksUptoRow, standIns := [], harness := (true, "c932918c22437e84f8c6190090c74ce4cb3cc5f7d3e17ce78740bfc33024561b"), looks := false }, kinds := [], alts := [], laidByText := true, laidKinds := [.data, .pinned], laidTests := true, laidLooks := .later }
def BaseBlanksUptoCardSaid : Prop := Claim7.holds Tryd.pinned (.plain (OpenSpec.upto baseBlanksSpec)) baseBlanksUptoCard

/-- THE SECOND FORM's CARD OF 'carryalllaw03.BaseParts'. -/
def basePartsUptoCard : Claim7 := { stood := { row := basePartsUptoRow, standIns := [], harness := (true, "c932918c22437e84f8c6190090c74ce4cb3cc5f7d3e17ce78740bfc33024561b"), looks := false }, kinds := [], alts := [], laidByText := true, laidKinds := [.data, .pinned], laidTests := true, laidLooks := .later }
def BasePartsUptoCardSaid : Prop := Claim7.holds Tryd.pinned (.plain (OpenSpec.upto basePartsSpec)) basePartsUptoCard

/-- THE SECOND FORM's CARD OF 'carryalllaw03.BaseOdd'. -/
def baseOddUptoCard : Claim7 := { stood := { row := baseOddUptoRow, standIns := [], harness := (true, "c932918c22437e84f8c6190090c74ce4cb3cc5f7d3e17ce78740bfc33024561b"), looks := false }, kinds := [], alts := [], laidByText := true, laidKinds := [.data, .pinned], laidTests := true, laidLooks := .later }
def BaseOddUptoCardSaid : Prop := Claim7.holds Tryd.pinned (.plain (OpenSpec.upto baseOddSpec)) baseOddUptoCard
end Rows
end Go.Proofs.YtbobbbpjphkooaaDoor
