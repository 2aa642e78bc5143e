/-
  DERIVED. GIVEN WITH THE SEED: THE CARDS: each row of YtkoddcihcoekgaaDoorRows.lean that lists a variable, with what it lists TIED to the program's text (the seventh form; the later family's looks); each row that meets fmt, with fmt's text TOLD by the authors' own Lean function (tested against real Go, not proved from fmt's source: count such statements apart). THE CARD IS WHAT COUNTS. Prove the row's statement (the work); the ties are given (YtkoddcihcoekgaaDoorTie.lean); close each card by the builder's one call (the guide's Derived/Test/ToyasCard.lean, 'card_holds'). Laid BY PROGRAM, IN A SANDBOX (cutbox-door.mjs). By AI agents, Wed Nov 11 2026. No macro, syntax, notation, axiom, sorry.
-/
import Derived.Test.YtkoddcihcoekgaaDoorRows
import GoSem.ClaimSeven
namespace Go.Proofs.YtkoddcihcoekgaaDoor
namespace Rows

/-- THE TIED CARD OF 'carryalllaw01.UtfBytes'. -/
def utfBytesCard : Claim7 := { stood := { row := utfBytesRow, standIns := [], harness := (true, "a9b1c04432471fe68b204a3094fb6520137a0ea109f62a2974712159e569edac"), looks := false }, kinds := [], alts := [], laidByText := true, laidKinds := [.data, .pinned], laidTests := true, laidLooks := .later }
def UtfBytesCardSaid : Prop := Claim7.holds Tryd.pinned (.plain (OpenSpec.ofChange utfBytesSpec)) utfBytesCard

/-- THE TIED CARD OF 'carryalllaw01.UtfCase'. -/
def utfCaseCard : Claim7 := { stood := { row := utfCaseRow, standIns := [], harness := (true, "a9b1c04432471fe68b204a3094fb6520137a0ea109f62a2974712159e569edac"), looks := false }, kinds := [], alts := [], laidByText := true, laidKinds := [.data, .pinned], laidTests := true, laidLooks := .later }
def UtfCaseCardSaid : Prop := Claim7.holds Tryd.pinned (.plain (OpenSpec.ofChange utfCaseSpec)) utfCaseCard

/-- THE TIED CARD OF 'carryalllaw01.UtfReads'. -/
def utfReadsCard : Claim7 := { stood := { row := utfReadsRow, standIns := [], harness := (true, "a9b1c04432471fe68b204a3094fb6520137a0ea109f62a2974712159e569edac"), looks := false }, kinds := [], alts := [], laidByText := true, laidKinds := [.data, .pinned], laidTests := true, laidLooks := .later }
def UtfReadsCardSaid : Prop := Claim7.holds Tryd.pinned (.plain (OpenSpec.ofChange utfReadsSpec)) utfReadsCard

/-- THE TIED CARD OF 'carryalllaw01.UtfBack'. -/
def utfBackCard : Claim7 := { stood := { row := utfBackRow, standIns := [], harness := (true, "a9b1c04432471fe68b204a3094fb6520137a0ea109f62a2974712159e569edac"), looks := false }, kinds := [], alts := [], laidByText := true, laidKinds := [.data, .pinned], laidTests := true, laidLooks := .later }
def UtfBackCardSaid : Prop := Claim7.holds Tryd.pinned (.plain (OpenSpec.ofChange utfBackSpec)) utfBackCard

/-- THE TIED CARD OF 'carryalllaw01.UtfJoins'. -/
def utfJoinsCard : Claim7 := { stood := { row := utfJoinsRow, standIns := [], harness := (true, "a9b1c04432471fe68b204a3094fb6520137a0ea109f62a2974712159e569edac"), looks := false }, kinds := [], alts := [], laidByText := true, laidKinds := [.data, .pinned], laidTests := true, laidLooks := .later }
def UtfJoinsCardSaid : Prop := Claim7.holds Tryd.pinned (.plain (OpenSpec.ofChange utfJoinsSpec)) utfJoinsCard

/-- THE TIED CARD OF 'carryalllaw01.UtfOnes'. -/
def utfOnesCard : Claim7 := { stood := { row := utfOnesRow, standIns := [], harness := (true, "a9b1c04432471fe68b204a3094fb6520137a0ea109f62a2974712159e569edac"), looks := false }, kinds := [], alts := [], laidByText := true, laidKinds := [.data, .pinned], laidTests := true, laidLooks := .later }
def UtfOnesCardSaid : Prop := Claim7.holds Tryd.pinned (.plain (OpenSpec.ofChange utfOnesSpec)) utfOnesCard

/-- THE SECOND FORM's CARD OF 'carryalllaw01.UtfBytes'. -/
def utfBytesUptoCard : Claim7 := { stood := { row := utfBytesUptoRow, standIns := [], harness := (true, "a9b1c04432471fe68b204a3094fb6520137a0ea109f62a2974712159e569edac"), looks := false }, kinds := [], alts := [], laidByText := true, laidKinds := [.data, .pinned], laidTests := true, laidLooks := .later }
def UtfBytesUptoCardSaid : Prop := Claim7.holds Tryd.pinned (.plain (OpenSpec.upto utfBytesSpec)) utfBytesUptoCard

/-- THE SECOND FORM's CARD OF 'carryalllaw01.UtfCase'. -/
def utfCaseUptoCard : Claim7 := { stood := { row := utfCaseUptoRow, standIns := [], harness := (true, "a9b1c04432471fe68b204a3094fb6520137a0ea109f62a2974712159e569edac"), looks := false }, kinds := [], alts := [], laidByText := true, laidKinds := [.data, .pinned], laidTests := true, laidLooks := .later }
def UtfCaseUptoCardSaid : Prop := Claim7.holds Tryd.pinned (.plain (OpenSpec.upto utfCaseSpec)) utfCaseUptoCard

/-- THE SECOND FORM's CARD OF 'carryalllaw01.UtfReads'. -/
def utfReadsUptoCard : Claim7 := { stood := { row := utfReadsUptoRow, standIns := [], harness := (true, "a9b1c04432471fe68b204a3094fb6520137a0ea109f62a2974712159e569edac"), looks := false }, kinds := [], alts := [], laidByText := true, laidKinds := [.data, .pinned], laidTests := true, laidLooks := .later }
def UtfReadsUptoCardSaid : Prop := Claim7.holds Tryd.pinned (.plain (OpenSpec.upto utfReadsSpec)) utfReadsUptoCard

/-- THE SECOND FORM's CARD OF 'carryalllaw01.UtfBack'. -/
def utfBackUptoCard : Claim7 := { stood := { row := utfBackUptoRow, standIns := [], harness := (true, "a9b1c04432471fe68b204a3094fb6520137a0ea109f62a2974712159e569edac"), looks := false }, kinds := [], alts := [], laidByText := true, laidKinds := [.data, .pinned], laidTests := true, laidLooks := .later }
def UtfBackUptoCardSaid : Prop := Claim7.holds Tryd.pinned (.plain (OpenSpec.upto utfBackSpec)) utfBackUptoCard

/-- THE SECOND FORM's CARD OF 'carryalllaw01.UtfJoins'. -/
def utfJoinsUptoCard : Claim7 := { stood := { row := utfJoinsUptoRow, standIns := [], harness := (true, "a9b1c04432471fe68b204a3094fb6520137a0ea109f62a2974712159e569edac"), looks := false }, kinds := [], alts := [], laidByText := true, laidKinds := [.data, .pinned], laidTests := true, laidLooks := .later }
def UtfJoinsUptoCardSaid : Prop := Claim7.holds Tryd.pinned (.plain (OpenSpec.upto utfJoinsSpec)) utfJoinsUptoCard

/-- THE SECOND FORM's CARD OF 'carryalllaw01.UtfOnes'. -/
def utfOnesUptoCard : Claim7 := { stood := { row := utfOnesUptoRow, standIns := [], harness := (true, "a9b1c04432471fe68b204a3094fb6520137a0ea109f62a2974712159e569edac"), looks := false }, kinds := [], alts := [], laidByText := true, laidKinds := [.data, .pinned], laidTests := true, laidLooks := .later }
def UtfOnesUptoCardSaid : Prop := Claim7.holds Tryd.pinned (.plain (OpenSpec.upto utfOnesSpec)) utfOnesUptoCard
end Rows
end Go.Proofs.YtkoddcihcoekgaaDoor
