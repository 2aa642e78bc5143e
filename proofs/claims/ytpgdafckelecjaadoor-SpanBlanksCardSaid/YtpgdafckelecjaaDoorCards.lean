/-
  DERIVED. GIVEN WITH THE SEED: THE CARDS: each row of YtpgdafckelecjaaDoorRows.lean that lists a variable, with what it lists TIED to the program's text (the seventh form; the later family's looks); each row that meets fmt, with fmt's text TOLD by the authors' own Lean function (tested against real Go, not proved from fmt's source: count such statements apart). THE CARD IS WHAT COUNTS. Prove the row's statement (the work); the ties are given (YtpgdafckelecjaaDoorTie.lean); close each card by the builder's one call (the guide's Derived/Test/ToyasCard.lean, 'card_holds'). Laid BY PROGRAM, IN A SANDBOX (cutbox-door.mjs). By AI agents, Wed Nov 11 2026. No macro, syntax, notation, axiom, sorry.
-/
import Derived.Test.YtpgdafckelecjaaDoorRows
import GoSem.ClaimSeven
namespace Go.Proofs.YtpgdafckelecjaaDoor
namespace Rows

/-- THE TIED CARD OF 'carryalllaw20.SpanReads'. -/
def spanReadsCard : Claim7 := { stood := { row := spanReadsRow, standIns := [], harness := (true, "1f1db59192d0451606acb352d8828421d8d6852c6462b121bc5ba028aff9e6cc"), looks := false }, kinds := [], alts := [], laidByText := true, laidKinds := [.data, .data, .data, .data, .pinned], laidTests := true, laidLooks := .later }
def SpanReadsCardSaid : Prop := Claim7.holds Tryd.pinned (.plain (OpenSpec.ofChange spanReadsSpec)) spanReadsCard

/-- THE TIED CARD OF 'carryalllaw20.SpanMeans'. -/
def spanMeansCard : Claim7 := { stood := { row := spanMeansRow, standIns := [], harness := (true, "1f1db59192d0451606acb352d8828421d8d6852c6462b121bc5ba028aff9e6cc"), looks := false }, kinds := [], alts := [], laidByText := true, laidKinds := [.data, .data, .data, .data, .pinned], laidTests := true, laidLooks := .later }
def SpanMeansCardSaid : Prop := Claim7.holds Tryd.pinned (.plain (OpenSpec.ofChange spanMeansSpec)) spanMeansCard

/-- THE TIED CARD OF 'carryalllaw20.SpanBack'. -/
def spanBackCard : Claim7 := { stood := { row := spanBackRow, standIns := [], harness := (true, "1f1db59192d0451606acb352d8828421d8d6852c6462b121bc5ba028aff9e6cc"), looks := false }, kinds := [], alts := [], laidByText := true, laidKinds := [.data, .data, .data, .data, .pinned], laidTests := true, laidLooks := .later }
def SpanBackCardSaid : Prop := Claim7.holds Tryd.pinned (.plain (OpenSpec.ofChange spanBackSpec)) spanBackCard

/-- THE TIED CARD OF 'carryalllaw20.SpanBig'. -/
def spanBigCard : Claim7 := { stood := { row := spanBigRow, standIns := [], harness := (true, "1f1db59192d0451606acb352d8828421d8d6852c6462b121bc5ba028aff9e6cc"), looks := false }, kinds := [], alts := [], laidByText := true, laidKinds := [.data, .data, .data, .data, .pinned], laidTests := true, laidLooks := .later }
def SpanBigCardSaid : Prop := Claim7.holds Tryd.pinned (.plain (OpenSpec.ofChange spanBigSpec)) spanBigCard

/-- THE TIED CARD OF 'carryalllaw20.SpanWhole'. -/
def spanWholeCard : Claim7 := { stood := { row := spanWholeRow, standIns := [], harness := (true, "1f1db59192d0451606acb352d8828421d8d6852c6462b121bc5ba028aff9e6cc"), looks := false }, kinds := [], alts := [], laidByText := true, laidKinds := [.data, .data, .data, .data, .pinned], laidTests := true, laidLooks := .later }
def SpanWholeCardSaid : Prop := Claim7.holds Tryd.pinned (.plain (OpenSpec.ofChange spanWholeSpec)) spanWholeCard

/-- THE TIED CARD OF 'carryalllaw20.SpanBlanks'. -/
def spanBlanksCard : Claim7 := { stood := { row := spanBlanksRow, standIns := [], harness := (true, "1f1db59192d0451606acb352d8828421d8d6852c6462b121bc5ba028aff9e6cc"), looks := false }, kinds := [], alts := [], laidByText := true, laidKinds := [.data, .data, .data, .data, .pinned], laidTests := true, laidLooks := .later }
def SpanBlanksCardSaid : Prop := Claim7.holds Tryd.pinned (.plain (OpenSpec.ofChange spanBlanksSpec)) spanBlanksCard

/-- THE SECOND FORM's CARD OF 'carryalllaw20.SpanReads'. -/
def spanReadsUptoCard : Claim7 := { stood := { row := spanReadsUptoRow, standIns := [], harness := (true, "1f1db59192d0451606acb352d8828421d8d6852c6462b121bc5ba028aff9e6cc"), looks := false }, kinds := [], alts := [], laidByText := true, laidKinds := [.data, .data, .data, .data, .pinned], laidTests := true, laidLooks := .later }
def SpanReadsUptoCardSaid : Prop := Claim7.holds Tryd.pinned (.plain (OpenSpec.upto spanReadsSpec)) spanReadsUptoCard

/-- THE SECOND FORM's CARD OF 'carryalllaw20.SpanMeans'. -/
def spanMeansUptoCard : Claim7 := { stood := { row := spanMeansUptoRow, standIns := [], harness := (true, "1f1db59192d0451606acb352d8828421d8d6852c6462b121bc5ba028aff9e6cc"), looks := false }, kinds := [], alts := [], laidByText := true, laidKinds := [.data, .data, .data, .data, .pinned], laidTests := true, laidLooks := .later }
def SpanMeansUptoCardSaid : Prop := Claim7.holds Tryd.pinned (.plain (OpenSpec.upto spanMeansSpec)) spanMeansUptoCard

/-- THE SECOND FORM's CARD OF 'carryalllaw20.SpanBack'. -/
def spanBackUptoCard : Claim7 := { stood := { row := spanBackUptoRow, standIns := [], harness := (true, "1f1db59192d0451606acb352d8828421d8d6852c6462b121bc5ba028aff9e6cc"), looks := false }, kinds := [], alts := [], laidByText := true, laidKinds := [.data, .data, .data, .data, .pinned], laidTests := true, laidLooks := .later }
def SpanBackUptoCardSaid : Prop := Claim7.holds Tryd.pinned (.plain (OpenSpec.upto spanBackSpec)) spanBackUptoCard

/-- THE SECOND FORM's CARD OF 'carryalllaw20.SpanBig'. -/
def spanBigUptoCard : Claim7 := { stood := { row := spanBigUptoRow, standIns := [], harness := (true, "1f1db59192d0451606acb352d8828421d8d6852c6462b121bc5ba028aff9e6cc"), looks := false }, kinds := [], alts := [], laidByText := true, laidKinds := [.data, .data, .data, .data, .pinned], laidTests := true, laidLooks := .later }
def SpanBigUptoCardSaid : Prop := Claim7.holds Tryd.pinned (.plain (OpenSpec.upto spanBigSpec)) spanBigUptoCard

/-- THE SECOND FORM's CARD OF 'carryalllaw20.SpanWhole'. -/
def spanWholeUptoCard : Claim7 := { stood := { row := spanWholeUptoRow, standIns := [], harness := (true, "1f1db59192d0451606acb352d8828421d8d6852c6462b121bc5ba028aff9e6cc"), looks := false }, kinds := [], alts := [], laidByText := true, laidKinds := [.data, .data, .data, .data, .pinned], laidTests := true, laidLooks := .later }
def SpanWholeUptoCardSaid : Prop := Claim7.holds Tryd.pinned (.plain (OpenSpec.upto spanWholeSpec)) spanWholeUptoCard

/-- THE SECOND FORM's CARD OF 'carryalllaw20.SpanBlanks'. -/
def spanBlanksUptoCard : Claim7 := { stood := { row := spanBlanksUptoRow, standIns := [], harness := (true, "1f1db59192d0451606acb352d8828421d8d6852c6462b121bc5ba028aff9e6cc"), looks := false }, kinds := [], alts := [], laidByText := true, laidKinds := [.data, .data, .data, .data, .pinned], laidTests := true, laidLooks := .later }
def SpanBlanksUptoCardSaid : Prop := Claim7.holds Tryd.pinned (.plain (OpenSpec.upto spanBlanksSpec)) spanBlanksUptoCard
end Rows
end Go.Proofs.YtpgdafckelecjaaDoor
