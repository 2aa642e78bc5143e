/-
  No cell of these rows narrows 'for every input' (looked for: loops, veiled, ifaces, maps, wideKeys, modest, calm, conditions, laid).
  DERIVED. THE GIVEN ROWS OF THIS SEAT. 6 by the template 'for every input the law returns true; each argument reads behind the call as it read before'; 0 by the template 'total and deterministic' (their statements: YtmekpmfhckodaaaTotals.lean).
  GIVEN WITH THE SEED: the statements are not yours to turn. If you find one false, say at which input.
  Laid BY PROGRAM, IN A SANDBOX (cutbox-rows.mjs): the forced cells as the released guide's own fill.sh prints them over the translation a7afa5f01a5329b0… (all of the seat's roots in one cut). By AI agents, Wed Nov 11 2026. No macro, syntax, notation, axiom, sorry.
-/
import Derived.Test.YtmekpmfhckodaaaChecked
import GoSem.Claim
import GoSem.ClaimJoined
import GoSem.ClaimMapViews
import Derived.JoinedTies
import Derived.KernelRfl
namespace Go.Proofs.Ytmekpmfhckodaaa
/- THE CELL 'sum', in the pinned program and in every row, IS THE sha256 OF THE DUMP (.gsa) THAT YtmekpmfhckodaaaProg.lean LOADS. Nothing in Lean hashes anything: it is a label: what it is worth is what the hold of that sum in a sandbox is worth. -/
noncomputable def Try.pinned : Pinned := { name := "ytmekpmfhckodaaa", sum := "a7afa5f01a5329b08c0084cee4b22d3c71e41aabcb8ed177c2e5fdfc10d51a6d", checked := Try.checked }
namespace Rows
def none {H : Type} : Left H := { results := [], args := [] }

/-- 'carryalllaw02.EscapeSets': WHATEVER THE INPUT: true; the input reads as it did. -/
def escapeSetsSpec : ChangeSpec := { name := "escapeSets", fn := fun _ => fun
  | [d1, d2] => { results := [.lit (.bool true)], args := [d1, d2] }
  | _ => none }
def escapeSetsRow : OpenClaim := { program := "ytmekpmfhckodaaa", sum := "a7afa5f01a5329b08c0084cee4b22d3c71e41aabcb8ed177c2e5fdfc10d51a6d", func := "carryall/carryalllaw02.EscapeSets", spec := "escapeSets", inPlace := ["internal/bytealg.IndexByteString", "internal/abi.NoEscape"], apart := false }
def EscapeSetsSaid : Prop := escapeSetsRow.holds Try.pinned (OpenSpec.ofChange escapeSetsSpec)

/-- ITS FALSE NEIGHBOUR: 'it returns false'. Refute it at one input. -/
def escapeSetsWrong : ChangeSpec := { name := "escapeSets", fn := fun _ => fun
  | [d1, d2] => { results := [.lit (.bool false)], args := [d1, d2] }
  | _ => none }
def EscapeSetsWrongFalsely : Prop := escapeSetsRow.holds Try.pinned (OpenSpec.ofChange escapeSetsWrong)

/-- 'carryalllaw02.EscapeBytes': WHATEVER THE INPUT: true; the input reads as it did. -/
def escapeBytesSpec : ChangeSpec := { name := "escapeBytes", fn := fun _ => fun
  | [d1, d2] => { results := [.lit (.bool true)], args := [d1, d2] }
  | _ => none }
def escapeBytesRow : OpenClaim := { program := "ytmekpmfhckodaaa", sum := "a7afa5f01a5329b08c0084cee4b22d3c71e41aabcb8ed177c2e5fdfc10d51a6d", func := "carryall/carryalllaw02.EscapeBytes", spec := "escapeBytes", inPlace := ["internal/bytealg.IndexByteString", "internal/abi.NoEscape"], apart := false }
def EscapeBytesSaid : Prop := escapeBytesRow.holds Try.pinned (OpenSpec.ofChange escapeBytesSpec)

/-- ITS FALSE NEIGHBOUR: 'it returns false'. Refute it at one input. -/
def escapeBytesWrong : ChangeSpec := { name := "escapeBytes", fn := fun _ => fun
  | [d1, d2] => { results := [.lit (.bool false)], args := [d1, d2] }
  | _ => none }
def EscapeBytesWrongFalsely : Prop := escapeBytesRow.holds Try.pinned (OpenSpec.ofChange escapeBytesWrong)

/-- 'carryalllaw02.EscapeBack': WHATEVER THE INPUT: true; the input reads as it did. -/
def escapeBackSpec : ChangeSpec := { name := "escapeBack", fn := fun _ => fun
  | [d1, d2] => { results := [.lit (.bool true)], args := [d1, d2] }
  | _ => none }
def escapeBackRow : OpenClaim := { program := "ytmekpmfhckodaaa", sum := "a7afa5f01a5329b08c0084cee4b22d3c71e41aabcb8ed177c2e5fdfc10d51a6d", func := "carryall/carryalllaw02.EscapeBack", spec := "escapeBack", inPlace := ["internal/bytealg.IndexByteString", "internal/abi.NoEscape"], apart := false }
def EscapeBackSaid : Prop := escapeBackRow.holds Try.pinned (OpenSpec.ofChange escapeBackSpec)

/-- ITS FALSE NEIGHBOUR: 'it returns false'. Refute it at one input. -/
def escapeBackWrong : ChangeSpec := { name := "escapeBack", fn := fun _ => fun
  | [d1, d2] => { results := [.lit (.bool false)], args := [d1, d2] }
  | _ => none }
def EscapeBackWrongFalsely : Prop := escapeBackRow.holds Try.pinned (OpenSpec.ofChange escapeBackWrong)

/-- 'carryalllaw02.EscapeGrows': WHATEVER THE INPUT: true; the input reads as it did. -/
def escapeGrowsSpec : ChangeSpec := { name := "escapeGrows", fn := fun _ => fun
  | [d] => { results := [.lit (.bool true)], args := [d] }
  | _ => none }
def escapeGrowsRow : OpenClaim := { program := "ytmekpmfhckodaaa", sum := "a7afa5f01a5329b08c0084cee4b22d3c71e41aabcb8ed177c2e5fdfc10d51a6d", func := "carryall/carryalllaw02.EscapeGrows", spec := "escapeGrows", inPlace := ["internal/bytealg.IndexByteString", "internal/abi.NoEscape"], apart := false }
def EscapeGrowsSaid : Prop := escapeGrowsRow.holds Try.pinned (OpenSpec.ofChange escapeGrowsSpec)

/-- ITS FALSE NEIGHBOUR: 'it returns false'. Refute it at one input. -/
def escapeGrowsWrong : ChangeSpec := { name := "escapeGrows", fn := fun _ => fun
  | [d] => { results := [.lit (.bool false)], args := [d] }
  | _ => none }
def EscapeGrowsWrongFalsely : Prop := escapeGrowsRow.holds Try.pinned (OpenSpec.ofChange escapeGrowsWrong)

/-- 'carryalllaw02.EscapeParts': WHATEVER THE INPUT: true; the input reads as it did. -/
def escapePartsSpec : ChangeSpec := { name := "escapeParts", fn := fun _ => fun
  | [d1, d2, d3] => { results := [.lit (.bool true)], args := [d1, d2, d3] }
  | _ => none }
def escapePartsRow : OpenClaim := { program := "ytmekpmfhckodaaa", sum := "a7afa5f01a5329b08c0084cee4b22d3c71e41aabcb8ed177c2e5fdfc10d51a6d", func := "carryall/carryalllaw02.EscapeParts", spec := "escapeParts", inPlace := ["internal/bytealg.IndexByteString", "internal/abi.NoEscape"], apart := false }
def EscapePartsSaid : Prop := escapePartsRow.holds Try.pinned (OpenSpec.ofChange escapePartsSpec)

/-- ITS FALSE NEIGHBOUR: 'it returns false'. Refute it at one input. -/
def escapePartsWrong : ChangeSpec := { name := "escapeParts", fn := fun _ => fun
  | [d1, d2, d3] => { results := [.lit (.bool false)], args := [d1, d2, d3] }
  | _ => none }
def EscapePartsWrongFalsely : Prop := escapePartsRow.holds Try.pinned (OpenSpec.ofChange escapePartsWrong)

/-- 'carryalllaw02.EscapeDigits': WHATEVER THE INPUT: true; the input reads as it did. -/
def escapeDigitsSpec : ChangeSpec := { name := "escapeDigits", fn := fun _ => fun
  | [d] => { results := [.lit (.bool true)], args := [d] }
  | _ => none }
def escapeDigitsRow : OpenClaim := { program := "ytmekpmfhckodaaa", sum := "a7afa5f01a5329b08c0084cee4b22d3c71e41aabcb8ed177c2e5fdfc10d51a6d", func := "carryall/carryalllaw02.EscapeDigits", spec := "escapeDigits", inPlace := ["internal/bytealg.IndexByteString", "internal/abi.NoEscape"], apart := false }
def EscapeDigitsSaid : Prop := escapeDigitsRow.holds Try.pinned (OpenSpec.ofChange escapeDigitsSpec)

/-- ITS FALSE NEIGHBOUR: 'it returns false'. Refute it at one input. -/
def escapeDigitsWrong : ChangeSpec := { name := "escapeDigits", fn := fun _ => fun
  | [d] => { results := [.lit (.bool false)], args := [d] }
  | _ => none }
def EscapeDigitsWrongFalsely : Prop := escapeDigitsRow.holds Try.pinned (OpenSpec.ofChange escapeDigitsWrong)

/- THE SECOND FORM. 'bulk': how many values and letters a reading holds, each counted each time it is reached (what is shared counts as often as it is met; a slice's spare places count too). A statement '..UptoSaid' is the law's where the arguments, and the package variables that the reading takes, are together of bulk at most 1048576: NARROWER than '..Said'. Prove '..Said' where nothing that the law and all that it calls make is longer than what came in: it says more and counts as full. Else prove '..UptoSaid'. A law counts once. -/
mutual
def uptoBulk {H : Type} : DataW H → Nat
  | .lit (.string bytes) => bytes.length + 1
  | .lit _ => 1
  | .nil => 1
  | .ptr d => uptoBulk d + 1
  | .slice elems spare => uptoBulkAll elems + uptoBulkAll spare + 1
  | .agg parts => uptoBulkAll parts + 1
  | .iface _ d => uptoBulk d + 1
  | .map entries => uptoBulkEntries entries + 1
  | .held _ => 1
def uptoBulkAll {H : Type} : List (DataW H) → Nat
  | [] => 0
  | d :: r => uptoBulk d + uptoBulkAll r
def uptoBulkEntries {H : Type} : List (Lit × DataW H) → Nat
  | [] => 0
  | x :: r => uptoBulkEntry x + uptoBulkEntries r
def uptoBulkEntry {H : Type} : Lit × DataW H → Nat
  | (.string bytes, d) => bytes.length + uptoBulk d + 1
  | (_, d) => uptoBulk d + 1
 end
def uptoSmall : (H : Type) → List (DataW H) → Bool := fun _ ds => decide (uptoBulkAll ds ≤ 1048576)
def OpenSpec.upto (s : _root_.Go.ChangeSpec) : _root_.Go.OpenSpec := { _root_.Go.OpenSpec.ofChange s with cond := some uptoSmall }

/-- 'carryalllaw02.EscapeSets', WHERE WHAT IT READS IS OF BULK AT MOST 1048576: true; the input reads as it did. -/
def escapeSetsUptoRow : OpenClaim := { program := "ytmekpmfhckodaaa", sum := "a7afa5f01a5329b08c0084cee4b22d3c71e41aabcb8ed177c2e5fdfc10d51a6d", func := "carryall/carryalllaw02.EscapeSets", spec := "escapeSets", inPlace := ["internal/bytealg.IndexByteString", "internal/abi.NoEscape"], apart := false, narrowed := true }
def EscapeSetsUptoSaid : Prop := escapeSetsUptoRow.holds Try.pinned (OpenSpec.upto escapeSetsSpec)

/-- 'carryalllaw02.EscapeBytes', WHERE WHAT IT READS IS OF BULK AT MOST 1048576: true; the input reads as it did. -/
def escapeBytesUptoRow : OpenClaim := { program := "ytmekpmfhckodaaa", sum := "a7afa5f01a5329b08c0084cee4b22d3c71e41aabcb8ed177c2e5fdfc10d51a6d", func := "carryall/carryalllaw02.EscapeBytes", spec := "escapeBytes", inPlace := ["internal/bytealg.IndexByteString", "internal/abi.NoEscape"], apart := false, narrowed := true }
def EscapeBytesUptoSaid : Prop := escapeBytesUptoRow.holds Try.pinned (OpenSpec.upto escapeBytesSpec)

/-- 'carryalllaw02.EscapeBack', WHERE WHAT IT READS IS OF BULK AT MOST 1048576: true; the input reads as it did. -/
def escapeBackUptoRow : OpenClaim := { program := "ytmekpmfhckodaaa", sum := "a7afa5f01a5329b08c0084cee4b22d3c71e41aabcb8ed177c2e5fdfc10d51a6d", func := "carryall/carryalllaw02.EscapeBack", spec := "escapeBack", inPlace := ["internal/bytealg.IndexByteString", "internal/abi.NoEscape"], apart := false, narrowed := true }
def EscapeBackUptoSaid : Prop := escapeBackUptoRow.holds Try.pinned (OpenSpec.upto escapeBackSpec)

/-- 'carryalllaw02.EscapeGrows', WHERE WHAT IT READS IS OF BULK AT MOST 1048576: true; the input reads as it did. -/
def escapeGrowsUptoRow : OpenClaim := { program := "ytmekpmfhckodaaa", sum := "a7afa5f01a5329b08c0084cee4b22d3c71e41aabcb8ed177c2e5fdfc10d51a6d", func := "carryall/carryalllaw02.EscapeGrows", spec := "escapeGrows", inPlace := ["internal/bytealg.IndexByteString", "internal/abi.NoEscape"], apart := false, narrowed := true }
def EscapeGrowsUptoSaid : Prop := escapeGrowsUptoRow.holds Try.pinned (OpenSpec.upto escapeGrowsSpec)

/-- 'carryalllaw02.EscapeParts', WHERE WHAT IT READS IS OF BULK AT MOST 1048576: true; the input reads as it did. -/
def escapePartsUptoRow : OpenClaim := { program := "ytmekpmfhckodaaa", sum := "a7afa5f01a5329b08c0084cee4b22d3c71e41aabcb8ed177c2e5fdfc10d51a6d", func := "carryall/carryalllaw02.EscapeParts", spec := "escapeParts", inPlace := ["internal/bytealg.IndexByteString", "internal/abi.NoEscape"], apart := false, narrowed := true }
def EscapePartsUptoSaid : Prop := escapePartsUptoRow.holds Try.pinned (OpenSpec.upto escapePartsSpec)

/-- 'carryalllaw02.EscapeDigits', WHERE WHAT IT READS IS OF BULK AT MOST 1048576: true; the input reads as it did. -/
def escapeDigitsUptoRow : OpenClaim := { program := "ytmekpmfhckodaaa", sum := "a7afa5f01a5329b08c0084cee4b22d3c71e41aabcb8ed177c2e5fdfc10d51a6d", func := "carryall/carryalllaw02.EscapeDigits", spec := "escapeDigits", inPlace := ["internal/bytealg.IndexByteString", "internal/abi.NoEscape"], apart := false, narrowed := true }
def EscapeDigitsUptoSaid : Prop := escapeDigitsUptoRow.holds Try.pinned (OpenSpec.upto escapeDigitsSpec)

end Rows
end Go.Proofs.Ytmekpmfhckodaaa
