/-
  NARROWER THAN 'FOR EVERY INPUT', by the rows' own cells (each row's printed sentence says how): BaseWrites: laid · BaseReads: laid · BaseBlanks: laid · BaseParts: laid · BaseOdd: laid.
  DERIVED. THE GIVEN ROWS OF THIS SEAT. 5 by the template 'for every input the law returns true; each argument reads behind the call as it read before'; 0 by the template 'total and deterministic' (their statements: YtbobbbpjphkooaaDoorTotals.lean).
  GIVEN WITH THE SEED: the statements are not yours to turn. If you find one false, say at which input.
  Laid BY PROGRAM, IN A SANDBOX (cutbox-rows.mjs): the forced cells as the released guide's own fill.sh prints them over the translation 9dfa1575ee11c495… (all of the seat's roots in one cut). By AI agents, Wed Nov 11 2026. No macro, syntax, notation, axiom, sorry.
-/
import Derived.Test.YtbobbbpjphkooaaDoorChecked
import GoSem.PinnedTables
import GoSem.Claim
import GoSem.ClaimJoined
import GoSem.ClaimMapViews
import Derived.JoinedTies
import Derived.KernelRfl
namespace Go.Proofs.YtbobbbpjphkooaaDoor
/- THE CELL 'sum', in the pinned program and in every row, IS THE sha256 OF THE DUMP (.gsa) THAT YtbobbbpjphkooaaDoorProg.lean LOADS. Nothing in Lean hashes anything: it is a label: what it is worth is what the hold of that sum in a sandbox is worth. -/
noncomputable def Tryd.pinned : Pinned := { name := "ytbobbbpjphkooaadoor", sum := "9dfa1575ee11c4950f1789bd6511a4ae3bdf77a917f81da9d99957dd060db6be", checked := Tryd.checked }
namespace Rows
def none {H : Type} : Left H := { results := [], args := [] }

/- WHAT THE LISTED PACKAGE-LEVEL VARIABLES READ AS WHEN THE CALL BEGINS. Each datum BY PROGRAM (the guide's laid-datum.mjs) off the statement by which the dump's own 'gosem.cut.vars' lays the variable. In a bare row this is a premise. The card (YtbobbbpjphkooaaDoorCards.lean) ties it to the program's text. -/
def laid_unicode_utf8_acceptRanges {H : Type} : DataW H := .agg [.agg [.lit (.int .u8 128), .lit (.int .u8 191)], .agg [.lit (.int .u8 160), .lit (.int .u8 191)], .agg [.lit (.int .u8 128), .lit (.int .u8 159)], .agg [.lit (.int .u8 144), .lit (.int .u8 191)], .agg [.lit (.int .u8 128), .lit (.int .u8 143)], .agg [.lit (.int .u8 0), .lit (.int .u8 0)], .agg [.lit (.int .u8 0), .lit (.int .u8 0)], .agg [.lit (.int .u8 0), .lit (.int .u8 0)], .agg [.lit (.int .u8 0), .lit (.int .u8 0)], .agg [.lit (.int .u8 0), .lit (.int .u8 0)], .agg [.lit (.int .u8 0), .lit (.int .u8 0)], .agg [.lit (.int .u8 0), .lit (.int .u8 0)], .agg [.lit (.int .u8 0), .lit (.int .u8 0)], .agg [.lit (.int .u8 0), .lit (.int .u8 0)], .agg [.lit (.int .u8 0), .lit (.int .u8 0)], .agg [.lit (.int .u8 0), .lit (.int .u8 0)]]
/-- One of Go's own tables, pinned by name: the form's constant. -/
def laid_unicode_utf8_first : DataW Unit := Go.Pinned.utf8First

/-- 'carryalllaw03.BaseWrites': WHATEVER THE INPUT: true; the input reads as it did. -/
def baseWritesSpec : ChangeSpec := { name := "baseWrites", fn := fun _ => fun
  | [d] => { results := [.lit (.bool true)], args := [d] }
  | _ => none }
def baseWritesRow : OpenClaim := { program := "ytbobbbpjphkooaadoor", sum := "9dfa1575ee11c4950f1789bd6511a4ae3bdf77a917f81da9d99957dd060db6be", func := "carryall/carryalllaw03.BaseWrites", spec := "baseWrites", inPlace := ["internal/abi.NoEscape", "internal/bytealg.MakeNoZero", "internal/bytealg.IndexByteString", "internal/bytealg.IndexString"], unfollowed := true, recurses := true, named := ["unicode/utf8.first", "unicode/utf8.acceptRanges", "internal/bytealg.MaxLen"], apart := false, laid := [("unicode/utf8.acceptRanges", laid_unicode_utf8_acceptRanges), ("unicode/utf8.first", laid_unicode_utf8_first)] }
def BaseWritesSaid : Prop := baseWritesRow.holds Tryd.pinned (OpenSpec.ofChange baseWritesSpec)

/-- ITS FALSE NEIGHBOUR: 'it returns false'. Refute it at one input. -/
def baseWritesWrong : ChangeSpec := { name := "baseWrites", fn := fun _ => fun
  | [d] => { results := [.lit (.bool false)], args := [d] }
  | _ => none }
def BaseWritesWrongFalsely : Prop := baseWritesRow.holds Tryd.pinned (OpenSpec.ofChange baseWritesWrong)

/-- 'carryalllaw03.BaseReads': WHATEVER THE INPUT: true; the input reads as it did. -/
def baseReadsSpec : ChangeSpec := { name := "baseReads", fn := fun _ => fun
  | [d] => { results := [.lit (.bool true)], args := [d] }
  | _ => none }
def baseReadsRow : OpenClaim := { program := "ytbobbbpjphkooaadoor", sum := "9dfa1575ee11c4950f1789bd6511a4ae3bdf77a917f81da9d99957dd060db6be", func := "carryall/carryalllaw03.BaseReads", spec := "baseReads", inPlace := ["internal/abi.NoEscape", "internal/bytealg.MakeNoZero", "internal/bytealg.IndexByteString", "internal/bytealg.IndexString"], unfollowed := true, recurses := true, named := ["unicode/utf8.first", "unicode/utf8.acceptRanges", "internal/bytealg.MaxLen"], apart := false, laid := [("unicode/utf8.acceptRanges", laid_unicode_utf8_acceptRanges), ("unicode/utf8.first", laid_unicode_utf8_first)] }
def BaseReadsSaid : Prop := baseReadsRow.holds Tryd.pinned (OpenSpec.ofChange baseReadsSpec)

/-- ITS FALSE NEIGHBOUR: 'it returns false'. Refute it at one input. -/
def baseReadsWrong : ChangeSpec := { name := "baseReads", fn := fun _ => fun
  | [d] => { results := [.lit (.bool false)], args := [d] }
  | _ => none }
def BaseReadsWrongFalsely : Prop := baseReadsRow.holds Tryd.pinned (OpenSpec.ofChange baseReadsWrong)

/-- 'carryalllaw03.BaseBlanks': WHATEVER THE INPUT: true; the input reads as it did. -/
def baseBlanksSpec : ChangeSpec := { name := "baseBlanks", fn := fun _ => fun
  | [d1, d2, d3] => { results := [.lit (.bool true)], args := [d1, d2, d3] }
  | _ => none }
def baseBlanksRow : OpenClaim := { program := "ytbobbbpjphkooaadoor", sum := "9dfa1575ee11c4950f1789bd6511a4ae3bdf77a917f81da9d99957dd060db6be", func := "carryall/carryalllaw03.BaseBlanks", spec := "baseBlanks", inPlace := ["internal/abi.NoEscape", "internal/bytealg.MakeNoZero", "internal/bytealg.IndexByteString", "internal/bytealg.IndexString"], unfollowed := true, recurses := true, named := ["unicode/utf8.first", "unicode/utf8.acceptRanges", "internal/bytealg.MaxLen"], apart := false, laid := [("unicode/utf8.acceptRanges", laid_unicode_utf8_acceptRanges), ("unicode/utf8.first", laid_unicode_utf8_first)] }
def BaseBlanksSaid : Prop := baseBlanksRow.holds Tryd.pinned (OpenSpec.ofChange baseBlanksSpec)

/-- ITS FALSE NEIGHBOUR: 'it returns false'. Refute it at one input. -/
def baseBlanksWrong : ChangeSpec := { name := "baseBlanks", fn := fun _ => fun
  | [d1, d2, d3] => { results := [.lit (.bool false)], args := [d1, d2, d3] }
  | _ => none }
def BaseBlanksWrongFalsely : Prop := baseBlanksRow.holds Tryd.pinned (OpenSpec.ofChange baseBlanksWrong)

/-- 'carryalllaw03.BaseParts': WHATEVER THE INPUT: true; the input reads as it did. -/
def basePartsSpec : ChangeSpec := { name := "baseParts", fn := fun _ => fun
  | [d1, d2] => { results := [.lit (.bool true)], args := [d1, d2] }
  | _ => none }
def basePartsRow : OpenClaim := { program := "ytbobbbpjphkooaadoor", sum := "9dfa1575ee11c4950f1789bd6511a4ae3bdf77a917f81da9d99957dd060db6be", func := "carryall/carryalllaw03.BaseParts", spec := "baseParts", inPlace := ["internal/abi.NoEscape", "internal/bytealg.MakeNoZero", "internal/bytealg.IndexByteString", "internal/bytealg.IndexString"], unfollowed := true, recurses := true, named := ["unicode/utf8.first", "unicode/utf8.acceptRanges", "internal/bytealg.MaxLen"], apart := false, laid := [("unicode/utf8.acceptRanges", laid_unicode_utf8_acceptRanges), ("unicode/utf8.first", laid_unicode_utf8_first)] }
def BasePartsSaid : Prop := basePartsRow.holds Tryd.pinned (OpenSpec.ofChange basePartsSpec)

/-- ITS FALSE NEIGHBOUR: 'it returns false'. Refute it at one input. -/
def basePartsWrong : ChangeSpec := { name := "baseParts", fn := fun _ => fun
  | [d1, d2] => { results := [.lit (.bool false)], args := [d1, d2] }
  | _ => none }
def BasePartsWrongFalsely : Prop := basePartsRow.holds Tryd.pinned (OpenSpec.ofChange basePartsWrong)

/-- 'carryalllaw03.BaseOdd': WHATEVER THE INPUT: true; the input reads as it did. -/
def baseOddSpec : ChangeSpec := { name := "baseOdd", fn := fun _ => fun
  | [d1, d2, d3] => { results := [.lit (.bool true)], args := [d1, d2, d3] }
  | _ => none }
def baseOddRow : OpenClaim := { program := "ytbobbbpjphkooaadoor", sum := "9dfa1575ee11c4950f1789bd6511a4ae3bdf77a917f81da9d99957dd060db6be", func := "carryall/carryalllaw03.BaseOdd", spec := "baseOdd", inPlace := ["internal/abi.NoEscape", "internal/bytealg.MakeNoZero", "internal/bytealg.IndexByteString", "internal/bytealg.IndexString"], unfollowed := true, recurses := true, named := ["unicode/utf8.first", "unicode/utf8.acceptRanges", "internal/bytealg.MaxLen"], apart := false, laid := [("unicode/utf8.acceptRanges", laid_unicode_utf8_acceptRanges), ("unicode/utf8.first", laid_unicode_utf8_first)] }
def BaseOddSaid : Prop := baseOddRow.holds Tryd.pinned (OpenSpec.ofChange baseOddSpec)

/-- ITS FALSE NEIGHBOUR: 'it returns false'. Refute it at one input. -/
def baseOddWrong : ChangeSpec := { name := "baseOdd", fn := fun _ => fun
  | [d1, d2, d3] => { results := [.lit (.bool false)], args := [d1, d2, d3] }
  | _ => none }
def BaseOddWrongFalsely : Prop := baseOddRow.holds Tryd.pinned (OpenSpec.ofChange baseOddWrong)

/- THE SECOND FORM. 'bulk': how many values and letters a reading holds, each counted each time it is reached (what is shared counts as often as it is met; a slice's spare places count too). A statement '..UptoSaid' is the law's where the arguments, and the package variables that the reading takes, are together of bulk at most 1048576: NARROWER than '..Said'. Prove '..Said' where nothing that the law and all that it calls make is longer than what came in: it says more and counts as full. Else prove '..UptoSaid'. A law counts once. -/
mutual
def uptoBulk {H : Type} : DataW H → Nat
  | .lit (.string bytes) => bytes.length + 1
  | .lit _ => 1
  | .nil => 1
  | .ptr d => uptoBulk d + 1
  | .slice elems spare => uptoBulkAll elems + uptoBulkAll spare + 1
  | .agg parts => uptoBulkAll parts + 1
  | .iface _ d => uptoBulk d + 1
  | .map entries => uptoBulkEntries entries + 1
  | .held _ => 1
def uptoBulkAll {H : Type} : List (DataW H) → Nat
  | [] => 0
  | d :: r => uptoBulk d + uptoBulkAll r
def uptoBulkEntries {H : Type} : List (Lit × DataW H) → Nat
  | [] => 0
  | x :: r => uptoBulkEntry x + uptoBulkEntries r
def uptoBulkEntry {H : Type} : Lit × DataW H → Nat
  | (.string bytes, d) => bytes.length + uptoBulk d + 1
  | (_, d) => uptoBulk d + 1
 end
def uptoSmall : (H : Type) → List (DataW H) → Bool := fun _ ds => decide (uptoBulkAll ds ≤ 1048576)
def OpenSpec.upto (s : _root_.Go.ChangeSpec) : _root_.Go.OpenSpec := { _root_.Go.OpenSpec.ofChange s with cond := some uptoSmall }

/-- 'carryalllaw03.BaseWrites', WHERE WHAT IT READS IS OF BULK AT MOST 1048576: true; the input reads as it did. -/
def baseWritesUptoRow : OpenClaim := { program := "ytbobbbpjphkooaadoor", sum := "9dfa1575ee11c4950f1789bd6511a4ae3bdf77a917f81da9d99957dd060db6be", func := "carryall/carryalllaw03.BaseWrites", spec := "baseWrites", inPlace := ["internal/abi.NoEscape", "internal/bytealg.MakeNoZero", "internal/bytealg.IndexByteString", "internal/bytealg.IndexString"], unfollowed := true, recurses := true, named := ["unicode/utf8.first", "unicode/utf8.acceptRanges", "internal/bytealg.MaxLen"], apart := false, laid := [("unicode/utf8.acceptRanges", laid_unicode_utf8_acceptRanges), ("unicode/utf8.first", laid_unicode_utf8_first)], narrowed := true }
def BaseWritesUptoSaid : Prop := baseWritesUptoRow.holds Tryd.pinned (OpenSpec.upto baseWritesSpec)

/-- 'carryalllaw03.BaseReads', WHERE WHAT IT READS IS OF BULK AT MOST 1048576: true; the input reads as it did. -/
def baseReadsUptoRow : OpenClaim := { program := "ytbobbbpjphkooaadoor", sum := "9dfa1575ee11c4950f1789bd6511a4ae3bdf77a917f81da9d99957dd060db6be", func := "carryall/carryalllaw03.BaseReads", spec := "baseReads", inPlace := ["internal/abi.NoEscape", "internal/bytealg.MakeNoZero", "internal/bytealg.IndexByteString", "internal/bytealg.IndexString"], unfollowed := true, recurses := true, named := ["unicode/utf8.first", "unicode/utf8.acceptRanges", "internal/bytealg.MaxLen"], apart := false, laid := [("unicode/utf8.acceptRanges", laid_unicode_utf8_acceptRanges), ("unicode/utf8.first", laid_unicode_utf8_first)], narrowed := true }
def BaseReadsUptoSaid : Prop := baseReadsUptoRow.holds Tryd.pinned (OpenSpec.upto baseReadsSpec)

/-- 'carryalllaw03.BaseBlanks', WHERE WHAT IT READS IS OF BULK AT MOST 1048576: true; the input reads as it did. -/
def baseBlanksUptoRow : OpenClaim := { program := "ytbobbbpjphkooaadoor", sum := "9dfa1575ee11c4950f1789bd6511a4ae3bdf77a917f81da9d99957dd060db6be", func := "carryall/carryalllaw03.BaseBlanks", spec := "baseBlanks", inPlace := ["internal/abi.NoEscape", "internal/bytealg.MakeNoZero", "internal/bytealg.IndexByteString", "internal/bytealg.IndexString"], unfollowed := true, recurses := true, named := ["unicode/utf8.first", "unicode/utf8.acceptRanges", "internal/bytealg.MaxLen"], apart := false, laid := [("unicode/utf8.acceptRanges", laid_unicode_utf8_acceptRanges), ("unicode/utf8.first", laid_unicode_utf8_first)], narrowed := true }
def BaseBlanksUptoSaid : Prop := baseBlanksUptoRow.holds Tryd.pinned (OpenSpec.upto baseBlanksSpec)

/-- 'carryalllaw03.BaseParts', WHERE WHAT IT READS IS OF BULK AT MOST 1048576: true; the input reads as it did. -/
def basePartsUptoRow : OpenClaim := { program := "ytbobbbpjphkooaadoor", sum := "9dfa1575ee11c4950f1789bd6511a4ae3bdf77a917f81da9d99957dd060db6be", func := "carryall/carryalllaw03.BaseParts", spec := "baseParts", inPlace := ["internal/abi.NoEscape", "internal/bytealg.MakeNoZero", "internal/bytealg.IndexByteString", "internal/bytealg.IndexString"], unfollowed := true, recurses := true, named := ["unicode/utf8.first", "unicode/utf8.acceptRanges", "internal/bytealg.MaxLen"], apart := false, laid := [("unicode/utf8.acceptRanges", laid_unicode_utf8_acceptRanges), ("unicode/utf8.first", laid_unicode_utf8_first)], narrowed := true }
def BasePartsUptoSaid : Prop := basePartsUptoRow.holds Tryd.pinned (OpenSpec.upto basePartsSpec)

/-- 'carryalllaw03.BaseOdd', WHERE WHAT IT READS IS OF BULK AT MOST 1048576: true; the input reads as it did. -/
def baseOddUptoRow : OpenClaim := { program := "ytbobbbpjphkooaadoor", sum := "9dfa1575ee11c4950f1789bd6511a4ae3bdf77a917f81da9d99957dd060db6be", func := "carryall/carryalllaw03.BaseOdd", spec := "baseOdd", inPlace := ["internal/abi.NoEscape", "internal/bytealg.MakeNoZero", "internal/bytealg.IndexByteString", "internal/bytealg.IndexString"], unfollowed := true, recurses := true, named := ["unicode/utf8.first", "unicode/utf8.acceptRanges", "internal/bytealg.MaxLen"], apart := false, laid := [("unicode/utf8.acceptRanges", laid_unicode_utf8_acceptRanges), ("unicode/utf8.first", laid_unicode_utf8_first)], narrowed := true }
def BaseOddUptoSaid : Prop := baseOddUptoRow.holds Tryd.pinned (OpenSpec.upto baseOddSpec)

end Rows
end Go.Proofs.YtbobbbpjphkooaaDoor
