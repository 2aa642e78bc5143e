/-
  No cell of these rows narrows 'for every input' (looked for: loops, veiled, ifaces, maps, wideKeys, modest, calm, conditions, laid).
  DERIVED. THE GIVEN ROWS OF THIS SEAT. 4 by the template 'for every input the law returns true; each argument reads behind the call as it read before'; 0 by the template 'total and deterministic' (their statements: YtaaicaddoboepaaTotals.lean).
  GIVEN WITH THE SEED: the statements are not yours to turn. If you find one false, say at which input.
  Laid BY PROGRAM, IN A SANDBOX (cutbox-rows.mjs): the forced cells as the released guide's own fill.sh prints them over the translation 3dc89afaa9730df3… (all of the seat's roots in one cut). By AI agents, Wed Nov 11 2026. No macro, syntax, notation, axiom, sorry.
-/
import Derived.Test.YtaaicaddoboepaaChecked
import GoSem.Claim
import GoSem.ClaimJoined
import GoSem.ClaimMapViews
import Derived.JoinedTies
import Derived.KernelRfl
namespace Go.Proofs.Ytaaicaddoboepaa
/- THE CELL 'sum', in the pinned program and in every row, IS THE sha256 OF THE DUMP (.gsa) THAT YtaaicaddoboepaaProg.lean LOADS. Nothing in Lean hashes anything: it is a label: what it is worth is what the hold of that sum in a sandbox is worth. -/
noncomputable def Try.pinned : Pinned := { name := "ytaaicaddoboepaa", sum := "3dc89afaa9730df3737df367133342cb9be024ad0e6a4e1f158ed8fdd78ba763", checked := Try.checked }
namespace Rows
def none {H : Type} : Left H := { results := [], args := [] }

/-- 'carryalllaw23.MailPlays': WHATEVER THE INPUT: true; the input reads as it did. -/
def mailPlaysSpec : ChangeSpec := { name := "mailPlays", fn := fun _ => fun
  | [d1, d2, d3] => { results := [.lit (.bool true)], args := [d1, d2, d3] }
  | _ => none }
def mailPlaysRow : OpenClaim := { program := "ytaaicaddoboepaa", sum := "3dc89afaa9730df3737df367133342cb9be024ad0e6a4e1f158ed8fdd78ba763", func := "carryall/carryalllaw23.MailPlays", spec := "mailPlays", apart := false }
def MailPlaysSaid : Prop := mailPlaysRow.holds Try.pinned (OpenSpec.ofChange mailPlaysSpec)

/-- ITS FALSE NEIGHBOUR: 'it returns false'. Refute it at one input. -/
def mailPlaysWrong : ChangeSpec := { name := "mailPlays", fn := fun _ => fun
  | [d1, d2, d3] => { results := [.lit (.bool false)], args := [d1, d2, d3] }
  | _ => none }
def MailPlaysWrongFalsely : Prop := mailPlaysRow.holds Try.pinned (OpenSpec.ofChange mailPlaysWrong)

/-- 'carryalllaw23.MailSorts': WHATEVER THE INPUT: true; the input reads as it did. -/
def mailSortsSpec : ChangeSpec := { name := "mailSorts", fn := fun _ => fun
  | [d1, d2] => { results := [.lit (.bool true)], args := [d1, d2] }
  | _ => none }
def mailSortsRow : OpenClaim := { program := "ytaaicaddoboepaa", sum := "3dc89afaa9730df3737df367133342cb9be024ad0e6a4e1f158ed8fdd78ba763", func := "carryall/carryalllaw23.MailSorts", spec := "mailSorts", apart := false }
def MailSortsSaid : Prop := mailSortsRow.holds Try.pinned (OpenSpec.ofChange mailSortsSpec)

/-- ITS FALSE NEIGHBOUR: 'it returns false'. Refute it at one input. -/
def mailSortsWrong : ChangeSpec := { name := "mailSorts", fn := fun _ => fun
  | [d1, d2] => { results := [.lit (.bool false)], args := [d1, d2] }
  | _ => none }
def MailSortsWrongFalsely : Prop := mailSortsRow.holds Try.pinned (OpenSpec.ofChange mailSortsWrong)

/-- 'carryalllaw23.MailRoom': WHATEVER THE INPUT: true; the input reads as it did. -/
def mailRoomSpec : ChangeSpec := { name := "mailRoom", fn := fun _ => fun
  | [d1, d2] => { results := [.lit (.bool true)], args := [d1, d2] }
  | _ => none }
def mailRoomRow : OpenClaim := { program := "ytaaicaddoboepaa", sum := "3dc89afaa9730df3737df367133342cb9be024ad0e6a4e1f158ed8fdd78ba763", func := "carryall/carryalllaw23.MailRoom", spec := "mailRoom", apart := false }
def MailRoomSaid : Prop := mailRoomRow.holds Try.pinned (OpenSpec.ofChange mailRoomSpec)

/-- ITS FALSE NEIGHBOUR: 'it returns false'. Refute it at one input. -/
def mailRoomWrong : ChangeSpec := { name := "mailRoom", fn := fun _ => fun
  | [d1, d2] => { results := [.lit (.bool false)], args := [d1, d2] }
  | _ => none }
def MailRoomWrongFalsely : Prop := mailRoomRow.holds Try.pinned (OpenSpec.ofChange mailRoomWrong)

/-- 'carryalllaw23.MailNil': WHATEVER THE INPUT: true; the input reads as it did. -/
def mailNilSpec : ChangeSpec := { name := "mailNil", fn := fun _ => fun
  | [d1, d2] => { results := [.lit (.bool true)], args := [d1, d2] }
  | _ => none }
def mailNilRow : OpenClaim := { program := "ytaaicaddoboepaa", sum := "3dc89afaa9730df3737df367133342cb9be024ad0e6a4e1f158ed8fdd78ba763", func := "carryall/carryalllaw23.MailNil", spec := "mailNil", apart := false }
def MailNilSaid : Prop := mailNilRow.holds Try.pinned (OpenSpec.ofChange mailNilSpec)

/-- ITS FALSE NEIGHBOUR: 'it returns false'. Refute it at one input. -/
def mailNilWrong : ChangeSpec := { name := "mailNil", fn := fun _ => fun
  | [d1, d2] => { results := [.lit (.bool false)], args := [d1, d2] }
  | _ => none }
def MailNilWrongFalsely : Prop := mailNilRow.holds Try.pinned (OpenSpec.ofChange mailNilWrong)

/- THE SECOND FORM. 'bulk': how many values and letters a reading holds, each counted each time it is reached (what is shared counts as often as it is met; a slice's spare places count too). A statement '..UptoSaid' is the law's where the arguments, and the package variables that the reading takes, are together of bulk at most 1048576: NARROWER than '..Said'. Prove '..Said' where nothing that the law and all that it calls make is longer than what came in: it says more and counts as full. Else prove '..UptoSaid'. A law counts once. -/
mutual
def uptoBulk {H : Type} : DataW H → Nat
  | .lit (.string bytes) => bytes.length + 1
  | .lit _ => 1
  | .nil => 1
  | .ptr d => uptoBulk d + 1
  | .slice elems spare => uptoBulkAll elems + uptoBulkAll spare + 1
  | .agg parts => uptoBulkAll parts + 1
  | .iface _ d => uptoBulk d + 1
  | .map entries => uptoBulkEntries entries + 1
  | .held _ => 1
def uptoBulkAll {H : Type} : List (DataW H) → Nat
  | [] => 0
  | d :: r => uptoBulk d + uptoBulkAll r
def uptoBulkEntries {H : Type} : List (Lit × DataW H) → Nat
  | [] => 0
  | x :: r => uptoBulkEntry x + uptoBulkEntries r
def uptoBulkEntry {H : Type} : Lit × DataW H → Nat
  | (.string bytes, d) => bytes.length + uptoBulk d + 1
  | (_, d) => uptoBulk d + 1
 end
def uptoSmall : (H : Type) → List (DataW H) → Bool := fun _ ds => decide (uptoBulkAll ds ≤ 1048576)
def OpenSpec.upto (s : _root_.Go.ChangeSpec) : _root_.Go.OpenSpec := { _root_.Go.OpenSpec.ofChange s with cond := some uptoSmall }

/-- 'carryalllaw23.MailPlays', WHERE WHAT IT READS IS OF BULK AT MOST 1048576: true; the input reads as it did. -/
def mailPlaysUptoRow : OpenClaim := { program := "ytaaicaddoboepaa", sum := "3dc89afaa9730df3737df367133342cb9be024ad0e6a4e1f158ed8fdd78ba763", func := "carryall/carryalllaw23.MailPlays", spec := "mailPlays", apart := false, narrowed := true }
def MailPlaysUptoSaid : Prop := mailPlaysUptoRow.holds Try.pinned (OpenSpec.upto mailPlaysSpec)

/-- 'carryalllaw23.MailSorts', WHERE WHAT IT READS IS OF BULK AT MOST 1048576: true; the input reads as it did. -/
def mailSortsUptoRow : OpenClaim := { program := "ytaaicaddoboepaa", sum := "3dc89afaa9730df3737df367133342cb9be024ad0e6a4e1f158ed8fdd78ba763", func := "carryall/carryalllaw23.MailSorts", spec := "mailSorts", apart := false, narrowed := true }
def MailSortsUptoSaid : Prop := mailSortsUptoRow.holds Try.pinned (OpenSpec.upto mailSortsSpec)

/-- 'carryalllaw23.MailRoom', WHERE WHAT IT READS IS OF BULK AT MOST 1048576: true; the input reads as it did. -/
def mailRoomUptoRow : OpenClaim := { program := "ytaaicaddoboepaa", sum := "3dc89afaa9730df3737df367133342cb9be024ad0e6a4e1f158ed8fdd78ba763", func := "carryall/carryalllaw23.MailRoom", spec := "mailRoom", apart := false, narrowed := true }
def MailRoomUptoSaid : Prop := mailRoomUptoRow.holds Try.pinned (OpenSpec.upto mailRoomSpec)

/-- 'carryalllaw23.MailNil', WHERE WHAT IT READS IS OF BULK AT MOST 1048576: true; the input reads as it did. -/
def mailNilUptoRow : OpenClaim := { program := "ytaaicaddoboepaa", sum := "3dc89afaa9730df3737df367133342cb9be024ad0e6a4e1f158ed8fdd78ba763", func := "carryall/carryalllaw23.MailNil", spec := "mailNil", apart := false, narrowed := true }
def MailNilUptoSaid : Prop := mailNilUptoRow.holds Try.pinned (OpenSpec.upto mailNilSpec)

end Rows
end Go.Proofs.Ytaaicaddoboepaa
