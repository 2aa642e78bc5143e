/-
  No cell of these rows narrows 'for every input' (looked for: loops, veiled, ifaces, maps, wideKeys, modest, calm, conditions, laid).
  DERIVED. THE GIVEN ROWS OF THIS SEAT. 3 by the template 'for every input the law returns true; each argument reads behind the call as it read before'; 0 by the template 'total and deterministic' (their statements: YtdombgagobooiaaTotals.lean).
  GIVEN WITH THE SEED: the statements are not yours to turn. If you find one false, say at which input.
  Laid BY PROGRAM, IN A SANDBOX (cutbox-rows.mjs): the forced cells as the released guide's own fill.sh prints them over the translation e5f8e29f41729532… (all of the seat's roots in one cut). By AI agents, Wed Nov 11 2026. No macro, syntax, notation, axiom, sorry.
-/
import Derived.Test.YtdombgagobooiaaChecked
import GoSem.Claim
import GoSem.ClaimJoined
import GoSem.ClaimMapViews
import Derived.JoinedTies
import Derived.KernelRfl
namespace Go.Proofs.Ytdombgagobooiaa
/- THE CELL 'sum', in the pinned program and in every row, IS THE sha256 OF THE DUMP (.gsa) THAT YtdombgagobooiaaProg.lean LOADS. Nothing in Lean hashes anything: it is a label: what it is worth is what the hold of that sum in a sandbox is worth. -/
noncomputable def Try.pinned : Pinned := { name := "ytdombgagobooiaa", sum := "e5f8e29f41729532444891fe17dbe62bfcfa17c2ea81e52c4d89375d88b473f3", checked := Try.checked }
namespace Rows
def none {H : Type} : Left H := { results := [], args := [] }

/-- 'carryalllaw21.IdentNames': WHATEVER THE INPUT: true; the input reads as it did. -/
def identNamesSpec : ChangeSpec := { name := "identNames", fn := fun _ => fun
  | [d1, d2] => { results := [.lit (.bool true)], args := [d1, d2] }
  | _ => none }
def identNamesRow : OpenClaim := { program := "ytdombgagobooiaa", sum := "e5f8e29f41729532444891fe17dbe62bfcfa17c2ea81e52c4d89375d88b473f3", func := "carryall/carryalllaw21.IdentNames", spec := "identNames", apart := false }
def IdentNamesSaid : Prop := identNamesRow.holds Try.pinned (OpenSpec.ofChange identNamesSpec)

/-- ITS FALSE NEIGHBOUR: 'it returns false'. Refute it at one input. -/
def identNamesWrong : ChangeSpec := { name := "identNames", fn := fun _ => fun
  | [d1, d2] => { results := [.lit (.bool false)], args := [d1, d2] }
  | _ => none }
def IdentNamesWrongFalsely : Prop := identNamesRow.holds Try.pinned (OpenSpec.ofChange identNamesWrong)

/-- 'carryalllaw21.IdentApart': WHATEVER THE INPUT: true; the input reads as it did. -/
def identApartSpec : ChangeSpec := { name := "identApart", fn := fun _ => fun
  | [d1, d2] => { results := [.lit (.bool true)], args := [d1, d2] }
  | _ => none }
def identApartRow : OpenClaim := { program := "ytdombgagobooiaa", sum := "e5f8e29f41729532444891fe17dbe62bfcfa17c2ea81e52c4d89375d88b473f3", func := "carryall/carryalllaw21.IdentApart", spec := "identApart", apart := false }
def IdentApartSaid : Prop := identApartRow.holds Try.pinned (OpenSpec.ofChange identApartSpec)

/-- ITS FALSE NEIGHBOUR: 'it returns false'. Refute it at one input. -/
def identApartWrong : ChangeSpec := { name := "identApart", fn := fun _ => fun
  | [d1, d2] => { results := [.lit (.bool false)], args := [d1, d2] }
  | _ => none }
def IdentApartWrongFalsely : Prop := identApartRow.holds Try.pinned (OpenSpec.ofChange identApartWrong)

/-- 'carryalllaw21.IdentCase': WHATEVER THE INPUT: true; the input reads as it did. -/
def identCaseSpec : ChangeSpec := { name := "identCase", fn := fun _ => fun
  | [d1, d2, d3] => { results := [.lit (.bool true)], args := [d1, d2, d3] }
  | _ => none }
def identCaseRow : OpenClaim := { program := "ytdombgagobooiaa", sum := "e5f8e29f41729532444891fe17dbe62bfcfa17c2ea81e52c4d89375d88b473f3", func := "carryall/carryalllaw21.IdentCase", spec := "identCase", apart := false }
def IdentCaseSaid : Prop := identCaseRow.holds Try.pinned (OpenSpec.ofChange identCaseSpec)

/-- ITS FALSE NEIGHBOUR: 'it returns false'. Refute it at one input. -/
def identCaseWrong : ChangeSpec := { name := "identCase", fn := fun _ => fun
  | [d1, d2, d3] => { results := [.lit (.bool false)], args := [d1, d2, d3] }
  | _ => none }
def IdentCaseWrongFalsely : Prop := identCaseRow.holds Try.pinned (OpenSpec.ofChange identCaseWrong)

/- THE SECOND FORM. 'bulk': how many values and letters a reading holds, each counted each time it is reached (what is shared counts as often as it is met; a slice's spare places count too). A statement '..UptoSaid' is the law's where the arguments, and the package variables that the reading takes, are together of bulk at most 1048576: NARROWER than '..Said'. Prove '..Said' where nothing that the law and all that it calls make is longer than what came in: it says more and counts as full. Else prove '..UptoSaid'. A law counts once. -/
mutual
def uptoBulk {H : Type} : DataW H → Nat
  | .lit (.string bytes) => bytes.length + 1
  | .lit _ => 1
  | .nil => 1
  | .ptr d => uptoBulk d + 1
  | .slice elems spare => uptoBulkAll elems + uptoBulkAll spare + 1
  | .agg parts => uptoBulkAll parts + 1
  | .iface _ d => uptoBulk d + 1
  | .map entries => uptoBulkEntries entries + 1
  | .held _ => 1
def uptoBulkAll {H : Type} : List (DataW H) → Nat
  | [] => 0
  | d :: r => uptoBulk d + uptoBulkAll r
def uptoBulkEntries {H : Type} : List (Lit × DataW H) → Nat
  | [] => 0
  | x :: r => uptoBulkEntry x + uptoBulkEntries r
def uptoBulkEntry {H : Type} : Lit × DataW H → Nat
  | (.string bytes, d) => bytes.length + uptoBulk d + 1
  | (_, d) => uptoBulk d + 1
 end
def uptoSmall : (H : Type) → List (DataW H) → Bool := fun _ ds => decide (uptoBulkAll ds ≤ 1048576)
def OpenSpec.upto (s : _root_.Go.ChangeSpec) : _root_.Go.OpenSpec := { _root_.Go.OpenSpec.ofChange s with cond := some uptoSmall }

/-- 'carryalllaw21.IdentNames', WHERE WHAT IT READS IS OF BULK AT MOST 1048576: true; the input reads as it did. -/
def identNamesUptoRow : OpenClaim := { program := "ytdombgagobooiaa", sum := "e5f8e29f41729532444891fe17dbe62bfcfa17c2ea81e52c4d89375d88b473f3", func := "carryall/carryalllaw21.IdentNames", spec := "identNames", apart := false, narrowed := true }
def IdentNamesUptoSaid : Prop := identNamesUptoRow.holds Try.pinned (OpenSpec.upto identNamesSpec)

/-- 'carryalllaw21.IdentApart', WHERE WHAT IT READS IS OF BULK AT MOST 1048576: true; the input reads as it did. -/
def identApartUptoRow : OpenClaim := { program := "ytdombgagobooiaa", sum := "e5f8e29f41729532444891fe17dbe62bfcfa17c2ea81e52c4d89375d88b473f3", func := "carryall/carryalllaw21.IdentApart", spec := "identApart", apart := false, narrowed := true }
def IdentApartUptoSaid : Prop := identApartUptoRow.holds Try.pinned (OpenSpec.upto identApartSpec)

/-- 'carryalllaw21.IdentCase', WHERE WHAT IT READS IS OF BULK AT MOST 1048576: true; the input reads as it did. -/
def identCaseUptoRow : OpenClaim := { program := "ytdombgagobooiaa", sum := "e5f8e29f41729532444891fe17dbe62bfcfa17c2ea81e52c4d89375d88b473f3", func := "carryall/carryalllaw21.IdentCase", spec := "identCase", apart := false, narrowed := true }
def IdentCaseUptoSaid : Prop := identCaseUptoRow.holds Try.pinned (OpenSpec.upto identCaseSpec)

end Rows
end Go.Proofs.Ytdombgagobooiaa
