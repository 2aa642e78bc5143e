-- Of the print's words: those that this claim reaches (kept by a program of this session's, prunew.py; not a text of the kit's print).
import Derived.Test.YtbbdfamfmkcfhaaGreatDoorWWords
import Derived.Laws.StructEq
/-! ### 53. '==' of structs as_ one Bool -/
namespace Go.Proofs.YtbbdfamfmkcfhaaGreatDoorW.PrintWords
open Go.RowKit
section
variable {P : Program} {d : Nat} {xs ys : Array Value} {f : Field} {fs : List Field} {a b : Value} {r s : Bool} {w : World}
end
end Go.Proofs.YtbbdfamfmkcfhaaGreatDoorW.PrintWords
