-- Of the print's words: those that this claim reaches (kept by a program of this session's, prunew.py; not a text of the kit's print).
import Derived.Test.YtbbdfamfmkcfhaaGreatDoorWTab
/-! ### 56. Four, five, six operations that may come up next, in any order -/
namespace Go.Proofs.YtbbdfamfmkcfhaaGreatDoorW.PrintLast
section
variable {P : Program} {ops : Array Oper} {Q : Exit → Act → World → Prop} {md : Region.Mode} {S : World → Prop} {ds : List Nat} {T : Bool × List (List Nat × List Nat)}
end
end Go.Proofs.YtbbdfamfmkcfhaaGreatDoorW.PrintLast
