-- Of the print's words: those that this claim reaches (kept by a program of this session's, prunew.py; not a text of the kit's print).
import Derived.Test.YtbbdfamfmkcfhaaGreatDoorWInv
import Derived.Test.YtbbdfamfmkcfhaaGreatDoorWFootNe
namespace Go.Proofs.YtbbdfamfmkcfhaaGreatDoorW.PrintWords
open Go.RowKit
end Go.Proofs.YtbbdfamfmkcfhaaGreatDoorW.PrintWords
namespace Go.Proofs.YtbbdfamfmkcfhaaGreatDoorW.PrintLast
section
variable {ops : Array Oper} {a : Act} {o og : Oper} {g : Nat} {t : Tmp} {u : Bool}
end
end Go.Proofs.YtbbdfamfmkcfhaaGreatDoorW.PrintLast
