-- Of the print's words: those that this claim reaches (kept by a program of this session's, prunew.py; not a text of the kit's print).
import Derived.Test.YtbbdfamfmkcfhaaGreatDoorWN
/-! ### 52. A row that stays read whatever happens to a block (a set of blocks) doesn't lie there -/
namespace Go.Proofs.YtbbdfamfmkcfhaaGreatDoorW.PrintWords
open Go.RowKit
namespace Kd
section
variable {α : Type} {d : Kd α} {W : World} {g n : Nat} {S ok : Nat → Prop} {A : Option Addr} {ad : Addr} {xs : List α}
end
end Kd
end Go.Proofs.YtbbdfamfmkcfhaaGreatDoorW.PrintWords
