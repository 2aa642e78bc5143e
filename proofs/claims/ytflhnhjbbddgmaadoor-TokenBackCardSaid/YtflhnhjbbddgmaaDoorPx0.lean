-- Written for this claim by a program of this session's (not a text of the kit's print).
import Derived.Test.YtflhnhjbbddgmaaDoorProg
import Derived.Below
import Derived.Deep.Draws
import Derived.Deep.AppendLies
import Derived.Maps.AppendAt
import Derived.OwnWalk
import Derived.Laws.BytesArg
import Derived.Laws.MakeOwn
import Derived.Laws.OwnMore
import Derived.Deep.OwnRows
import Derived.Tactics
import Derived.Lib.ConvBytes
import Derived.Laws.Slices
import Derived.WalkKit
import Derived.KernelRfl
import Derived.RowKit3
import Derived.Deep.LoopGhost
import Derived.Deep.QuietTactic
import Derived.BigQuiet
import Derived.WideLaws
import Derived.Deep.DeepCutAuto
import Derived.Deep.CutBlock
import Derived.Deep.RegionHeld3
import Derived.Laws.Rows
import Derived.Lib.AppendStr
import Derived.ArgAppend
import Derived.Laws.IdiomCopy
import Derived.OrdersHeld
import Derived.Laws.BitsLemmas
import Derived.RowKit
import Derived.Test.YtflhnhjbbddgmaaDoorGWords
import Derived.Test.YtflhnhjbbddgmaaDoorShelf
import Derived.Shelf.Strings.SlTrimAscii
import Derived.Test.YtflhnhjbbddgmaaDoorQte
import Derived.Test.YtflhnhjbbddgmaaDoorWWords
import Derived.Test.YtflhnhjbbddgmaaDoorWLast
import Derived.Test.YtflhnhjbbddgmaaDoorWTab
import Derived.Test.YtflhnhjbbddgmaaDoorWFour
import Derived.Test.YtflhnhjbbddgmaaDoorWQPut
import Derived.Test.YtflhnhjbbddgmaaDoorWApart
import Derived.Test.YtflhnhjbbddgmaaDoorWArr
import Derived.Test.YtflhnhjbbddgmaaDoorWZeros
import Derived.Test.YtflhnhjbbddgmaaDoorWFoot
import Derived.Test.YtflhnhjbbddgmaaDoorWKept
import Derived.Test.YtflhnhjbbddgmaaDoorWShare
import Derived.Test.YtflhnhjbbddgmaaDoorWN
import Derived.Test.YtflhnhjbbddgmaaDoorWFootNe
import Derived.Test.YtflhnhjbbddgmaaDoorWAt
import Derived.Test.YtflhnhjbbddgmaaDoorWEqStruct
import Derived.Test.YtflhnhjbbddgmaaDoorWRepsOne
import Derived.Test.YtflhnhjbbddgmaaDoorWInv
import Derived.Test.YtflhnhjbbddgmaaDoorWInvWords
import Derived.Test.YtflhnhjbbddgmaaDoorWGuard
import Derived.Test.YtflhnhjbbddgmaaDoorWNEv
import Derived.Test.YtflhnhjbbddgmaaDoorWMore
namespace Go.Proofs.YtflhnhjbbddgmaaDoor.P
open Go.RowKit Go.Proofs.YtflhnhjbbddgmaaDoorW.PrintWords Go.Proofs.YtflhnhjbbddgmaaDoorW.PrintLast Go.Proofs.YtflhnhjbbddgmaaDoorW.PrintMore
attribute [local go_sem] max2_int min2_int max_two min_two max_three min_three max_four min_four   -- for this text's walks alone
set_option linter.unusedVariables false
set_option linter.unusedSimpArgs false



def errW : Option Int → Value
  | none => .nilIface
  | some c => .iface 0 (.int .i64 c)
theorem errW_none : errW none = .nilIface := rfl
theorem errW_some (c : Int) : errW (some c) = .iface 0 (.int .i64 c) := rfl

theorem info5 : (Tryd.prog.info? 5).map (fun i => (i.zero, i.size, i.bytes)) = some (some (.int .u8 0), 1, 1) := by kernel_rfl
-- the values' own types

end Go.Proofs.YtflhnhjbbddgmaaDoor.P
