-- Written for this claim by a program of this session's (not a text of the kit's print).
import Derived.Test.YtpgdafckelecjaaDoorProg
import Derived.Below
import Derived.Deep.Draws
import Derived.Deep.AppendLies
import Derived.Maps.AppendAt
import Derived.OwnWalk
import Derived.Laws.BytesArg
import Derived.Laws.MakeOwn
import Derived.Laws.OwnMore
import Derived.Deep.OwnRows
import Derived.Tactics
import Derived.Lib.ConvBytes
import Derived.Laws.Slices
import Derived.WalkKit
import Derived.KernelRfl
import Derived.RowKit3
import Derived.Deep.LoopGhost
import Derived.Deep.QuietTactic
import Derived.BigQuiet
import Derived.WideLaws
import Derived.Deep.DeepCutAuto
import Derived.Deep.CutBlock
import Derived.Deep.RegionHeld3
import Derived.Laws.Rows
import Derived.Lib.AppendStr
import Derived.ArgAppend
import Derived.Laws.IdiomCopy
import Derived.OrdersHeld
import Derived.Laws.BitsLemmas
import Derived.RowKit
import Derived.Test.YtpgdafckelecjaaDoorGWords
import Derived.Test.YtpgdafckelecjaaDoorShelf
import Derived.Shelf.Strings.SlTrimAscii
import Derived.Test.YtpgdafckelecjaaDoorLower
import Derived.Test.YtpgdafckelecjaaDoorTab20
import Derived.Test.YtpgdafckelecjaaDoorWWords
import Derived.Test.YtpgdafckelecjaaDoorWLast
import Derived.Test.YtpgdafckelecjaaDoorWTab
import Derived.Test.YtpgdafckelecjaaDoorWFour
import Derived.Test.YtpgdafckelecjaaDoorWQPut
import Derived.Test.YtpgdafckelecjaaDoorWApart
import Derived.Test.YtpgdafckelecjaaDoorWArr
import Derived.Test.YtpgdafckelecjaaDoorWZeros
import Derived.Test.YtpgdafckelecjaaDoorWFoot
import Derived.Test.YtpgdafckelecjaaDoorWKept
import Derived.Test.YtpgdafckelecjaaDoorWShare
import Derived.Test.YtpgdafckelecjaaDoorWN
import Derived.Test.YtpgdafckelecjaaDoorWFootNe
import Derived.Test.YtpgdafckelecjaaDoorWAt
import Derived.Test.YtpgdafckelecjaaDoorWEqStruct
import Derived.Test.YtpgdafckelecjaaDoorWRepsOne
import Derived.Test.YtpgdafckelecjaaDoorWInv
import Derived.Test.YtpgdafckelecjaaDoorWInvWords
import Derived.Test.YtpgdafckelecjaaDoorWGuard
import Derived.Test.YtpgdafckelecjaaDoorWNEv
import Derived.Test.YtpgdafckelecjaaDoorWMore
namespace Go.Proofs.YtpgdafckelecjaaDoor.P
open Go.RowKit Go.Proofs.YtpgdafckelecjaaDoorW.PrintWords Go.Proofs.YtpgdafckelecjaaDoorW.PrintLast Go.Proofs.YtpgdafckelecjaaDoorW.PrintMore
attribute [local go_sem] max2_int min2_int max_two min_two max_three min_three max_four min_four   -- for this text's walks alone
set_option linter.unusedVariables false
set_option linter.unusedSimpArgs false



def errW : Option Int → Value
  | none => .nilIface
  | some c => .iface 0 (.int .i64 c)
theorem errW_none : errW none = .nilIface := rfl
theorem errW_some (c : Int) : errW (some c) = .iface 0 (.int .i64 c) := rfl

theorem info5 : (Tryd.prog.info? 5).map (fun i => (i.zero, i.size, i.bytes)) = some (some (.int .u8 0), 1, 1) := by kernel_rfl
-- the values' own types

end Go.Proofs.YtpgdafckelecjaaDoor.P
