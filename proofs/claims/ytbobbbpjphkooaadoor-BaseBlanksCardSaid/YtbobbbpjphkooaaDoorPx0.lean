-- Written for this claim by a program of this session's (not a text of the kit's print).
import Derived.Test.YtbobbbpjphkooaaDoorProg
import Derived.Below
import Derived.Deep.Draws
import Derived.Deep.AppendLies
import Derived.Maps.AppendAt
import Derived.OwnWalk
import Derived.Laws.BytesArg
import Derived.Laws.MakeOwn
import Derived.Laws.OwnMore
import Derived.Deep.OwnRows
import Derived.Tactics
import Derived.Lib.ConvBytes
import Derived.Laws.Slices
import Derived.WalkKit
import Derived.KernelRfl
import Derived.RowKit3
import Derived.Deep.LoopGhost
import Derived.Deep.QuietTactic
import Derived.BigQuiet
import Derived.WideLaws
import Derived.Deep.DeepCutAuto
import Derived.Deep.CutBlock
import Derived.Deep.RegionHeld3
import Derived.Laws.Rows
import Derived.Lib.AppendStr
import Derived.ArgAppend
import Derived.Laws.IdiomCopy
import Derived.OrdersHeld
import Derived.Laws.BitsLemmas
import Derived.RowKit
import Derived.Test.YtbobbbpjphkooaaDoorGWords
import Derived.Test.YtbobbbpjphkooaaDoorShelf
import Derived.Test.YtbobbbpjphkooaaDoorTab03
import Derived.Test.YtbobbbpjphkooaaDoorSqz
import Derived.Test.YtbobbbpjphkooaaDoorEnc
import Derived.Test.YtbobbbpjphkooaaDoorAwk03
import Derived.Test.YtbobbbpjphkooaaDoorWWords
import Derived.Test.YtbobbbpjphkooaaDoorWLast
import Derived.Test.YtbobbbpjphkooaaDoorWTab
import Derived.Test.YtbobbbpjphkooaaDoorWFour
import Derived.Test.YtbobbbpjphkooaaDoorWQPut
import Derived.Test.YtbobbbpjphkooaaDoorWApart
import Derived.Test.YtbobbbpjphkooaaDoorWArr
import Derived.Test.YtbobbbpjphkooaaDoorWZeros
import Derived.Test.YtbobbbpjphkooaaDoorWFoot
import Derived.Test.YtbobbbpjphkooaaDoorWKept
import Derived.Test.YtbobbbpjphkooaaDoorWShare
import Derived.Test.YtbobbbpjphkooaaDoorWN
import Derived.Test.YtbobbbpjphkooaaDoorWFootNe
import Derived.Test.YtbobbbpjphkooaaDoorWAt
import Derived.Test.YtbobbbpjphkooaaDoorWEqStruct
import Derived.Test.YtbobbbpjphkooaaDoorWRepsOne
import Derived.Test.YtbobbbpjphkooaaDoorWInv
import Derived.Test.YtbobbbpjphkooaaDoorWInvWords
import Derived.Test.YtbobbbpjphkooaaDoorWGuard
import Derived.Test.YtbobbbpjphkooaaDoorWNEv
import Derived.Test.YtbobbbpjphkooaaDoorWMore
namespace Go.Proofs.YtbobbbpjphkooaaDoor.P
open Go.RowKit Go.Proofs.YtbobbbpjphkooaaDoorW.PrintWords Go.Proofs.YtbobbbpjphkooaaDoorW.PrintLast Go.Proofs.YtbobbbpjphkooaaDoorW.PrintMore
attribute [local go_sem] max2_int min2_int max_two min_two max_three min_three max_four min_four   -- for this text's walks alone
set_option linter.unusedVariables false
set_option linter.unusedSimpArgs false



def errW : Option Int → Value
  | none => .nilIface
  | some c => .iface 0 (.int .i64 c)
theorem errW_none : errW none = .nilIface := rfl
theorem errW_some (c : Int) : errW (some c) = .iface 0 (.int .i64 c) := rfl

theorem info5 : (Tryd.prog.info? 5).map (fun i => (i.zero, i.size, i.bytes)) = some (some (.int .u8 0), 1, 1) := by kernel_rfl
theorem info9 : (Tryd.prog.info? 9).map (fun i => (i.zero, i.size, i.bytes)) = some (some (.string ⟨#[]⟩), 1, 16) := by kernel_rfl
-- the values' own types

end Go.Proofs.YtbobbbpjphkooaaDoor.P
