-- Written for this claim by a program of this session's (not a text of the kit's print).
import Derived.Test.YtdombgagobooiaaProg
import Derived.Below
import Derived.Deep.Draws
import Derived.Deep.AppendLies
import Derived.Maps.AppendAt
import Derived.OwnWalk
import Derived.Laws.BytesArg
import Derived.Laws.MakeOwn
import Derived.Laws.OwnMore
import Derived.Deep.OwnRows
import Derived.Tactics
import Derived.Lib.ConvBytes
import Derived.Laws.Slices
import Derived.WalkKit
import Derived.KernelRfl
import Derived.RowKit3
import Derived.Deep.LoopGhost
import Derived.Deep.QuietTactic
import Derived.BigQuiet
import Derived.WideLaws
import Derived.Deep.DeepCutAuto
import Derived.Deep.CutBlock
import Derived.Deep.RegionHeld3
import Derived.Laws.Rows
import Derived.Lib.AppendStr
import Derived.ArgAppend
import Derived.Laws.IdiomCopy
import Derived.OrdersHeld
import Derived.Laws.BitsLemmas
import Derived.RowKit
import Derived.Test.YtdombgagobooiaaGWords
import Derived.Test.YtdombgagobooiaaWWords
import Derived.Test.YtdombgagobooiaaWLast
import Derived.Test.YtdombgagobooiaaWTab
import Derived.Test.YtdombgagobooiaaWFour
import Derived.Test.YtdombgagobooiaaWQPut
import Derived.Test.YtdombgagobooiaaWApart
import Derived.Test.YtdombgagobooiaaWArr
import Derived.Test.YtdombgagobooiaaWZeros
import Derived.Test.YtdombgagobooiaaWFoot
import Derived.Test.YtdombgagobooiaaWKept
import Derived.Test.YtdombgagobooiaaWShare
import Derived.Test.YtdombgagobooiaaWN
import Derived.Test.YtdombgagobooiaaWFootNe
import Derived.Test.YtdombgagobooiaaWAt
import Derived.Test.YtdombgagobooiaaWEqStruct
import Derived.Test.YtdombgagobooiaaWRepsOne
import Derived.Test.YtdombgagobooiaaWInv
import Derived.Test.YtdombgagobooiaaWInvWords
import Derived.Test.YtdombgagobooiaaWGuard
import Derived.Test.YtdombgagobooiaaWNEv
import Derived.Test.YtdombgagobooiaaWMore
namespace Go.Proofs.Ytdombgagobooiaa.P
open Go.RowKit Go.Proofs.YtdombgagobooiaaW.PrintWords Go.Proofs.YtdombgagobooiaaW.PrintLast Go.Proofs.YtdombgagobooiaaW.PrintMore
attribute [local go_sem] max2_int min2_int max_two min_two max_three min_three max_four min_four   -- for this text's walks alone
set_option linter.unusedVariables false
set_option linter.unusedSimpArgs false



def errW : Option Int → Value
  | none => .nilIface
  | some c => .iface 0 (.int .i64 c)
theorem errW_none : errW none = .nilIface := rfl
theorem errW_some (c : Int) : errW (some c) = .iface 0 (.int .i64 c) := rfl

-- the values' own types

end Go.Proofs.Ytdombgagobooiaa.P
