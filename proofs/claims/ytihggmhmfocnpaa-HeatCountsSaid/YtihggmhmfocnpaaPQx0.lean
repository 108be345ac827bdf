/- What some of the Go functions of this law compute, each as a Lean function with a proof that the machine does just that; no condition beyond those stated. Written by a program of this session. -/
import Derived.Test.YtihggmhmfocnpaaProg
import Derived.Below
import Derived.Deep.Draws
import Derived.Deep.AppendLies
import Derived.Maps.AppendAt
import Derived.OwnWalk
import Derived.Laws.BytesArg
import Derived.Laws.MakeOwn
import Derived.Laws.OwnMore
import Derived.Deep.OwnRows
import Derived.Tactics
import Derived.Lib.ConvBytes
import Derived.Laws.Slices
import Derived.WalkKit
import Derived.KernelRfl
import Derived.RowKit3
import Derived.Deep.LoopGhost
import Derived.Deep.QuietTactic
import Derived.BigQuiet
import Derived.WideLaws
import Derived.Deep.DeepCutAuto
import Derived.Deep.CutBlock
import Derived.Deep.RegionHeld3
import Derived.Laws.Rows
import Derived.Lib.AppendStr
import Derived.ArgAppend
import Derived.Laws.IdiomCopy
import Derived.OrdersHeld
import Derived.Laws.BitsLemmas
import Derived.RowKit
import Derived.Test.YtihggmhmfocnpaaWWords
import Derived.Test.YtihggmhmfocnpaaWLast
import Derived.Test.YtihggmhmfocnpaaWTab
import Derived.Test.YtihggmhmfocnpaaWFour
import Derived.Test.YtihggmhmfocnpaaWQPut
import Derived.Test.YtihggmhmfocnpaaWApart
import Derived.Test.YtihggmhmfocnpaaWArr
import Derived.Test.YtihggmhmfocnpaaWZeros
import Derived.Test.YtihggmhmfocnpaaWFoot
import Derived.Test.YtihggmhmfocnpaaWKept
import Derived.Test.YtihggmhmfocnpaaWShare
import Derived.Test.YtihggmhmfocnpaaWN
import Derived.Test.YtihggmhmfocnpaaWFootNe
import Derived.Test.YtihggmhmfocnpaaWAt
import Derived.Test.YtihggmhmfocnpaaWEqStruct
import Derived.Test.YtihggmhmfocnpaaWRepsOne
import Derived.Test.YtihggmhmfocnpaaWInv
import Derived.Test.YtihggmhmfocnpaaWInvWords
import Derived.Test.YtihggmhmfocnpaaWGuard
import Derived.Test.YtihggmhmfocnpaaWNEv
import Derived.Test.YtihggmhmfocnpaaWMore
namespace Go.Proofs.Ytihggmhmfocnpaa.PQ
open Go.RowKit Go.Proofs.YtihggmhmfocnpaaW.PrintWords Go.Proofs.YtihggmhmfocnpaaW.PrintLast Go.Proofs.YtihggmhmfocnpaaW.PrintMore
attribute [local go_sem] max2_int min2_int max_two min_two max_three min_three max_four min_four   -- for this text's walks alone
set_option linter.unusedVariables false
set_option linter.unusedSimpArgs false



def errW : Option Int → Value
  | none => .nilIface
  | some c => .iface 0 (.int .i64 c)
theorem errW_none : errW none = .nilIface := rfl
theorem errW_some (c : Int) : errW (some c) = .iface 0 (.int .i64 c) := rfl

theorem info3 : (Try.prog.info? 3).map (fun i => (i.zero, i.size, i.bytes)) = some (some (.int .i64 0), 1, 8) := by kernel_rfl
-- the values' own types

end Go.Proofs.Ytihggmhmfocnpaa.PQ
