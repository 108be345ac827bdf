/- What some of the Go functions of this law compute, each as a Lean function with a proof that the machine does just that; no condition beyond those stated. Written by a program of this session. -/
import Derived.Test.YtalnbmpfgmpkbaaDoorProg
import Derived.Below
import Derived.Deep.Draws
import Derived.Deep.AppendLies
import Derived.Maps.AppendAt
import Derived.OwnWalk
import Derived.Laws.BytesArg
import Derived.Laws.MakeOwn
import Derived.Laws.OwnMore
import Derived.Deep.OwnRows
import Derived.Tactics
import Derived.Lib.ConvBytes
import Derived.Laws.Slices
import Derived.WalkKit
import Derived.KernelRfl
import Derived.RowKit3
import Derived.Deep.LoopGhost
import Derived.Deep.QuietTactic
import Derived.BigQuiet
import Derived.WideLaws
import Derived.Deep.DeepCutAuto
import Derived.Deep.CutBlock
import Derived.Deep.RegionHeld3
import Derived.Laws.Rows
import Derived.Lib.AppendStr
import Derived.ArgAppend
import Derived.Laws.IdiomCopy
import Derived.OrdersHeld
import Derived.Laws.BitsLemmas
import Derived.RowKit
import Derived.Test.YtalnbmpfgmpkbaaDoorWWords
import Derived.Test.YtalnbmpfgmpkbaaDoorWLast
import Derived.Test.YtalnbmpfgmpkbaaDoorWTab
import Derived.Test.YtalnbmpfgmpkbaaDoorWFour
import Derived.Test.YtalnbmpfgmpkbaaDoorWQPut
import Derived.Test.YtalnbmpfgmpkbaaDoorWApart
import Derived.Test.YtalnbmpfgmpkbaaDoorWArr
import Derived.Test.YtalnbmpfgmpkbaaDoorWZeros
import Derived.Test.YtalnbmpfgmpkbaaDoorWFoot
import Derived.Test.YtalnbmpfgmpkbaaDoorWKept
import Derived.Test.YtalnbmpfgmpkbaaDoorWShare
import Derived.Test.YtalnbmpfgmpkbaaDoorWN
import Derived.Test.YtalnbmpfgmpkbaaDoorWFootNe
import Derived.Test.YtalnbmpfgmpkbaaDoorWAt
import Derived.Test.YtalnbmpfgmpkbaaDoorWEqStruct
import Derived.Test.YtalnbmpfgmpkbaaDoorWRepsOne
import Derived.Test.YtalnbmpfgmpkbaaDoorWInv
import Derived.Test.YtalnbmpfgmpkbaaDoorWInvWords
import Derived.Test.YtalnbmpfgmpkbaaDoorWGuard
import Derived.Test.YtalnbmpfgmpkbaaDoorWNEv
import Derived.Test.YtalnbmpfgmpkbaaDoorWMore
namespace Go.Proofs.YtalnbmpfgmpkbaaDoor.PQ
open Go.RowKit Go.Proofs.YtalnbmpfgmpkbaaDoorW.PrintWords Go.Proofs.YtalnbmpfgmpkbaaDoorW.PrintLast Go.Proofs.YtalnbmpfgmpkbaaDoorW.PrintMore
attribute [local go_sem] max2_int min2_int max_two min_two max_three min_three max_four min_four   -- for this text's walks alone
set_option linter.unusedVariables false
set_option linter.unusedSimpArgs false



def errW : Option Int → Value
  | none => .nilIface
  | some c => .iface 0 (.int .i64 c)
theorem errW_none : errW none = .nilIface := rfl
theorem errW_some (c : Int) : errW (some c) = .iface 0 (.int .i64 c) := rfl

theorem info3 : (Tryd.prog.info? 3).map (fun i => (i.zero, i.size, i.bytes)) = some (some (.int .i64 0), 1, 8) := by kernel_rfl
theorem info5 : (Tryd.prog.info? 5).map (fun i => (i.zero, i.size, i.bytes)) = some (some (.int .u8 0), 1, 1) := by kernel_rfl
-- the values' own types

end Go.Proofs.YtalnbmpfgmpkbaaDoor.PQ
