/- What some of the Go functions of this law compute, each as a Lean function with a proof that the machine does just that; no condition beyond those stated. Written by a program of this session. -/
import Derived.Test.YtfddegniphmhiaaDoorProg
import Derived.Below
import Derived.Deep.Draws
import Derived.Deep.AppendLies
import Derived.Maps.AppendAt
import Derived.OwnWalk
import Derived.Laws.BytesArg
import Derived.Laws.MakeOwn
import Derived.Laws.OwnMore
import Derived.Deep.OwnRows
import Derived.Tactics
import Derived.Lib.ConvBytes
import Derived.Laws.Slices
import Derived.WalkKit
import Derived.KernelRfl
import Derived.RowKit3
import Derived.Deep.LoopGhost
import Derived.Deep.QuietTactic
import Derived.BigQuiet
import Derived.WideLaws
import Derived.Deep.DeepCutAuto
import Derived.Deep.CutBlock
import Derived.Deep.RegionHeld3
import Derived.Laws.Rows
import Derived.Lib.AppendStr
import Derived.ArgAppend
import Derived.Laws.IdiomCopy
import Derived.OrdersHeld
import Derived.Laws.BitsLemmas
import Derived.RowKit
import Derived.Test.YtfddegniphmhiaaDoorWWords
import Derived.Test.YtfddegniphmhiaaDoorWLast
import Derived.Test.YtfddegniphmhiaaDoorWTab
import Derived.Test.YtfddegniphmhiaaDoorWFour
import Derived.Test.YtfddegniphmhiaaDoorWQPut
import Derived.Test.YtfddegniphmhiaaDoorWApart
import Derived.Test.YtfddegniphmhiaaDoorWArr
import Derived.Test.YtfddegniphmhiaaDoorWZeros
import Derived.Test.YtfddegniphmhiaaDoorWFoot
import Derived.Test.YtfddegniphmhiaaDoorWKept
import Derived.Test.YtfddegniphmhiaaDoorWShare
import Derived.Test.YtfddegniphmhiaaDoorWN
import Derived.Test.YtfddegniphmhiaaDoorWFootNe
import Derived.Test.YtfddegniphmhiaaDoorWAt
import Derived.Test.YtfddegniphmhiaaDoorWEqStruct
import Derived.Test.YtfddegniphmhiaaDoorWRepsOne
import Derived.Test.YtfddegniphmhiaaDoorWInv
import Derived.Test.YtfddegniphmhiaaDoorWInvWords
import Derived.Test.YtfddegniphmhiaaDoorWGuard
import Derived.Test.YtfddegniphmhiaaDoorWNEv
import Derived.Test.YtfddegniphmhiaaDoorWMore
namespace Go.Proofs.YtfddegniphmhiaaDoor.PQ
open Go.RowKit Go.Proofs.YtfddegniphmhiaaDoorW.PrintWords Go.Proofs.YtfddegniphmhiaaDoorW.PrintLast Go.Proofs.YtfddegniphmhiaaDoorW.PrintMore
attribute [local go_sem] max2_int min2_int max_two min_two max_three min_three max_four min_four   -- for this text's walks alone
set_option linter.unusedVariables false
set_option linter.unusedSimpArgs false



def errW : Option Int → Value
  | none => .nilIface
  | some c => .iface 0 (.int .i64 c)
theorem errW_none : errW none = .nilIface := rfl
theorem errW_some (c : Int) : errW (some c) = .iface 0 (.int .i64 c) := rfl

theorem info5 : (Tryd.prog.info? 5).map (fun i => (i.zero, i.size, i.bytes)) = some (some (.int .u8 0), 1, 1) := by kernel_rfl
-- the values' own types

end Go.Proofs.YtfddegniphmhiaaDoor.PQ
