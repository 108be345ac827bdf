/- What some of the Go functions of this law compute, each as a Lean function with a proof that the machine does just that; no condition beyond those stated. Written by a program of this session. -/
import Derived.Test.YtogohafdkpibdaaDoorProg
import Derived.Below
import Derived.Deep.Draws
import Derived.Deep.AppendLies
import Derived.Maps.AppendAt
import Derived.OwnWalk
import Derived.Laws.BytesArg
import Derived.Laws.MakeOwn
import Derived.Laws.OwnMore
import Derived.Deep.OwnRows
import Derived.Tactics
import Derived.Lib.ConvBytes
import Derived.Laws.Slices
import Derived.WalkKit
import Derived.KernelRfl
import Derived.RowKit3
import Derived.Deep.LoopGhost
import Derived.Deep.QuietTactic
import Derived.BigQuiet
import Derived.WideLaws
import Derived.Deep.DeepCutAuto
import Derived.Deep.CutBlock
import Derived.Deep.RegionHeld3
import Derived.Laws.Rows
import Derived.Lib.AppendStr
import Derived.ArgAppend
import Derived.Laws.IdiomCopy
import Derived.OrdersHeld
import Derived.Laws.BitsLemmas
import Derived.RowKit
import Derived.Test.YtogohafdkpibdaaDoorWWords
import Derived.Test.YtogohafdkpibdaaDoorWLast
import Derived.Test.YtogohafdkpibdaaDoorWTab
import Derived.Test.YtogohafdkpibdaaDoorWFour
import Derived.Test.YtogohafdkpibdaaDoorWQPut
import Derived.Test.YtogohafdkpibdaaDoorWApart
import Derived.Test.YtogohafdkpibdaaDoorWArr
import Derived.Test.YtogohafdkpibdaaDoorWZeros
import Derived.Test.YtogohafdkpibdaaDoorWFoot
import Derived.Test.YtogohafdkpibdaaDoorWKept
import Derived.Test.YtogohafdkpibdaaDoorWShare
import Derived.Test.YtogohafdkpibdaaDoorWN
import Derived.Test.YtogohafdkpibdaaDoorWFootNe
import Derived.Test.YtogohafdkpibdaaDoorWAt
import Derived.Test.YtogohafdkpibdaaDoorWEqStruct
import Derived.Test.YtogohafdkpibdaaDoorWRepsOne
import Derived.Test.YtogohafdkpibdaaDoorWInv
import Derived.Test.YtogohafdkpibdaaDoorWInvWords
import Derived.Test.YtogohafdkpibdaaDoorWGuard
import Derived.Test.YtogohafdkpibdaaDoorWNEv
import Derived.Test.YtogohafdkpibdaaDoorWMore
namespace Go.Proofs.YtogohafdkpibdaaDoor.PQ
open Go.RowKit Go.Proofs.YtogohafdkpibdaaDoorW.PrintWords Go.Proofs.YtogohafdkpibdaaDoorW.PrintLast Go.Proofs.YtogohafdkpibdaaDoorW.PrintMore
attribute [local go_sem] max2_int min2_int max_two min_two max_three min_three max_four min_four   -- for this text's walks alone
set_option linter.unusedVariables false
set_option linter.unusedSimpArgs false



def errW : Option Int → Value
  | none => .nilIface
  | some c => .iface 0 (.int .i64 c)
theorem errW_none : errW none = .nilIface := rfl
theorem errW_some (c : Int) : errW (some c) = .iface 0 (.int .i64 c) := rfl

theorem info3 : (Tryd.prog.info? 3).map (fun i => (i.zero, i.size, i.bytes)) = some (some (.int .i64 0), 1, 8) := by kernel_rfl
theorem info4 : (Tryd.prog.info? 4).map (fun i => (i.zero, i.size, i.bytes)) = some (some (.bool false), 1, 1) := by kernel_rfl
theorem info5 : (Tryd.prog.info? 5).map (fun i => (i.zero, i.size, i.bytes)) = some (some (.int .u8 0), 1, 1) := by kernel_rfl
-- the values' own types

end Go.Proofs.YtogohafdkpibdaaDoor.PQ
