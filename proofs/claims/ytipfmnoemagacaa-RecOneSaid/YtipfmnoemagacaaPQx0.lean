/- What some of the Go functions of this law compute, each as a Lean function with a proof that the machine does just that; no condition beyond those stated. Written by a program of this session. -/
import Derived.Test.YtipfmnoemagacaaProg
import Derived.Below
import Derived.Deep.Draws
import Derived.Deep.AppendLies
import Derived.Maps.AppendAt
import Derived.OwnWalk
import Derived.Laws.BytesArg
import Derived.Laws.MakeOwn
import Derived.Laws.OwnMore
import Derived.Deep.OwnRows
import Derived.Tactics
import Derived.Lib.ConvBytes
import Derived.Laws.Slices
import Derived.WalkKit
import Derived.KernelRfl
import Derived.RowKit3
import Derived.Deep.LoopGhost
import Derived.Deep.QuietTactic
import Derived.BigQuiet
import Derived.WideLaws
import Derived.Deep.DeepCutAuto
import Derived.Deep.CutBlock
import Derived.Deep.RegionHeld3
import Derived.Laws.Rows
import Derived.Lib.AppendStr
import Derived.ArgAppend
import Derived.Laws.IdiomCopy
import Derived.OrdersHeld
import Derived.Laws.BitsLemmas
import Derived.RowKit
import Derived.Test.YtipfmnoemagacaaWWords
import Derived.Test.YtipfmnoemagacaaWLast
import Derived.Test.YtipfmnoemagacaaWTab
import Derived.Test.YtipfmnoemagacaaWFour
import Derived.Test.YtipfmnoemagacaaWQPut
import Derived.Test.YtipfmnoemagacaaWApart
import Derived.Test.YtipfmnoemagacaaWArr
import Derived.Test.YtipfmnoemagacaaWZeros
import Derived.Test.YtipfmnoemagacaaWFoot
import Derived.Test.YtipfmnoemagacaaWKept
import Derived.Test.YtipfmnoemagacaaWShare
import Derived.Test.YtipfmnoemagacaaWN
import Derived.Test.YtipfmnoemagacaaWFootNe
import Derived.Test.YtipfmnoemagacaaWAt
import Derived.Test.YtipfmnoemagacaaWEqStruct
import Derived.Test.YtipfmnoemagacaaWRepsOne
import Derived.Test.YtipfmnoemagacaaWInv
import Derived.Test.YtipfmnoemagacaaWInvWords
import Derived.Test.YtipfmnoemagacaaWGuard
import Derived.Test.YtipfmnoemagacaaWNEv
import Derived.Test.YtipfmnoemagacaaWMore
namespace Go.Proofs.Ytipfmnoemagacaa.PQ
open Go.RowKit Go.Proofs.YtipfmnoemagacaaW.PrintWords Go.Proofs.YtipfmnoemagacaaW.PrintLast Go.Proofs.YtipfmnoemagacaaW.PrintMore
attribute [local go_sem] max2_int min2_int max_two min_two max_three min_three max_four min_four   -- for this text's walks alone
set_option linter.unusedVariables false
set_option linter.unusedSimpArgs false



def errW : Option Int → Value
  | none => .nilIface
  | some c => .iface 0 (.int .i64 c)
theorem errW_none : errW none = .nilIface := rfl
theorem errW_some (c : Int) : errW (some c) = .iface 0 (.int .i64 c) := rfl

theorem info5 : (Try.prog.info? 5).map (fun i => (i.zero, i.size, i.bytes)) = some (some (.int .u8 0), 1, 1) := by kernel_rfl
-- the values' own types

end Go.Proofs.Ytipfmnoemagacaa.PQ
