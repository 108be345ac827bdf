/- What some of the Go functions of this law compute, each as a Lean function with a proof that the machine does just that; no condition beyond those stated. Written by a program of this session. -/
import Derived.Test.YtpghddanjlbcaaaProg
import Derived.Below
import Derived.Deep.Draws
import Derived.Deep.AppendLies
import Derived.Maps.AppendAt
import Derived.OwnWalk
import Derived.Laws.BytesArg
import Derived.Laws.MakeOwn
import Derived.Laws.OwnMore
import Derived.Deep.OwnRows
import Derived.Tactics
import Derived.Lib.ConvBytes
import Derived.Laws.Slices
import Derived.WalkKit
import Derived.KernelRfl
import Derived.RowKit3
import Derived.Deep.LoopGhost
import Derived.Deep.QuietTactic
import Derived.BigQuiet
import Derived.WideLaws
import Derived.Deep.DeepCutAuto
import Derived.Deep.CutBlock
import Derived.Deep.RegionHeld3
import Derived.Laws.Rows
import Derived.Lib.AppendStr
import Derived.ArgAppend
import Derived.Laws.IdiomCopy
import Derived.OrdersHeld
import Derived.Laws.BitsLemmas
import Derived.RowKit
import Derived.Test.YtpghddanjlbcaaaWWords
import Derived.Test.YtpghddanjlbcaaaWLast
import Derived.Test.YtpghddanjlbcaaaWTab
import Derived.Test.YtpghddanjlbcaaaWFour
import Derived.Test.YtpghddanjlbcaaaWQPut
import Derived.Test.YtpghddanjlbcaaaWApart
import Derived.Test.YtpghddanjlbcaaaWArr
import Derived.Test.YtpghddanjlbcaaaWZeros
import Derived.Test.YtpghddanjlbcaaaWFoot
import Derived.Test.YtpghddanjlbcaaaWKept
import Derived.Test.YtpghddanjlbcaaaWShare
import Derived.Test.YtpghddanjlbcaaaWN
import Derived.Test.YtpghddanjlbcaaaWFootNe
import Derived.Test.YtpghddanjlbcaaaWAt
import Derived.Test.YtpghddanjlbcaaaWEqStruct
import Derived.Test.YtpghddanjlbcaaaWRepsOne
import Derived.Test.YtpghddanjlbcaaaWInv
import Derived.Test.YtpghddanjlbcaaaWInvWords
import Derived.Test.YtpghddanjlbcaaaWGuard
import Derived.Test.YtpghddanjlbcaaaWNEv
import Derived.Test.YtpghddanjlbcaaaWMore
namespace Go.Proofs.Ytpghddanjlbcaaa.PR
open Go.RowKit Go.Proofs.YtpghddanjlbcaaaW.PrintWords Go.Proofs.YtpghddanjlbcaaaW.PrintLast Go.Proofs.YtpghddanjlbcaaaW.PrintMore
attribute [local go_sem] max2_int min2_int max_two min_two max_three min_three max_four min_four   -- for this text's walks alone
set_option linter.unusedVariables false
set_option linter.unusedSimpArgs false



def errW : Option Int → Value
  | none => .nilIface
  | some c => .iface 0 (.int .i64 c)
theorem errW_none : errW none = .nilIface := rfl
theorem errW_some (c : Int) : errW (some c) = .iface 0 (.int .i64 c) := rfl

-- the values' own types

end Go.Proofs.Ytpghddanjlbcaaa.PR
