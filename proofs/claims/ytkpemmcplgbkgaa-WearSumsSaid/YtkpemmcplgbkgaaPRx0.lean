/- What some of the Go functions of this law compute, each as a Lean function with a proof that the machine does just that; no condition beyond those stated. Written by a program of this session. -/
import Derived.Test.YtkpemmcplgbkgaaProg
import Derived.Below
import Derived.Deep.Draws
import Derived.Deep.AppendLies
import Derived.Maps.AppendAt
import Derived.OwnWalk
import Derived.Laws.BytesArg
import Derived.Laws.MakeOwn
import Derived.Laws.OwnMore
import Derived.Deep.OwnRows
import Derived.Tactics
import Derived.Lib.ConvBytes
import Derived.Laws.Slices
import Derived.WalkKit
import Derived.KernelRfl
import Derived.RowKit3
import Derived.Deep.LoopGhost
import Derived.Deep.QuietTactic
import Derived.BigQuiet
import Derived.WideLaws
import Derived.Deep.DeepCutAuto
import Derived.Deep.CutBlock
import Derived.Deep.RegionHeld3
import Derived.Laws.Rows
import Derived.Lib.AppendStr
import Derived.ArgAppend
import Derived.Laws.IdiomCopy
import Derived.OrdersHeld
import Derived.Laws.BitsLemmas
import Derived.RowKit
import Derived.Test.YtkpemmcplgbkgaaWWords
import Derived.Test.YtkpemmcplgbkgaaWLast
import Derived.Test.YtkpemmcplgbkgaaWTab
import Derived.Test.YtkpemmcplgbkgaaWFour
import Derived.Test.YtkpemmcplgbkgaaWQPut
import Derived.Test.YtkpemmcplgbkgaaWApart
import Derived.Test.YtkpemmcplgbkgaaWArr
import Derived.Test.YtkpemmcplgbkgaaWZeros
import Derived.Test.YtkpemmcplgbkgaaWFoot
import Derived.Test.YtkpemmcplgbkgaaWKept
import Derived.Test.YtkpemmcplgbkgaaWShare
import Derived.Test.YtkpemmcplgbkgaaWN
import Derived.Test.YtkpemmcplgbkgaaWFootNe
import Derived.Test.YtkpemmcplgbkgaaWAt
import Derived.Test.YtkpemmcplgbkgaaWEqStruct
import Derived.Test.YtkpemmcplgbkgaaWRepsOne
import Derived.Test.YtkpemmcplgbkgaaWInv
import Derived.Test.YtkpemmcplgbkgaaWInvWords
import Derived.Test.YtkpemmcplgbkgaaWGuard
import Derived.Test.YtkpemmcplgbkgaaWNEv
import Derived.Test.YtkpemmcplgbkgaaWMore
namespace Go.Proofs.Ytkpemmcplgbkgaa.PR
open Go.RowKit Go.Proofs.YtkpemmcplgbkgaaW.PrintWords Go.Proofs.YtkpemmcplgbkgaaW.PrintLast Go.Proofs.YtkpemmcplgbkgaaW.PrintMore
attribute [local go_sem] max2_int min2_int max_two min_two max_three min_three max_four min_four   -- for this text's walks alone
set_option linter.unusedVariables false
set_option linter.unusedSimpArgs false



def errW : Option Int → Value
  | none => .nilIface
  | some c => .iface 0 (.int .i64 c)
theorem errW_none : errW none = .nilIface := rfl
theorem errW_some (c : Int) : errW (some c) = .iface 0 (.int .i64 c) := rfl

-- the values' own types

end Go.Proofs.Ytkpemmcplgbkgaa.PR
