/- The law PoolOne: its function answers true. -/
import Derived.Test.YtoiofemekcnlbaaDoorOne
import Derived.Test.YtoiofemekcnlbaaDoorOpen
namespace Go.Proofs.YtoiofemekcnlbaaDoor.PQ
open Go.RowKit Go.Proofs.YtoiofemekcnlbaaDoorW.PrintWords Go.Proofs.YtoiofemekcnlbaaDoorW.PrintLast Go.Proofs.YtoiofemekcnlbaaDoorW.PrintMore
set_option linter.unusedVariables false
set_option linter.unusedSimpArgs false
theorem poolOne_walk (n : Int) (a1 : Option Addr) (c1 : Nat) (z1 : List S30) (W : World) (hn : (Lit.int .i64 n).wf = true) (h : Kd.C k30 W a1 z1.length z1) (hc : z1.length ≤ c1) (hq : ∀ z ∈ z1, wf30 z) (hT : Aside0 (Tabs W)) :
    Calls Tryd.prog 3 #[.int .i64 n, .slice a1 z1.length c1] W fun e w' => e = .returned (.bool true) ∧ Below W.heap.size W w' :=
  poolOne_core n a1 c1 z1 W ⟨h⟩ hT
end Go.Proofs.YtoiofemekcnlbaaDoor.PQ
