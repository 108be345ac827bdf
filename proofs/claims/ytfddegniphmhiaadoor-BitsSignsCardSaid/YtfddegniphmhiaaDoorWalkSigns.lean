/- The bits law Signs: its function answers true; the table lies as laid. -/
import Derived.ProofKit
import Derived.Test.YtfddegniphmhiaaDoorSigns
import Derived.Test.YtfddegniphmhiaaDoorWalkPuts
namespace Go.Proofs.YtfddegniphmhiaaDoor.Pure
open Go.RowKit Go.Proofs.YtfddegniphmhiaaDoorW.PrintWords PQ
set_option linter.unusedVariables false
set_option linter.unusedSimpArgs false
theorem bitsSigns_walk (v x n : Int) (w : World) (h : (Lit.int .u64 v).wf = true) {P P2 : Prop} (_ : P) (_ : P2) (hT : Aside0 (Tabs w)) :
    Calls Tryd.prog 3 #[.int .u64 v, .int .i64 x, .int .i64 n] w fun e w' => e = .returned (.bool true) ∧ Below w.heap.size w w' :=
  decklelaw01_BitsSigns.calls 300 v x n true w hT (bitsSigns_pure v x n (u64_bounds h).1 (u64_bounds h).2)
end Go.Proofs.YtfddegniphmhiaaDoor.Pure
