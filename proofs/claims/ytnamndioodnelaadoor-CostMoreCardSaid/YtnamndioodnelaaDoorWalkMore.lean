/- The law CostMore: its function answers true. -/
import Derived.Test.YtnamndioodnelaaDoorMore
namespace Go.Proofs.YtnamndioodnelaaDoor.PQ
open Go.RowKit Go.Proofs.YtnamndioodnelaaDoorW.PrintWords Go.Proofs.YtnamndioodnelaaDoorW.PrintLast Go.Proofs.YtnamndioodnelaaDoorW.PrintMore
set_option linter.unusedVariables false
set_option linter.unusedSimpArgs false
theorem costMore_walk (g0 g1 g2 g3 g4 g5 p t : Int) (W : World) (h0 : (Lit.int .i64 g0).wf = true) (h1 : (Lit.int .i64 g1).wf = true) (h2 : (Lit.int .i64 g2).wf = true) (h3 : (Lit.int .i64 g3).wf = true) (h4 : (Lit.int .i64 g4).wf = true) (h5 : (Lit.int .i64 g5).wf = true) (hp : (Lit.int .i64 p).wf = true) (ht : (Lit.int .i64 t).wf = true) (hT : Aside0 (Tabs W)) :
    Calls Tryd.prog 5 #[.agg #[.int .i64 g0, .int .i64 g1, .int .i64 g2, .int .i64 g3, .int .i64 g4, .int .i64 g5], .int .i64 p, .int .i64 t] W fun e w' => e = .returned (.bool true) ∧ Below W.heap.size W w' :=
  costMore_calls g0 g1 g2 g3 g4 g5 p t W hT.out
end Go.Proofs.YtnamndioodnelaaDoor.PQ
