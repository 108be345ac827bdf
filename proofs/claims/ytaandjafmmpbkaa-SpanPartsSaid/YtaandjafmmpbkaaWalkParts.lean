/- The law SpanParts: its function answers true. -/
import Derived.Test.YtaandjafmmpbkaaParts
import Derived.Test.YtaandjafmmpbkaaOpen
namespace Go.Proofs.Ytaandjafmmpbkaa.PQ
open Go.RowKit Go.Proofs.YtaandjafmmpbkaaW.PrintWords Go.Proofs.YtaandjafmmpbkaaW.PrintLast Go.Proofs.YtaandjafmmpbkaaW.PrintMore
set_option linter.unusedVariables false
set_option linter.unusedSimpArgs false
theorem spanParts_walk (a0 : Option Addr) (c0 : Nat) (z0 : List S29) (p0 p1 : Int) (W : World) (h : Kd.C k29 W a0 z0.length z0) (hc : z0.length ≤ c0) (hq : ∀ z ∈ z0, wf29 z) (h0 : (Lit.int .i64 p0).wf = true) (h1 : (Lit.int .i64 p1).wf = true) :
    Calls Try.prog 4 #[.slice a0 z0.length c0, .agg #[.int .i64 p0, .int .i64 p1]] W fun e w' => e = .returned (.bool true) ∧ Below W.heap.size W w' :=
  parts_core a0 c0 z0 p0 p1 W ⟨h⟩
end Go.Proofs.Ytaandjafmmpbkaa.PQ
