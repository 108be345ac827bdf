/- The law LruLast: its function answers true. -/
import Derived.Test.YtilephiplfigpaaLast
import Derived.Test.YtilephiplfigpaaOpen
namespace Go.Proofs.Ytilephiplfigpaa.PQ
open Go.RowKit Go.Proofs.YtilephiplfigpaaW.PrintWords Go.Proofs.YtilephiplfigpaaW.PrintLast Go.Proofs.YtilephiplfigpaaW.PrintMore
set_option linter.unusedVariables false
set_option linter.unusedSimpArgs false
theorem lruLast_walk (a0 : Int) (a1 : Option Addr) (c1 : Nat) (z1 : List S30) (W : World) (w0 : (Lit.int .i64 a0).wf = true) (h : Kd.C k30 W a1 z1.length z1) (hc : z1.length ≤ c1) (hq : ∀ z ∈ z1, wf30 z) :
    Calls Try.prog 3 #[.int .i64 a0, .slice a1 z1.length c1] W fun e w' => e = .returned (.bool true) ∧ Below W.heap.size W w' :=
  last_core a0 a1 c1 z1 W ⟨h⟩ hc
end Go.Proofs.Ytilephiplfigpaa.PQ
