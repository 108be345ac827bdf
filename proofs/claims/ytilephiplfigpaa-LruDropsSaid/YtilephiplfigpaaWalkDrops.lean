/- The law LruDrops: its function answers true. -/
import Derived.Test.YtilephiplfigpaaDrops
import Derived.Test.YtilephiplfigpaaOpen
namespace Go.Proofs.Ytilephiplfigpaa.PQ
open Go.RowKit Go.Proofs.YtilephiplfigpaaW.PrintWords Go.Proofs.YtilephiplfigpaaW.PrintLast Go.Proofs.YtilephiplfigpaaW.PrintMore
set_option linter.unusedVariables false
set_option linter.unusedSimpArgs false
theorem lruDrops_walk (a0 : Option Addr) (c0 : Nat) (z0 : List S30) (a1 : Int) (W : World) (h : Kd.C k30 W a0 z0.length z0) (hc : z0.length ≤ c0) (hq : ∀ z ∈ z0, wf30 z) (w1 : (Lit.int .i64 a1).wf = true) :
    Calls Try.prog 4 #[.slice a0 z0.length c0, .int .i64 a1] W fun e w' => e = .returned (.bool true) ∧ Below W.heap.size W w' :=
  drops_core a0 c0 z0 a1 W ⟨h⟩
end Go.Proofs.Ytilephiplfigpaa.PQ
