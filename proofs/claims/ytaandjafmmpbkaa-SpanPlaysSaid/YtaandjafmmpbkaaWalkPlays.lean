/- The law SpanPlays: its function answers true. -/
import Derived.Test.YtaandjafmmpbkaaPlays
import Derived.Test.YtaandjafmmpbkaaOpen
namespace Go.Proofs.Ytaandjafmmpbkaa.PQ
open Go.RowKit Go.Proofs.YtaandjafmmpbkaaW.PrintWords Go.Proofs.YtaandjafmmpbkaaW.PrintLast Go.Proofs.YtaandjafmmpbkaaW.PrintMore
set_option linter.unusedVariables false
set_option linter.unusedSimpArgs false
theorem spanPlays_walk (a0 : Option Addr) (c0 : Nat) (z0 : List S29) (W : World) (h : Kd.C k29 W a0 z0.length z0) (hc : z0.length ≤ c0) (hq : ∀ z ∈ z0, wf29 z) :
    Calls Try.prog 5 #[.slice a0 z0.length c0] W fun e w' => e = .returned (.bool true) ∧ Below W.heap.size W w' :=
  plays_core a0 c0 z0 W ⟨h⟩
end Go.Proofs.Ytaandjafmmpbkaa.PQ
