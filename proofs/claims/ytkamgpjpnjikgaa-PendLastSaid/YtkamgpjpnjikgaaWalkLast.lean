/- The law PendLast: its function answers true. -/
import Derived.Test.YtkamgpjpnjikgaaLast
import Derived.Test.YtkamgpjpnjikgaaOpen
namespace Go.Proofs.Ytkamgpjpnjikgaa.PQ
open Go.RowKit Go.Proofs.YtkamgpjpnjikgaaW.PrintWords Go.Proofs.YtkamgpjpnjikgaaW.PrintLast Go.Proofs.YtkamgpjpnjikgaaW.PrintMore
set_option linter.unusedVariables false
set_option linter.unusedSimpArgs false
theorem pendLast_walk (a0 : Option Addr) (c0 : Nat) (z0 : List S27) (W : World) (h : Kd.C k27 W a0 z0.length z0) (hc : z0.length ≤ c0) (hq : ∀ z ∈ z0, wf27 z) :
    Calls Try.prog 4 #[.slice a0 z0.length c0] W fun e w' => e = .returned (.bool true) ∧ Below W.heap.size W w' :=
  last_core a0 c0 z0 W hc ⟨h⟩ ⟨fun z hz => (hq z hz).2.1⟩
end Go.Proofs.Ytkamgpjpnjikgaa.PQ
