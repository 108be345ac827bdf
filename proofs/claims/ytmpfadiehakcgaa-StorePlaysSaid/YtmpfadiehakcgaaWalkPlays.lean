/- The law StorePlays: its function answers true. -/
import Derived.Test.YtmpfadiehakcgaaSPlays
import Derived.Test.YtmpfadiehakcgaaOpen
namespace Go.Proofs.Ytmpfadiehakcgaa.PQ
open Go.RowKit Go.Proofs.YtmpfadiehakcgaaW.PrintWords Go.Proofs.YtmpfadiehakcgaaW.PrintLast Go.Proofs.YtmpfadiehakcgaaW.PrintMore
set_option linter.unusedVariables false
set_option linter.unusedSimpArgs false
theorem storePlays_walk (a0 a1 a2 a3 a4 a5 : Int) (b1 : Option Addr) (c1 : Nat) (z1 : List S37) (W : World) (w0 : (Lit.int .i64 a0).wf = true) (w1 : (Lit.int .i64 a1).wf = true) (w2 : (Lit.int .i64 a2).wf = true) (w3 : (Lit.int .i64 a3).wf = true) (w4 : (Lit.int .i64 a4).wf = true) (w5 : (Lit.int .i64 a5).wf = true) (h : Kd.C k37 W b1 z1.length z1) (hc : z1.length ≤ c1) (hq : ∀ z ∈ z1, wf37 z) :
    Calls Try.prog 3 #[.agg #[.int .i64 a0, .int .i64 a1, .int .i64 a2, .int .i64 a3, .int .i64 a4, .int .i64 a5], .slice b1 z1.length c1] W fun e w' => e = .returned (.bool true) ∧ Below W.heap.size W w' :=
  splays_core ⟨a0, a1, a2, a3, a4, a5⟩ b1 c1 z1 W ⟨h⟩ ⟨fun z hz => ⟨(hq z hz).2.2.1, (hq z hz).2.2.2⟩⟩
end Go.Proofs.Ytmpfadiehakcgaa.PQ
