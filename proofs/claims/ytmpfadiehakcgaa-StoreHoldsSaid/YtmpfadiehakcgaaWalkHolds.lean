/- The law StoreHolds: its function answers true. -/
import Derived.Test.YtmpfadiehakcgaaHolds
import Derived.Test.YtmpfadiehakcgaaOpen
namespace Go.Proofs.Ytmpfadiehakcgaa.PQ
open Go.RowKit Go.Proofs.YtmpfadiehakcgaaW.PrintWords Go.Proofs.YtmpfadiehakcgaaW.PrintLast Go.Proofs.YtmpfadiehakcgaaW.PrintMore
set_option linter.unusedVariables false
set_option linter.unusedSimpArgs false
theorem storeHolds_walk (a0 : Option Addr) (c0 : Nat) (z0 : List S37) (a1 : Option Addr) (len1 cap1 : Nat) (zs1 : List Int) (W : World) (h0 : Kd.C k37 W a0 z0.length z0) (hc : z0.length ≤ c0) (hq : ∀ z ∈ z0, wf37 z)
    (h : (a1 = none ∧ len1 = 0 ∧ cap1 = 0 ∧ zs1 = []) ∨ ∃ x, a1 = some x ∧ len1 ≤ cap1 ∧ cap1 ≤ maxLen ∧ zs1.length = cap1 ∧ (∀ i, i < zs1.length → W.cell? (x.add i) = some (.int .i64 (zs1.getD i 0))) ∧ ∀ n ∈ zs1, (Lit.int .i64 n).wf = true)
    (hs : len1 * 8 ≤ 140737488351232) :
    Calls Try.prog 4 #[.slice a0 z0.length c0, .slice a1 len1 cap1] W fun e w' => e = .returned (.bool true) ∧ Below W.heap.size W w' := by
  obtain ⟨l, rfl, hr, hm, hw, hcc⟩ := ReadsInt.ofRowC h
  exact holds_core a0 c0 z0 a1 cap1 l W ⟨h0⟩ ⟨hr⟩
end Go.Proofs.Ytmpfadiehakcgaa.PQ
