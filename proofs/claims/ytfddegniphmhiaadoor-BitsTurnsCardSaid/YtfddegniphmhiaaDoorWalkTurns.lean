/- The bits law Turns: its function answers true; the table lies as laid. -/
import Derived.ProofKit
import Derived.Test.YtfddegniphmhiaaDoorTurns
import Derived.Test.YtfddegniphmhiaaDoorWalkPuts
namespace Go.Proofs.YtfddegniphmhiaaDoor.Pure
open Go.RowKit Go.Proofs.YtfddegniphmhiaaDoorW.PrintWords PQ
set_option linter.unusedVariables false
set_option linter.unusedSimpArgs false
theorem i16_bounds {v : Int} (h : (Lit.int .i16 v).wf = true) : -32768 ≤ v ∧ v ≤ 32767 := by
  have h' : (decide ((-32768 : Int) ≤ v) && decide (v ≤ 32767)) = true := h
  rw [Bool.and_eq_true, decide_eq_true_eq, decide_eq_true_eq] at h'
  exact h'
theorem bitsTurns_walk (v a b : Int) (w : World) (h : (Lit.int .u64 v).wf = true) (ha : (Lit.int .i16 a).wf = true) (hb : (Lit.int .i16 b).wf = true) (hT : Aside0 (Tabs w)) :
    Calls Tryd.prog 5 #[.int .u64 v, .int .i16 a, .int .i16 b] w fun e w' => e = .returned (.bool true) ∧ Below w.heap.size w w' :=
  decklelaw01_BitsTurns.calls 20 v a b true w hT (bitsTurns_pure v a b (u64_bounds h).1 (u64_bounds h).2 (i16_bounds ha) (i16_bounds hb))
end Go.Proofs.YtfddegniphmhiaaDoor.Pure
