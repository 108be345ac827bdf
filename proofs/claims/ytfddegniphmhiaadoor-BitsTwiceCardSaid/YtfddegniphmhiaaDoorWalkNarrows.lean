/- The bits law Narrows: its function answers true; the table lies as laid. -/
import Derived.ProofKit
import Derived.Test.YtfddegniphmhiaaDoorNarrows
import Derived.Test.YtfddegniphmhiaaDoorWalkPuts
namespace Go.Proofs.YtfddegniphmhiaaDoor.Pure
open Go.RowKit Go.Proofs.YtfddegniphmhiaaDoorW.PrintWords PQ
set_option linter.unusedVariables false
set_option linter.unusedSimpArgs false
theorem i64_bounds {v : Int} (h : (Lit.int .i64 v).wf = true) : -9223372036854775808 ≤ v ∧ v ≤ 9223372036854775807 := by
  have h' : (decide ((-9223372036854775808 : Int) ≤ v) && decide (v ≤ 9223372036854775807)) = true := h
  rw [Bool.and_eq_true, decide_eq_true_eq, decide_eq_true_eq] at h'
  exact h'
theorem bitsNarrows_walk (v n : Int) (w : World) (h : (Lit.int .i64 v).wf = true) {P : Prop} (_ : P) (hT : Aside0 (Tabs w)) :
    Calls Tryd.prog 4 #[.int .i64 v, .int .i64 n] w fun e w' => e = .returned (.bool true) ∧ Below w.heap.size w w' :=
  decklelaw01_BitsNarrows.calls 20 v n true w hT (bitsNarrows_pure v n (i64_bounds h))
end Go.Proofs.YtfddegniphmhiaaDoor.Pure
