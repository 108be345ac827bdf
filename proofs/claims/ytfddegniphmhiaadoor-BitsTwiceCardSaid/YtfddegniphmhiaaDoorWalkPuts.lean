/- The bits laws Puts and Back: their functions answer true; the table lies as laid. -/
import Derived.ProofKit
import Derived.Test.YtfddegniphmhiaaDoorPuts
namespace Go.Proofs.YtfddegniphmhiaaDoor.Pure
open Go.RowKit Go.Proofs.YtfddegniphmhiaaDoorW.PrintWords PQ
set_option linter.unusedVariables false
set_option linter.unusedSimpArgs false
theorem u64_bounds {v : Int} (h : (Lit.int .u64 v).wf = true) : 0 ≤ v ∧ v ≤ 18446744073709551615 := by
  have h' : (decide ((0 : Int) ≤ v) && decide (v ≤ 18446744073709551615)) = true := h
  rw [Bool.and_eq_true, decide_eq_true_eq, decide_eq_true_eq] at h'
  exact h'
theorem bitsPuts_walk (v n : Int) (s : ByteArray) (w : World) (h : (Lit.int .u64 v).wf = true) {P1 P2 : Prop} (_ : P1) (_ : P2) (hT : Aside0 (Tabs w)) :
    Calls Tryd.prog 8 #[.int .u64 v, .int .i64 n, .string s] w fun e w' => e = .returned (.bool true) ∧ Below w.heap.size w w' :=
  decklelaw01_BitsPuts.calls 20 v n s true w hT (bitsPuts_pure v n s (u64_bounds h).1 (u64_bounds h).2)
theorem bitsBack_walk (v n : Int) (s : ByteArray) (w : World) (h : (Lit.int .u64 v).wf = true) {P1 P2 : Prop} (_ : P1) (_ : P2) (hT : Aside0 (Tabs w)) :
    Calls Tryd.prog 9 #[.int .u64 v, .int .i64 n, .string s] w fun e w' => e = .returned (.bool true) ∧ Below w.heap.size w w' :=
  decklelaw01_BitsBack.calls 20 v n s true w hT (bitsBack_pure v n s (u64_bounds h).1 (u64_bounds h).2)
end Go.Proofs.YtfddegniphmhiaaDoor.Pure
