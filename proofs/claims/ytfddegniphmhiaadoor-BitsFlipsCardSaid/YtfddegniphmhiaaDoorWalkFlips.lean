/- The bits law Flips: its function answers true; the table lies as laid. -/
import Derived.ProofKit
import Derived.Test.YtfddegniphmhiaaDoorFlips
namespace Go.Proofs.YtfddegniphmhiaaDoor.Pure
open Go.RowKit Go.Proofs.YtfddegniphmhiaaDoorW.PrintWords PQ
set_option linter.unusedVariables false
set_option linter.unusedSimpArgs false
theorem i64_bounds {v : Int} (h : (Lit.int .i64 v).wf = true) : -9223372036854775808 ≤ v ∧ v ≤ 9223372036854775807 := by
  have h' : (decide ((-9223372036854775808 : Int) ≤ v) && decide (v ≤ 9223372036854775807)) = true := h
  rw [Bool.and_eq_true, decide_eq_true_eq, decide_eq_true_eq] at h'
  exact h'
theorem bitsFlips_walk (s : ByteArray) (c : Int) (w : World) {P : Prop} (_ : P) (hc : (Lit.int .i64 c).wf = true) (hT : Aside0 (Tabs w)) :
    Calls Tryd.prog 6 #[.string s, .int .i64 c] w fun e w' => e = .returned (.bool true) ∧ Below w.heap.size w w' :=
  decklelaw01_BitsFlips.calls 12000 s c true w hT (bitsFlips_pure s c (i64_bounds hc))
end Go.Proofs.YtfddegniphmhiaaDoor.Pure
