/- The bits law Twice: its function answers true; the table lies as laid. -/
import Derived.ProofKit
import Derived.Test.YtfddegniphmhiaaDoorTwice
import Derived.Test.YtfddegniphmhiaaDoorWalkNarrows
namespace Go.Proofs.YtfddegniphmhiaaDoor.Pure
open Go.RowKit Go.Proofs.YtfddegniphmhiaaDoorW.PrintWords PQ
set_option linter.unusedVariables false
set_option linter.unusedSimpArgs false
theorem bitsTwice_walk (s : ByteArray) (a b : Int) (w : World) {P : Prop} (_ : P) (ha : (Lit.int .i64 a).wf = true) (hb : (Lit.int .i64 b).wf = true) (hT : Aside0 (Tabs w)) :
    Calls Tryd.prog 7 #[.string s, .int .i64 a, .int .i64 b] w fun e w' => e = .returned (.bool true) ∧ Below w.heap.size w w' :=
  decklelaw01_BitsTwice.calls 20 s a b true w hT (bitsTwice_pure s a b (i64_bounds ha) (i64_bounds hb))
end Go.Proofs.YtfddegniphmhiaaDoor.Pure
