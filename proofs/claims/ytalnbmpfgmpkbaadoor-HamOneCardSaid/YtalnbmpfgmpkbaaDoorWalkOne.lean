/- The law HamOne: its function answers true; the table lies as laid. -/
import Derived.Test.YtalnbmpfgmpkbaaDoorPureOne
namespace Go.Proofs.YtalnbmpfgmpkbaaDoor.Pure
open Go.RowKit Go.Proofs.YtalnbmpfgmpkbaaDoorW.PrintWords PQ
set_option linter.unusedVariables false
set_option linter.unusedSimpArgs false
theorem hamOne_walk (s : ByteArray) (k : Int) (w : World) {P : Prop} (hs : s.size ≤ 140737488351232) (_ : P) (hT : Aside0 (Tabs w)) :
    Calls Tryd.prog 6 #[.string s, .int .i64 k] w fun e w' => e = .returned (.bool true) ∧ Below w.heap.size w w' :=
  decklelaw03_HamOne.calls 20 s k true w hT (hamOne_pure s k hs)
end Go.Proofs.YtalnbmpfgmpkbaaDoor.Pure
