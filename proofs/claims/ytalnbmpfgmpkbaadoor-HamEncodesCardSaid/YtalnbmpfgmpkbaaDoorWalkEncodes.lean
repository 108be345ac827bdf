/- The law HamEncodes: its function answers true; the table lies as laid. -/
import Derived.Test.YtalnbmpfgmpkbaaDoorPureEncodes
namespace Go.Proofs.YtalnbmpfgmpkbaaDoor.Pure
open Go.RowKit Go.Proofs.YtalnbmpfgmpkbaaDoorW.PrintWords PQ
set_option linter.unusedVariables false
set_option linter.unusedSimpArgs false
theorem hamEncodes_walk (s : ByteArray) (w : World) {P : Prop} (_ : P) (hT : Aside0 (Tabs w)) :
    Calls Tryd.prog 3 #[.string s] w fun e w' => e = .returned (.bool true) ∧ Below w.heap.size w w' :=
  decklelaw03_HamEncodes.calls 400 s true w hT (hamEncodes_pure s)
end Go.Proofs.YtalnbmpfgmpkbaaDoor.Pure
