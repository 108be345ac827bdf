/- The law HamBack: its function answers true; the table lies as laid. -/
import Derived.Test.YtalnbmpfgmpkbaaDoorPureBack
namespace Go.Proofs.YtalnbmpfgmpkbaaDoor.Pure
open Go.RowKit Go.Proofs.YtalnbmpfgmpkbaaDoorW.PrintWords PQ
set_option linter.unusedVariables false
set_option linter.unusedSimpArgs false
theorem hamBack_walk (s : ByteArray) (w : World) (hs : s.size ≤ 140737488351232) (hT : Aside0 (Tabs w)) :
    Calls Tryd.prog 5 #[.string s] w fun e w' => e = .returned (.bool true) ∧ Below w.heap.size w w' :=
  decklelaw03_HamBack.calls 20 s true w hT (hamBack_pure s hs)
end Go.Proofs.YtalnbmpfgmpkbaaDoor.Pure
