/- The law HamApart: its function answers true; the table lies as laid. -/
import Derived.Test.YtalnbmpfgmpkbaaDoorPureApart
namespace Go.Proofs.YtalnbmpfgmpkbaaDoor.Pure
open Go.RowKit Go.Proofs.YtalnbmpfgmpkbaaDoorW.PrintWords PQ
set_option linter.unusedVariables false
set_option linter.unusedSimpArgs false
theorem hamApart_walk (s t : ByteArray) (w : World) (hs : s.size ≤ 140737488351232) (ht : t.size ≤ 140737488351232) (hT : Aside0 (Tabs w)) :
    Calls Tryd.prog 8 #[.string s, .string t] w fun e w' => e = .returned (.bool true) ∧ Below w.heap.size w w' :=
  decklelaw03_HamApart.calls 4000 s t true w hT (hamApart_pure s t hs ht)
end Go.Proofs.YtalnbmpfgmpkbaaDoor.Pure
