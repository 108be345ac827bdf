/- The law HamTwo: its function answers true; the table lies as laid. -/
import Derived.Test.YtalnbmpfgmpkbaaDoorPureTwo
namespace Go.Proofs.YtalnbmpfgmpkbaaDoor.Pure
open Go.RowKit Go.Proofs.YtalnbmpfgmpkbaaDoorW.PrintWords PQ
set_option linter.unusedVariables false
set_option linter.unusedSimpArgs false
theorem hamTwo_walk (s : ByteArray) (k k' : Int) (w : World) {P Q : Prop} (hs : s.size ≤ 140737488351232) (_ : P) (_ : Q) (hT : Aside0 (Tabs w)) :
    Calls Tryd.prog 7 #[.string s, .agg #[.int .i64 k, .int .i64 k']] w fun e w' => e = .returned (.bool true) ∧ Below w.heap.size w w' :=
  decklelaw03_HamTwo.calls 20 s k k' true w hT (hamTwo_pure s k k' hs)
end Go.Proofs.YtalnbmpfgmpkbaaDoor.Pure
