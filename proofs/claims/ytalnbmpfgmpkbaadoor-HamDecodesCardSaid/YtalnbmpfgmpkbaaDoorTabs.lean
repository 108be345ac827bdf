/- What is known of the package-level table ham.places in a world, and that it stays so behind whatever leaves old memory alone. No condition. -/
import Derived.Test.YtalnbmpfgmpkbaaDoorProg
import Derived.WalkKit
import Derived.Test.YtalnbmpfgmpkbaaDoorWWords
namespace Go.Proofs.YtalnbmpfgmpkbaaDoor.PQ
open Go.RowKit
def tabP : List Int := [3, 5, 6, 7, 9, 10, 11, 12, 13, 14, 15, 17, 18, 19, 20, 21, 22, 23, 24, 25, 26, 27, 28, 29, 30, 31, 33, 34, 35, 36, 37, 38, 39, 40, 41, 42, 43, 44, 45, 46, 47, 48, 49, 50, 51, 52, 53, 54, 55, 56, 57, 58, 59, 60, 61, 62, 63, 65, 66, 67, 68, 69, 70, 71]
/-- The table lies there. -/
structure Tabs (w : World) : Prop where
  sz : 0 < w.heap.size
  cell : ∀ i, i < 64 → w.cell? ⟨0, i, none⟩ = some (.int .u8 (tabP.getD i 0))
theorem tabs_below {w w' : World} (h : Tabs w) (hb : Below w.heap.size w w') : Tabs w' :=
  ⟨Nat.lt_of_lt_of_le h.sz hb.size, fun i hi => (hb.cell (p := ⟨0, i, none⟩) h.sz).trans (h.cell i hi)⟩
theorem tabs_drewN {w : World} (h : Tabs w) (n : Nat) : Tabs (w.drewN n) := tabs_below h (Go.Proofs.YtalnbmpfgmpkbaaDoorW.PrintWords.Drawn0.below ⟨⟨n, rfl⟩⟩)
theorem tabs_drew {w : World} (h : Tabs w) : Tabs w.drew := tabs_below h (Below.refl _ w).drew
theorem tabs_alloc {w : World} (h : Tabs w) (o : Obj) : Tabs (w.alloc o) := tabs_below h ((Below.refl _ w).alloc (Nat.le_refl _) o)
end Go.Proofs.YtalnbmpfgmpkbaaDoor.PQ
