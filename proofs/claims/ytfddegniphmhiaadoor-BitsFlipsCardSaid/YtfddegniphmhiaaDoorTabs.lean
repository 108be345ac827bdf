/- What is known of the package-level table bits.clear in a world, and that it stays so behind whatever leaves old memory alone. No condition. -/
import Derived.Test.YtfddegniphmhiaaDoorProg
import Derived.WalkKit
import Derived.Test.YtfddegniphmhiaaDoorWWords
namespace Go.Proofs.YtfddegniphmhiaaDoor.PQ
open Go.RowKit
def tabZ : List Int := [4, 3, 3, 2, 3, 2, 2, 1, 3, 2, 2, 1, 2, 1, 1, 0]
/-- The table lies there. -/
structure Tabs (w : World) : Prop where
  sz : 0 < w.heap.size
  cell : ∀ i, i < 16 → w.cell? ⟨0, i, none⟩ = some (.int .i64 (tabZ.getD i 0))
theorem tabs_below {w w' : World} (h : Tabs w) (hb : Below w.heap.size w w') : Tabs w' :=
  ⟨Nat.lt_of_lt_of_le h.sz hb.size, fun i hi => (hb.cell (p := ⟨0, i, none⟩) h.sz).trans (h.cell i hi)⟩
theorem tabs_drewN {w : World} (h : Tabs w) (n : Nat) : Tabs (w.drewN n) := tabs_below h (Go.Proofs.YtfddegniphmhiaaDoorW.PrintWords.Drawn0.below ⟨⟨n, rfl⟩⟩)
theorem tabs_drew {w : World} (h : Tabs w) : Tabs w.drew := tabs_below h (Below.refl _ w).drew
theorem tabs_alloc {w : World} (h : Tabs w) (o : Obj) : Tabs (w.alloc o) := tabs_below h ((Below.refl _ w).alloc (Nat.le_refl _) o)
end Go.Proofs.YtfddegniphmhiaaDoor.PQ
