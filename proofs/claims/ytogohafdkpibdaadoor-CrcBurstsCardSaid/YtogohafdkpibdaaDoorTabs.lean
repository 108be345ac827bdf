/- What is known of the package-level table crc.table in a world, and that it stays so behind whatever leaves old memory alone. No condition. -/
import Derived.Test.YtogohafdkpibdaaDoorProg
import Derived.WalkKit
import Derived.Test.YtogohafdkpibdaaDoorWWords
namespace Go.Proofs.YtogohafdkpibdaaDoor.PQ
open Go.RowKit

def tabZ : List Int := [0, 498536548, 997073096, 651767980, 1994146192, 1802195444, 1303535960, 1342533948, 3988292384, 4027552580, 3604390888, 3412177804, 2607071920, 2262029012, 2685067896, 3183342108]
/-- The table lies there. -/
structure Tabs (w : World) : Prop where
  sz : 0 < w.heap.size
  cell : ∀ i, i < 16 → w.cell? ⟨0, i, none⟩ = some (.int .u32 (tabZ.getD i 0))
theorem tabs_below {w w' : World} (h : Tabs w) (hb : Below w.heap.size w w') : Tabs w' :=
  ⟨Nat.lt_of_lt_of_le h.sz hb.size, fun i hi => (hb.cell (p := ⟨0, i, none⟩) h.sz).trans (h.cell i hi)⟩
theorem tabs_drewN {w : World} (h : Tabs w) (n : Nat) : Tabs (w.drewN n) := tabs_below h (Go.Proofs.YtogohafdkpibdaaDoorW.PrintWords.Drawn0.below ⟨⟨n, rfl⟩⟩)
theorem tabs_drew {w : World} (h : Tabs w) : Tabs w.drew := tabs_below h (Below.refl _ w).drew
theorem tabs_alloc {w : World} (h : Tabs w) (o : Obj) : Tabs (w.alloc o) := tabs_below h ((Below.refl _ w).alloc (Nat.le_refl _) o)
end Go.Proofs.YtogohafdkpibdaaDoor.PQ
