/- What the row's condition on the listed table gives, and that the program's own start meets it; no condition beyond the listed variable's data. -/
import Derived.Test.YtnamndioodnelaaDoorRows
import Derived.Test.YtnamndioodnelaaDoorFold
import Derived.LaidMore
import Derived.MakeChecks
import Derived.Lib.LaidTab
import Derived.ProofKit
namespace Go.Proofs.YtnamndioodnelaaDoor.PQ
open Go Go.RowKit
def laidL : List (String × DataW Unit) := [("deckle/cost.costs", Rows.laid_deckle_cost_costs)]
theorem door_met (os : Os) (args : Array Value) : laidMetH Tryd.prog laidL ((World.doorLaid Tryd.prog 400 os).forCall (fun _ _ => 0) ⟨#[], args, []⟩).memory :=
  laidMetH_of_parts3 (fuel := 8) (laidMet_of_run' 8 (by kernel_rfl) (by kernel_rfl)) (by kernel_rfl) (by kernel_rfl)
theorem gTab : Tryd.prog.globalNamed "deckle/cost.costs" = some 0 := by kernel_rfl
theorem tTab : (Tryd.prog.globals[0]?).map (·.type) = some 52 := by kernel_rfl
theorem tabs_of_laid {W : World} (h : laidMetH Tryd.prog laidL W) : Tabs W := by
  rw [MakeChecks.laidMetH_plain _ _ _ (by kernel_rfl)] at h
  have hT : Lib.TabIs Tryd.prog W "deckle/cost.costs" .i64 tabC := Lib.tabIs_of_head gTab tTab Tryd.underlying52 Tryd.underlying3 (by kernel_rfl) (by kernel_rfl) (rest := []) h
  have c := fun i (hi : i < 6) => hT.cell gTab i hi
  exact ⟨World.block_lt_of_cell? _ _ (c 0 (by decide)), c⟩
end Go.Proofs.YtnamndioodnelaaDoor.PQ
