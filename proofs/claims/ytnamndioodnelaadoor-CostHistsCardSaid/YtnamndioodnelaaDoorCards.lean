/-
  DERIVED. GIVEN WITH THE SEED: THE CARDS: each row of YtnamndioodnelaaDoorRows.lean that lists a variable, with what it lists TIED to the program's text (the seventh form; the later family's looks); each row that meets fmt, with fmt's text TOLD by the authors' own Lean function (tested against real Go, not proved from fmt's source: count such statements apart). THE CARD IS WHAT COUNTS. Prove the row's statement (the work); the ties are given (YtnamndioodnelaaDoorTie.lean); close each card by the builder's one call (the guide's Derived/Test/ToyasCard.lean, 'card_holds'). Laid BY PROGRAM, IN A SANDBOX (cutbox-door.mjs). By AI agents, Wed Nov 11 2026. No macro, syntax, notation, axiom, sorry.
-/
import Derived.Test.YtnamndioodnelaaDoorRows
import GoSem.ClaimSeven
namespace Go.Proofs.YtnamndioodnelaaDoor
namespace Rows

/-- THE TIED CARD OF 'decklelaw42.CostRanks'. -/
def costRanksCard : Claim7 := { stood := { row := costRanksRow, standIns := [], harness := (true, "173a726066d1a207b08f3f9ea50181cfa42781a4a6e4b57fbc9625dd891af95b"), looks := false }, kinds := [], alts := [], laidByText := true, laidKinds := [.data], laidTests := true, laidLooks := .later }
def CostRanksCardSaid : Prop := Claim7.holds Tryd.pinned (.plain (OpenSpec.ofChange costRanksSpec)) costRanksCard

/-- THE TIED CARD OF 'decklelaw42.CostHists'. -/
def costHistsCard : Claim7 := { stood := { row := costHistsRow, standIns := [], harness := (true, "173a726066d1a207b08f3f9ea50181cfa42781a4a6e4b57fbc9625dd891af95b"), looks := false }, kinds := [], alts := [], laidByText := true, laidKinds := [.data], laidTests := true, laidLooks := .later }
def CostHistsCardSaid : Prop := Claim7.holds Tryd.pinned (.plain (OpenSpec.ofChange costHistsSpec)) costHistsCard

/-- THE TIED CARD OF 'decklelaw42.CostMore'. -/
def costMoreCard : Claim7 := { stood := { row := costMoreRow, standIns := [], harness := (true, "173a726066d1a207b08f3f9ea50181cfa42781a4a6e4b57fbc9625dd891af95b"), looks := false }, kinds := [], alts := [], laidByText := true, laidKinds := [.data], laidTests := true, laidLooks := .later }
def CostMoreCardSaid : Prop := Claim7.holds Tryd.pinned (.plain (OpenSpec.ofChange costMoreSpec)) costMoreCard

/-- THE SECOND FORM's CARD OF 'decklelaw42.CostRanks'. -/
def costRanksUptoCard : Claim7 := { stood := { row := costRanksUptoRow, standIns := [], harness := (true, "173a726066d1a207b08f3f9ea50181cfa42781a4a6e4b57fbc9625dd891af95b"), looks := false }, kinds := [], alts := [], laidByText := true, laidKinds := [.data], laidTests := true, laidLooks := .later }
def CostRanksUptoCardSaid : Prop := Claim7.holds Tryd.pinned (.plain (OpenSpec.upto costRanksSpec)) costRanksUptoCard

/-- THE SECOND FORM's CARD OF 'decklelaw42.CostHists'. -/
def costHistsUptoCard : Claim7 := { stood := { row := costHistsUptoRow, standIns := [], harness := (true, "173a726066d1a207b08f3f9ea50181cfa42781a4a6e4b57fbc9625dd891af95b"), looks := false }, kinds := [], alts := [], laidByText := true, laidKinds := [.data], laidTests := true, laidLooks := .later }
def CostHistsUptoCardSaid : Prop := Claim7.holds Tryd.pinned (.plain (OpenSpec.upto costHistsSpec)) costHistsUptoCard

/-- THE SECOND FORM's CARD OF 'decklelaw42.CostMore'. -/
def costMoreUptoCard : Claim7 := { stood := { row := costMoreUptoRow, standIns := [], harness := (true, "173a726066d1a207b08f3f9ea50181cfa42781a4a6e4b57fbc9625dd891af95b"), looks := false }, kinds := [], alts := [], laidByText := true, laidKinds := [.data], laidTests := true, laidLooks := .later }
def CostMoreUptoCardSaid : Prop := Claim7.holds Tryd.pinned (.plain (OpenSpec.upto costMoreSpec)) costMoreUptoCard
end Rows
end Go.Proofs.YtnamndioodnelaaDoor
