/-
  DERIVED. GIVEN WITH THE SEED: THE CARDS: each row of YtfddegniphmhiaaDoorRows.lean that lists a variable, with what it lists TIED to the program's text (the seventh form; the later family's looks); each row that meets fmt, with fmt's text TOLD by the authors' own Lean function (tested against real Go, not proved from fmt's source: count such statements apart). THE CARD IS WHAT COUNTS. Prove the row's statement (the work); the ties are given (YtfddegniphmhiaaDoorTie.lean); close each card by the builder's one call (the guide's Derived/Test/ToyasCard.lean, 'card_holds'). Laid BY PROGRAM, IN A SANDBOX (cutbox-door.mjs). By AI agents, Wed Nov 11 2026. No macro, syntax, notation, axiom, sorry.
-/
import Derived.Test.YtfddegniphmhiaaDoorRows
import GoSem.ClaimSeven
namespace Go.Proofs.YtfddegniphmhiaaDoor
namespace Rows

/-- THE TIED CARD OF 'decklelaw01.BitsSigns'. -/
def bitsSignsCard : Claim7 := { stood := { row := bitsSignsRow, standIns := [], harness := (true, "3b45882eb3cd9c9d3d0b73892c9e6b0a12ae6e55fce5b414ace905dba4439589"), looks := false }, kinds := [], alts := [], laidByText := true, laidKinds := [.data], laidTests := true, laidLooks := .later }
def BitsSignsCardSaid : Prop := Claim7.holds Tryd.pinned (.plain (OpenSpec.ofChange bitsSignsSpec)) bitsSignsCard

/-- THE TIED CARD OF 'decklelaw01.BitsNarrows'. -/
def bitsNarrowsCard : Claim7 := { stood := { row := bitsNarrowsRow, standIns := [], harness := (true, "3b45882eb3cd9c9d3d0b73892c9e6b0a12ae6e55fce5b414ace905dba4439589"), looks := false }, kinds := [], alts := [], laidByText := true, laidKinds := [.data], laidTests := true, laidLooks := .later }
def BitsNarrowsCardSaid : Prop := Claim7.holds Tryd.pinned (.plain (OpenSpec.ofChange bitsNarrowsSpec)) bitsNarrowsCard

/-- THE TIED CARD OF 'decklelaw01.BitsTurns'. -/
def bitsTurnsCard : Claim7 := { stood := { row := bitsTurnsRow, standIns := [], harness := (true, "3b45882eb3cd9c9d3d0b73892c9e6b0a12ae6e55fce5b414ace905dba4439589"), looks := false }, kinds := [], alts := [], laidByText := true, laidKinds := [.data], laidTests := true, laidLooks := .later }
def BitsTurnsCardSaid : Prop := Claim7.holds Tryd.pinned (.plain (OpenSpec.ofChange bitsTurnsSpec)) bitsTurnsCard

/-- THE TIED CARD OF 'decklelaw01.BitsFlips'. -/
def bitsFlipsCard : Claim7 := { stood := { row := bitsFlipsRow, standIns := [], harness := (true, "3b45882eb3cd9c9d3d0b73892c9e6b0a12ae6e55fce5b414ace905dba4439589"), looks := false }, kinds := [], alts := [], laidByText := true, laidKinds := [.data], laidTests := true, laidLooks := .later }
def BitsFlipsCardSaid : Prop := Claim7.holds Tryd.pinned (.plain (OpenSpec.ofChange bitsFlipsSpec)) bitsFlipsCard

/-- THE TIED CARD OF 'decklelaw01.BitsTwice'. -/
def bitsTwiceCard : Claim7 := { stood := { row := bitsTwiceRow, standIns := [], harness := (true, "3b45882eb3cd9c9d3d0b73892c9e6b0a12ae6e55fce5b414ace905dba4439589"), looks := false }, kinds := [], alts := [], laidByText := true, laidKinds := [.data], laidTests := true, laidLooks := .later }
def BitsTwiceCardSaid : Prop := Claim7.holds Tryd.pinned (.plain (OpenSpec.ofChange bitsTwiceSpec)) bitsTwiceCard

/-- THE TIED CARD OF 'decklelaw01.BitsPuts'. -/
def bitsPutsCard : Claim7 := { stood := { row := bitsPutsRow, standIns := [], harness := (true, "3b45882eb3cd9c9d3d0b73892c9e6b0a12ae6e55fce5b414ace905dba4439589"), looks := false }, kinds := [], alts := [], laidByText := true, laidKinds := [.data], laidTests := true, laidLooks := .later }
def BitsPutsCardSaid : Prop := Claim7.holds Tryd.pinned (.plain (OpenSpec.ofChange bitsPutsSpec)) bitsPutsCard

/-- THE TIED CARD OF 'decklelaw01.BitsBack'. -/
def bitsBackCard : Claim7 := { stood := { row := bitsBackRow, standIns := [], harness := (true, "3b45882eb3cd9c9d3d0b73892c9e6b0a12ae6e55fce5b414ace905dba4439589"), looks := false }, kinds := [], alts := [], laidByText := true, laidKinds := [.data], laidTests := true, laidLooks := .later }
def BitsBackCardSaid : Prop := Claim7.holds Tryd.pinned (.plain (OpenSpec.ofChange bitsBackSpec)) bitsBackCard

/-- THE SECOND FORM's CARD OF 'decklelaw01.BitsSigns'. -/
def bitsSignsUptoCard : Claim7 := { stood := { row := bitsSignsUptoRow, standIns := [], harness := (true, "3b45882eb3cd9c9d3d0b73892c9e6b0a12ae6e55fce5b414ace905dba4439589"), looks := false }, kinds := [], alts := [], laidByText := true, laidKinds := [.data], laidTests := true, laidLooks := .later }
def BitsSignsUptoCardSaid : Prop := Claim7.holds Tryd.pinned (.plain (OpenSpec.upto bitsSignsSpec)) bitsSignsUptoCard

/-- THE SECOND FORM's CARD OF 'decklelaw01.BitsNarrows'. -/
def bitsNarrowsUptoCard : Claim7 := { stood := { row := bitsNarrowsUptoRow, standIns := [], harness := (true, "3b45882eb3cd9c9d3d0b73892c9e6b0a12ae6e55fce5b414ace905dba4439589"), looks := false }, kinds := [], alts := [], laidByText := true, laidKinds := [.data], laidTests := true, laidLooks := .later }
def BitsNarrowsUptoCardSaid : Prop := Claim7.holds Tryd.pinned (.plain (OpenSpec.upto bitsNarrowsSpec)) bitsNarrowsUptoCard

/-- THE SECOND FORM's CARD OF 'decklelaw01.BitsTurns'. -/
def bitsTurnsUptoCard : Claim7 := { stood := { row := bitsTurnsUptoRow, standIns := [], harness := (true, "3b45882eb3cd9c9d3d0b73892c9e6b0a12ae6e55fce5b414ace905dba4439589"), looks := false }, kinds := [], alts := [], laidByText := true, laidKinds := [.data], laidTests := true, laidLooks := .later }
def BitsTurnsUptoCardSaid : Prop := Claim7.holds Tryd.pinned (.plain (OpenSpec.upto bitsTurnsSpec)) bitsTurnsUptoCard

/-- THE SECOND FORM's CARD OF 'decklelaw01.BitsFlips'. -/
def bitsFlipsUptoCard : Claim7 := { stood := { row := bitsFlipsUptoRow, standIns := [], harness := (true, "3b45882eb3cd9c9d3d0b73892c9e6b0a12ae6e55fce5b414ace905dba4439589"), looks := false }, kinds := [], alts := [], laidByText := true, laidKinds := [.data], laidTests := true, laidLooks := .later }
def BitsFlipsUptoCardSaid : Prop := Claim7.holds Tryd.pinned (.plain (OpenSpec.upto bitsFlipsSpec)) bitsFlipsUptoCard

/-- THE SECOND FORM's CARD OF 'decklelaw01.BitsTwice'. -/
def bitsTwiceUptoCard : Claim7 := { stood := { row := bitsTwiceUptoRow, standIns := [], harness := (true, "3b45882eb3cd9c9d3d0b73892c9e6b0a12ae6e55fce5b414ace905dba4439589"), looks := false }, kinds := [], alts := [], laidByText := true, laidKinds := [.data], laidTests := true, laidLooks := .later }
def BitsTwiceUptoCardSaid : Prop := Claim7.holds Tryd.pinned (.plain (OpenSpec.upto bitsTwiceSpec)) bitsTwiceUptoCard

/-- THE SECOND FORM's CARD OF 'decklelaw01.BitsPuts'. -/
def bitsPutsUptoCard : Claim7 := { stood := { row := bitsPutsUptoRow, standIns := [], harness := (true, "3b45882eb3cd9c9d3d0b73892c9e6b0a12ae6e55fce5b414ace905dba4439589"), looks := false }, kinds := [], alts := [], laidByText := true, laidKinds := [.data], laidTests := true, laidLooks := .later }
def BitsPutsUptoCardSaid : Prop := Claim7.holds Tryd.pinned (.plain (OpenSpec.upto bitsPutsSpec)) bitsPutsUptoCard

/-- THE SECOND FORM's CARD OF 'decklelaw01.BitsBack'. -/
def bitsBackUptoCard : Claim7 := { stood := { row := bitsBackUptoRow, standIns := [], harness := (true, "3b45882eb3cd9c9d3d0b73892c9e6b0a12ae6e55fce5b414ace905dba4439589"), looks := false }, kinds := [], alts := [], laidByText := true, laidKinds := [.data], laidTests := true, laidLooks := .later }
def BitsBackUptoCardSaid : Prop := Claim7.holds Tryd.pinned (.plain (OpenSpec.upto bitsBackSpec)) bitsBackUptoCard
end Rows
end Go.Proofs.YtfddegniphmhiaaDoor
