/-
  DERIVED. GIVEN WITH THE SEED: THE CARDS: each row of YtalnbmpfgmpkbaaDoorRows.lean that lists a variable, with what it lists TIED to the program's text (the seventh form; the later family's looks); each row that meets fmt, with fmt's text TOLD by the authors' own Lean function (tested against real Go, not proved from fmt's source: count such statements apart). THE CARD IS WHAT COUNTS. Prove the row's statement (the work); the ties are given (YtalnbmpfgmpkbaaDoorTie.lean); close each card by the builder's one call (the guide's Derived/Test/ToyasCard.lean, 'card_holds'). Laid BY PROGRAM, IN A SANDBOX (cutbox-door.mjs). By AI agents, Wed Nov 11 2026. No macro, syntax, notation, axiom, sorry.
-/
import Derived.Test.YtalnbmpfgmpkbaaDoorRows
import GoSem.ClaimSeven
namespace Go.Proofs.YtalnbmpfgmpkbaaDoor
namespace Rows

/-- THE TIED CARD OF 'decklelaw03.HamEncodes'. -/
def hamEncodesCard : Claim7 := { stood := { row := hamEncodesRow, standIns := [], harness := (true, "0da97f0feb1e3f8968d0ad8da54d26b93b4f2c9b0f408aa259abb7b66294b7cb"), looks := false }, kinds := [], alts := [], laidByText := true, laidKinds := [.data], laidTests := true, laidLooks := .later }
def HamEncodesCardSaid : Prop := Claim7.holds Tryd.pinned (.plain (OpenSpec.ofChange hamEncodesSpec)) hamEncodesCard

/-- THE TIED CARD OF 'decklelaw03.HamDecodes'. -/
def hamDecodesCard : Claim7 := { stood := { row := hamDecodesRow, standIns := [], harness := (true, "0da97f0feb1e3f8968d0ad8da54d26b93b4f2c9b0f408aa259abb7b66294b7cb"), looks := false }, kinds := [], alts := [], laidByText := true, laidKinds := [.data], laidTests := true, laidLooks := .later }
def HamDecodesCardSaid : Prop := Claim7.holds Tryd.pinned (.plain (OpenSpec.ofChange hamDecodesSpec)) hamDecodesCard

/-- THE TIED CARD OF 'decklelaw03.HamBack'. -/
def hamBackCard : Claim7 := { stood := { row := hamBackRow, standIns := [], harness := (true, "0da97f0feb1e3f8968d0ad8da54d26b93b4f2c9b0f408aa259abb7b66294b7cb"), looks := false }, kinds := [], alts := [], laidByText := true, laidKinds := [.data], laidTests := true, laidLooks := .later }
def HamBackCardSaid : Prop := Claim7.holds Tryd.pinned (.plain (OpenSpec.ofChange hamBackSpec)) hamBackCard

/-- THE TIED CARD OF 'decklelaw03.HamOne'. -/
def hamOneCard : Claim7 := { stood := { row := hamOneRow, standIns := [], harness := (true, "0da97f0feb1e3f8968d0ad8da54d26b93b4f2c9b0f408aa259abb7b66294b7cb"), looks := false }, kinds := [], alts := [], laidByText := true, laidKinds := [.data], laidTests := true, laidLooks := .later }
def HamOneCardSaid : Prop := Claim7.holds Tryd.pinned (.plain (OpenSpec.ofChange hamOneSpec)) hamOneCard

/-- THE TIED CARD OF 'decklelaw03.HamTwo'. -/
def hamTwoCard : Claim7 := { stood := { row := hamTwoRow, standIns := [], harness := (true, "0da97f0feb1e3f8968d0ad8da54d26b93b4f2c9b0f408aa259abb7b66294b7cb"), looks := false }, kinds := [], alts := [], laidByText := true, laidKinds := [.data], laidTests := true, laidLooks := .later }
def HamTwoCardSaid : Prop := Claim7.holds Tryd.pinned (.plain (OpenSpec.ofChange hamTwoSpec)) hamTwoCard

/-- THE TIED CARD OF 'decklelaw03.HamApart'. -/
def hamApartCard : Claim7 := { stood := { row := hamApartRow, standIns := [], harness := (true, "0da97f0feb1e3f8968d0ad8da54d26b93b4f2c9b0f408aa259abb7b66294b7cb"), looks := false }, kinds := [], alts := [], laidByText := true, laidKinds := [.data], laidTests := true, laidLooks := .later }
def HamApartCardSaid : Prop := Claim7.holds Tryd.pinned (.plain (OpenSpec.ofChange hamApartSpec)) hamApartCard

/-- THE SECOND FORM's CARD OF 'decklelaw03.HamEncodes'. -/
def hamEncodesUptoCard : Claim7 := { stood := { row := hamEncodesUptoRow, standIns := [], harness := (true, "0da97f0feb1e3f8968d0ad8da54d26b93b4f2c9b0f408aa259abb7b66294b7cb"), looks := false }, kinds := [], alts := [], laidByText := true, laidKinds := [.data], laidTests := true, laidLooks := .later }
def HamEncodesUptoCardSaid : Prop := Claim7.holds Tryd.pinned (.plain (OpenSpec.upto hamEncodesSpec)) hamEncodesUptoCard

/-- THE SECOND FORM's CARD OF 'decklelaw03.HamDecodes'. -/
def hamDecodesUptoCard : Claim7 := { stood := { row := hamDecodesUptoRow, standIns := [], harness := (true, "0da97f0feb1e3f8968d0ad8da54d26b93b4f2c9b0f408aa259abb7b66294b7cb"), looks := false }, kinds := [], alts := [], laidByText := true, laidKinds := [.data], laidTests := true, laidLooks := .later }
def HamDecodesUptoCardSaid : Prop := Claim7.holds Tryd.pinned (.plain (OpenSpec.upto hamDecodesSpec)) hamDecodesUptoCard

/-- THE SECOND FORM's CARD OF 'decklelaw03.HamBack'. -/
def hamBackUptoCard : Claim7 := { stood := { row := hamBackUptoRow, standIns := [], harness := (true, "0da97f0feb1e3f8968d0ad8da54d26b93b4f2c9b0f408aa259abb7b66294b7cb"), looks := false }, kinds := [], alts := [], laidByText := true, laidKinds := [.data], laidTests := true, laidLooks := .later }
def HamBackUptoCardSaid : Prop := Claim7.holds Tryd.pinned (.plain (OpenSpec.upto hamBackSpec)) hamBackUptoCard

/-- THE SECOND FORM's CARD OF 'decklelaw03.HamOne'. -/
def hamOneUptoCard : Claim7 := { stood := { row := hamOneUptoRow, standIns := [], harness := (true, "0da97f0feb1e3f8968d0ad8da54d26b93b4f2c9b0f408aa259abb7b66294b7cb"), looks := false }, kinds := [], alts := [], laidByText := true, laidKinds := [.data], laidTests := true, laidLooks := .later }
def HamOneUptoCardSaid : Prop := Claim7.holds Tryd.pinned (.plain (OpenSpec.upto hamOneSpec)) hamOneUptoCard

/-- THE SECOND FORM's CARD OF 'decklelaw03.HamTwo'. -/
def hamTwoUptoCard : Claim7 := { stood := { row := hamTwoUptoRow, standIns := [], harness := (true, "0da97f0feb1e3f8968d0ad8da54d26b93b4f2c9b0f408aa259abb7b66294b7cb"), looks := false }, kinds := [], alts := [], laidByText := true, laidKinds := [.data], laidTests := true, laidLooks := .later }
def HamTwoUptoCardSaid : Prop := Claim7.holds Tryd.pinned (.plain (OpenSpec.upto hamTwoSpec)) hamTwoUptoCard

/-- THE SECOND FORM's CARD OF 'decklelaw03.HamApart'. -/
def hamApartUptoCard : Claim7 := { stood := { row := hamApartUptoRow, standIns := [], harness := (true, "0da97f0feb1e3f8968d0ad8da54d26b93b4f2c9b0f408aa259abb7b66294b7cb"), looks := false }, kinds := [], alts := [], laidByText := true, laidKinds := [.data], laidTests := true, laidLooks := .later }
def HamApartUptoCardSaid : Prop := Claim7.holds Tryd.pinned (.plain (OpenSpec.upto hamApartSpec)) hamApartUptoCard
end Rows
end Go.Proofs.YtalnbmpfgmpkbaaDoor
