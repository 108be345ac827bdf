/-
  DERIVED. GIVEN WITH THE SEED: THE CARDS: each row of YtoiofemekcnlbaaDoorRows.lean that lists a variable, with what it lists TIED to the program's text (the seventh form; the later family's looks); each row that meets fmt, with fmt's text TOLD by the authors' own Lean function (tested against real Go, not proved from fmt's source: count such statements apart). THE CARD IS WHAT COUNTS. Prove the row's statement (the work); the ties are given (YtoiofemekcnlbaaDoorTie.lean); close each card by the builder's one call (the guide's Derived/Test/ToyasCard.lean, 'card_holds'). Laid BY PROGRAM, IN A SANDBOX (cutbox-door.mjs). By AI agents, Wed Nov 11 2026. No macro, syntax, notation, axiom, sorry.
-/
import Derived.Test.YtoiofemekcnlbaaDoorRows
import GoSem.ClaimSeven
namespace Go.Proofs.YtoiofemekcnlbaaDoor
namespace Rows

/-- THE TIED CARD OF 'decklelaw21.PoolOne'. -/
def poolOneCard : Claim7 := { stood := { row := poolOneRow, standIns := [], harness := (true, "92dc28cc5e5f53262f77507a2dd6d3b561f97f4134232554e8377003d201bbbd"), looks := false }, kinds := [], alts := [], laidByText := true, laidKinds := [.data], laidTests := true, laidLooks := .later }
def PoolOneCardSaid : Prop := Claim7.holds Tryd.pinned (.plain (OpenSpec.ofChange poolOneSpec)) poolOneCard

/-- THE TIED CARD OF 'decklelaw21.PoolPlays'. -/
def poolPlaysCard : Claim7 := { stood := { row := poolPlaysRow, standIns := [], harness := (true, "92dc28cc5e5f53262f77507a2dd6d3b561f97f4134232554e8377003d201bbbd"), looks := false }, kinds := [], alts := [], laidByText := true, laidKinds := [.data], laidTests := true, laidLooks := .later }
def PoolPlaysCardSaid : Prop := Claim7.holds Tryd.pinned (.plain (OpenSpec.ofChange poolPlaysSpec)) poolPlaysCard

/-- THE TIED CARD OF 'decklelaw21.PoolBad'. -/
def poolBadCard : Claim7 := { stood := { row := poolBadRow, standIns := [], harness := (true, "92dc28cc5e5f53262f77507a2dd6d3b561f97f4134232554e8377003d201bbbd"), looks := false }, kinds := [], alts := [], laidByText := true, laidKinds := [.data], laidTests := true, laidLooks := .later }
def PoolBadCardSaid : Prop := Claim7.holds Tryd.pinned (.plain (OpenSpec.ofChange poolBadSpec)) poolBadCard

/-- THE TIED CARD OF 'decklelaw21.PoolOf'. -/
def poolOfCard : Claim7 := { stood := { row := poolOfRow, standIns := [], harness := (true, "92dc28cc5e5f53262f77507a2dd6d3b561f97f4134232554e8377003d201bbbd"), looks := false }, kinds := [], alts := [], laidByText := true, laidKinds := [.data], laidTests := true, laidLooks := .later }
def PoolOfCardSaid : Prop := Claim7.holds Tryd.pinned (.plain (OpenSpec.ofChange poolOfSpec)) poolOfCard

/-- THE SECOND FORM's CARD OF 'decklelaw21.PoolOne'. -/
def poolOneUptoCard : Claim7 := { stood := { row := poolOneUptoRow, standIns := [], harness := (true, "92dc28cc5e5f53262f77507a2dd6d3b561f97f4134232554e8377003d201bbbd"), looks := false }, kinds := [], alts := [], laidByText := true, laidKinds := [.data], laidTests := true, laidLooks := .later }
def PoolOneUptoCardSaid : Prop := Claim7.holds Tryd.pinned (.plain (OpenSpec.upto poolOneSpec)) poolOneUptoCard

/-- THE SECOND FORM's CARD OF 'decklelaw21.PoolPlays'. -/
def poolPlaysUptoCard : Claim7 := { stood := { row := poolPlaysUptoRow, standIns := [], harness := (true, "92dc28cc5e5f53262f77507a2dd6d3b561f97f4134232554e8377003d201bbbd"), looks := false }, kinds := [], alts := [], laidByText := true, laidKinds := [.data], laidTests := true, laidLooks := .later }
def PoolPlaysUptoCardSaid : Prop := Claim7.holds Tryd.pinned (.plain (OpenSpec.upto poolPlaysSpec)) poolPlaysUptoCard

/-- THE SECOND FORM's CARD OF 'decklelaw21.PoolBad'. -/
def poolBadUptoCard : Claim7 := { stood := { row := poolBadUptoRow, standIns := [], harness := (true, "92dc28cc5e5f53262f77507a2dd6d3b561f97f4134232554e8377003d201bbbd"), looks := false }, kinds := [], alts := [], laidByText := true, laidKinds := [.data], laidTests := true, laidLooks := .later }
def PoolBadUptoCardSaid : Prop := Claim7.holds Tryd.pinned (.plain (OpenSpec.upto poolBadSpec)) poolBadUptoCard

/-- THE SECOND FORM's CARD OF 'decklelaw21.PoolOf'. -/
def poolOfUptoCard : Claim7 := { stood := { row := poolOfUptoRow, standIns := [], harness := (true, "92dc28cc5e5f53262f77507a2dd6d3b561f97f4134232554e8377003d201bbbd"), looks := false }, kinds := [], alts := [], laidByText := true, laidKinds := [.data], laidTests := true, laidLooks := .later }
def PoolOfUptoCardSaid : Prop := Claim7.holds Tryd.pinned (.plain (OpenSpec.upto poolOfSpec)) poolOfUptoCard
end Rows
end Go.Proofs.YtoiofemekcnlbaaDoor
