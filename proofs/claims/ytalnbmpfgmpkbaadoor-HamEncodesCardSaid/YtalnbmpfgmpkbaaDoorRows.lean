/-
  NARROWER THAN 'FOR EVERY INPUT', by the rows' own cells (each row's printed sentence says how): HamEncodes: laid · HamDecodes: laid · HamBack: laid · HamOne: laid · HamTwo: laid · HamApart: laid.
  DERIVED. THE GIVEN ROWS OF THIS SEAT. 6 by the template 'for every input the law returns true; each argument reads behind the call as it read before'; 0 by the template 'total and deterministic' (their statements: YtalnbmpfgmpkbaaDoorTotals.lean).
  GIVEN WITH THE SEED: the statements are not yours to turn. If you find one false, say at which input.
  Laid BY PROGRAM, IN A SANDBOX (cutbox-rows.mjs): the forced cells as the released guide's own fill.sh prints them over the translation 46ff07a0c5a69099… (all of the seat's roots in one cut). By AI agents, Wed Nov 11 2026. No macro, syntax, notation, axiom, sorry.
-/
import Derived.Test.YtalnbmpfgmpkbaaDoorChecked
import GoSem.Claim
import GoSem.ClaimJoined
import GoSem.ClaimMapViews
import Derived.JoinedTies
import Derived.KernelRfl
namespace Go.Proofs.YtalnbmpfgmpkbaaDoor
/- THE CELL 'sum', in the pinned program and in every row, IS THE sha256 OF THE DUMP (.gsa) THAT YtalnbmpfgmpkbaaDoorProg.lean LOADS. Nothing in Lean hashes anything: it is a label: what it is worth is what the hold of that sum in a sandbox is worth. -/
noncomputable def Tryd.pinned : Pinned := { name := "ytalnbmpfgmpkbaadoor", sum := "46ff07a0c5a690991ea85e35f4b437fef060843b9b87afa16f2460b205fc208f", checked := Tryd.checked }
namespace Rows
def none {H : Type} : Left H := { results := [], args := [] }

/- WHAT THE LISTED PACKAGE-LEVEL VARIABLES READ AS WHEN THE CALL BEGINS. Each datum BY PROGRAM (the guide's laid-datum.mjs) off the statement by which the dump's own 'gosem.cut.vars' lays the variable. In a bare row this is a premise. The card (YtalnbmpfgmpkbaaDoorCards.lean) ties it to the program's text. -/
def laid_deckle_ham_places {H : Type} : DataW H := .agg [.lit (.int .u8 3), .lit (.int .u8 5), .lit (.int .u8 6), .lit (.int .u8 7), .lit (.int .u8 9), .lit (.int .u8 10), .lit (.int .u8 11), .lit (.int .u8 12), .lit (.int .u8 13), .lit (.int .u8 14), .lit (.int .u8 15), .lit (.int .u8 17), .lit (.int .u8 18), .lit (.int .u8 19), .lit (.int .u8 20), .lit (.int .u8 21), .lit (.int .u8 22), .lit (.int .u8 23), .lit (.int .u8 24), .lit (.int .u8 25), .lit (.int .u8 26), .lit (.int .u8 27), .lit (.int .u8 28), .lit (.int .u8 29), .lit (.int .u8 30), .lit (.int .u8 31), .lit (.int .u8 33), .lit (.int .u8 34), .lit (.int .u8 35), .lit (.int .u8 36), .lit (.int .u8 37), .lit (.int .u8 38), .lit (.int .u8 39), .lit (.int .u8 40), .lit (.int .u8 41), .lit (.int .u8 42), .lit (.int .u8 43), .lit (.int .u8 44), .lit (.int .u8 45), .lit (.int .u8 46), .lit (.int .u8 47), .lit (.int .u8 48), .lit (.int .u8 49), .lit (.int .u8 50), .lit (.int .u8 51), .lit (.int .u8 52), .lit (.int .u8 53), .lit (.int .u8 54), .lit (.int .u8 55), .lit (.int .u8 56), .lit (.int .u8 57), .lit (.int .u8 58), .lit (.int .u8 59), .lit (.int .u8 60), .lit (.int .u8 61), .lit (.int .u8 62), .lit (.int .u8 63), .lit (.int .u8 65), .lit (.int .u8 66), .lit (.int .u8 67), .lit (.int .u8 68), .lit (.int .u8 69), .lit (.int .u8 70), .lit (.int .u8 71)]

/-- 'decklelaw03.HamEncodes': WHATEVER THE INPUT: true; the input reads as it did. -/
def hamEncodesSpec : ChangeSpec := { name := "hamEncodes", fn := fun _ => fun
  | [d] => { results := [.lit (.bool true)], args := [d] }
  | _ => none }
def hamEncodesRow : OpenClaim := { program := "ytalnbmpfgmpkbaadoor", sum := "46ff07a0c5a690991ea85e35f4b437fef060843b9b87afa16f2460b205fc208f", func := "deckle/decklelaw03.HamEncodes", spec := "hamEncodes", named := ["deckle/ham.places"], apart := false, laid := [("deckle/ham.places", laid_deckle_ham_places)] }
def HamEncodesSaid : Prop := hamEncodesRow.holds Tryd.pinned (OpenSpec.ofChange hamEncodesSpec)

/-- ITS FALSE NEIGHBOUR: 'it returns false'. Refute it at one input. -/
def hamEncodesWrong : ChangeSpec := { name := "hamEncodes", fn := fun _ => fun
  | [d] => { results := [.lit (.bool false)], args := [d] }
  | _ => none }
def HamEncodesWrongFalsely : Prop := hamEncodesRow.holds Tryd.pinned (OpenSpec.ofChange hamEncodesWrong)

/-- 'decklelaw03.HamDecodes': WHATEVER THE INPUT: true; the input reads as it did. -/
def hamDecodesSpec : ChangeSpec := { name := "hamDecodes", fn := fun _ => fun
  | [d] => { results := [.lit (.bool true)], args := [d] }
  | _ => none }
def hamDecodesRow : OpenClaim := { program := "ytalnbmpfgmpkbaadoor", sum := "46ff07a0c5a690991ea85e35f4b437fef060843b9b87afa16f2460b205fc208f", func := "deckle/decklelaw03.HamDecodes", spec := "hamDecodes", named := ["deckle/ham.places"], apart := false, laid := [("deckle/ham.places", laid_deckle_ham_places)] }
def HamDecodesSaid : Prop := hamDecodesRow.holds Tryd.pinned (OpenSpec.ofChange hamDecodesSpec)

/-- ITS FALSE NEIGHBOUR: 'it returns false'. Refute it at one input. -/
def hamDecodesWrong : ChangeSpec := { name := "hamDecodes", fn := fun _ => fun
  | [d] => { results := [.lit (.bool false)], args := [d] }
  | _ => none }
def HamDecodesWrongFalsely : Prop := hamDecodesRow.holds Tryd.pinned (OpenSpec.ofChange hamDecodesWrong)

/-- 'decklelaw03.HamBack': WHATEVER THE INPUT: true; the input reads as it did. -/
def hamBackSpec : ChangeSpec := { name := "hamBack", fn := fun _ => fun
  | [d] => { results := [.lit (.bool true)], args := [d] }
  | _ => none }
def hamBackRow : OpenClaim := { program := "ytalnbmpfgmpkbaadoor", sum := "46ff07a0c5a690991ea85e35f4b437fef060843b9b87afa16f2460b205fc208f", func := "deckle/decklelaw03.HamBack", spec := "hamBack", named := ["deckle/ham.places"], apart := false, laid := [("deckle/ham.places", laid_deckle_ham_places)] }
def HamBackSaid : Prop := hamBackRow.holds Tryd.pinned (OpenSpec.ofChange hamBackSpec)

/-- ITS FALSE NEIGHBOUR: 'it returns false'. Refute it at one input. -/
def hamBackWrong : ChangeSpec := { name := "hamBack", fn := fun _ => fun
  | [d] => { results := [.lit (.bool false)], args := [d] }
  | _ => none }
def HamBackWrongFalsely : Prop := hamBackRow.holds Tryd.pinned (OpenSpec.ofChange hamBackWrong)

/-- 'decklelaw03.HamOne': WHATEVER THE INPUT: true; the input reads as it did. -/
def hamOneSpec : ChangeSpec := { name := "hamOne", fn := fun _ => fun
  | [d1, d2] => { results := [.lit (.bool true)], args := [d1, d2] }
  | _ => none }
def hamOneRow : OpenClaim := { program := "ytalnbmpfgmpkbaadoor", sum := "46ff07a0c5a690991ea85e35f4b437fef060843b9b87afa16f2460b205fc208f", func := "deckle/decklelaw03.HamOne", spec := "hamOne", named := ["deckle/ham.places"], apart := false, laid := [("deckle/ham.places", laid_deckle_ham_places)] }
def HamOneSaid : Prop := hamOneRow.holds Tryd.pinned (OpenSpec.ofChange hamOneSpec)

/-- ITS FALSE NEIGHBOUR: 'it returns false'. Refute it at one input. -/
def hamOneWrong : ChangeSpec := { name := "hamOne", fn := fun _ => fun
  | [d1, d2] => { results := [.lit (.bool false)], args := [d1, d2] }
  | _ => none }
def HamOneWrongFalsely : Prop := hamOneRow.holds Tryd.pinned (OpenSpec.ofChange hamOneWrong)

/-- 'decklelaw03.HamTwo': WHATEVER THE INPUT: true; the input reads as it did. -/
def hamTwoSpec : ChangeSpec := { name := "hamTwo", fn := fun _ => fun
  | [d1, d2] => { results := [.lit (.bool true)], args := [d1, d2] }
  | _ => none }
def hamTwoRow : OpenClaim := { program := "ytalnbmpfgmpkbaadoor", sum := "46ff07a0c5a690991ea85e35f4b437fef060843b9b87afa16f2460b205fc208f", func := "deckle/decklelaw03.HamTwo", spec := "hamTwo", named := ["deckle/ham.places"], apart := false, laid := [("deckle/ham.places", laid_deckle_ham_places)] }
def HamTwoSaid : Prop := hamTwoRow.holds Tryd.pinned (OpenSpec.ofChange hamTwoSpec)

/-- ITS FALSE NEIGHBOUR: 'it returns false'. Refute it at one input. -/
def hamTwoWrong : ChangeSpec := { name := "hamTwo", fn := fun _ => fun
  | [d1, d2] => { results := [.lit (.bool false)], args := [d1, d2] }
  | _ => none }
def HamTwoWrongFalsely : Prop := hamTwoRow.holds Tryd.pinned (OpenSpec.ofChange hamTwoWrong)

/-- 'decklelaw03.HamApart': WHATEVER THE INPUT: true; the input reads as it did. -/
def hamApartSpec : ChangeSpec := { name := "hamApart", fn := fun _ => fun
  | [d1, d2] => { results := [.lit (.bool true)], args := [d1, d2] }
  | _ => none }
def hamApartRow : OpenClaim := { program := "ytalnbmpfgmpkbaadoor", sum := "46ff07a0c5a690991ea85e35f4b437fef060843b9b87afa16f2460b205fc208f", func := "deckle/decklelaw03.HamApart", spec := "hamApart", named := ["deckle/ham.places"], apart := false, laid := [("deckle/ham.places", laid_deckle_ham_places)] }
def HamApartSaid : Prop := hamApartRow.holds Tryd.pinned (OpenSpec.ofChange hamApartSpec)

/-- ITS FALSE NEIGHBOUR: 'it returns false'. Refute it at one input. -/
def hamApartWrong : ChangeSpec := { name := "hamApart", fn := fun _ => fun
  | [d1, d2] => { results := [.lit (.bool false)], args := [d1, d2] }
  | _ => none }
def HamApartWrongFalsely : Prop := hamApartRow.holds Tryd.pinned (OpenSpec.ofChange hamApartWrong)

/- THE SECOND FORM. 'bulk': how many values and letters a reading holds, each counted each time it is reached (what is shared counts as often as it is met; a slice's spare places count too). A statement '..UptoSaid' is the law's where the arguments, and the package variables that the reading takes, are together of bulk at most 1048576: NARROWER than '..Said'. Prove '..Said' where nothing that the law and all that it calls make is longer than what came in: it says more and counts as full. Else prove '..UptoSaid'. A law counts once. -/
mutual
def uptoBulk {H : Type} : DataW H → Nat
  | .lit (.string bytes) => bytes.length + 1
  | .lit _ => 1
  | .nil => 1
  | .ptr d => uptoBulk d + 1
  | .slice elems spare => uptoBulkAll elems + uptoBulkAll spare + 1
  | .agg parts => uptoBulkAll parts + 1
  | .iface _ d => uptoBulk d + 1
  | .map entries => uptoBulkEntries entries + 1
  | .held _ => 1
def uptoBulkAll {H : Type} : List (DataW H) → Nat
  | [] => 0
  | d :: r => uptoBulk d + uptoBulkAll r
def uptoBulkEntries {H : Type} : List (Lit × DataW H) → Nat
  | [] => 0
  | x :: r => uptoBulkEntry x + uptoBulkEntries r
def uptoBulkEntry {H : Type} : Lit × DataW H → Nat
  | (.string bytes, d) => bytes.length + uptoBulk d + 1
  | (_, d) => uptoBulk d + 1
 end
def uptoSmall : (H : Type) → List (DataW H) → Bool := fun _ ds => decide (uptoBulkAll ds ≤ 1048576)
def OpenSpec.upto (s : _root_.Go.ChangeSpec) : _root_.Go.OpenSpec := { _root_.Go.OpenSpec.ofChange s with cond := some uptoSmall }

/-- 'decklelaw03.HamEncodes', WHERE WHAT IT READS IS OF BULK AT MOST 1048576: true; the input reads as it did. -/
def hamEncodesUptoRow : OpenClaim := { program := "ytalnbmpfgmpkbaadoor", sum := "46ff07a0c5a690991ea85e35f4b437fef060843b9b87afa16f2460b205fc208f", func := "deckle/decklelaw03.HamEncodes", spec := "hamEncodes", named := ["deckle/ham.places"], apart := false, laid := [("deckle/ham.places", laid_deckle_ham_places)], narrowed := true }
def HamEncodesUptoSaid : Prop := hamEncodesUptoRow.holds Tryd.pinned (OpenSpec.upto hamEncodesSpec)

/-- 'decklelaw03.HamDecodes', WHERE WHAT IT READS IS OF BULK AT MOST 1048576: true; the input reads as it did. -/
def hamDecodesUptoRow : OpenClaim := { program := "ytalnbmpfgmpkbaadoor", sum := "46ff07a0c5a690991ea85e35f4b437fef060843b9b87afa16f2460b205fc208f", func := "deckle/decklelaw03.HamDecodes", spec := "hamDecodes", named := ["deckle/ham.places"], apart := false, laid := [("deckle/ham.places", laid_deckle_ham_places)], narrowed := true }
def HamDecodesUptoSaid : Prop := hamDecodesUptoRow.holds Tryd.pinned (OpenSpec.upto hamDecodesSpec)

/-- 'decklelaw03.HamBack', WHERE WHAT IT READS IS OF BULK AT MOST 1048576: true; the input reads as it did. -/
def hamBackUptoRow : OpenClaim := { program := "ytalnbmpfgmpkbaadoor", sum := "46ff07a0c5a690991ea85e35f4b437fef060843b9b87afa16f2460b205fc208f", func := "deckle/decklelaw03.HamBack", spec := "hamBack", named := ["deckle/ham.places"], apart := false, laid := [("deckle/ham.places", laid_deckle_ham_places)], narrowed := true }
def HamBackUptoSaid : Prop := hamBackUptoRow.holds Tryd.pinned (OpenSpec.upto hamBackSpec)

/-- 'decklelaw03.HamOne', WHERE WHAT IT READS IS OF BULK AT MOST 1048576: true; the input reads as it did. -/
def hamOneUptoRow : OpenClaim := { program := "ytalnbmpfgmpkbaadoor", sum := "46ff07a0c5a690991ea85e35f4b437fef060843b9b87afa16f2460b205fc208f", func := "deckle/decklelaw03.HamOne", spec := "hamOne", named := ["deckle/ham.places"], apart := false, laid := [("deckle/ham.places", laid_deckle_ham_places)], narrowed := true }
def HamOneUptoSaid : Prop := hamOneUptoRow.holds Tryd.pinned (OpenSpec.upto hamOneSpec)

/-- 'decklelaw03.HamTwo', WHERE WHAT IT READS IS OF BULK AT MOST 1048576: true; the input reads as it did. -/
def hamTwoUptoRow : OpenClaim := { program := "ytalnbmpfgmpkbaadoor", sum := "46ff07a0c5a690991ea85e35f4b437fef060843b9b87afa16f2460b205fc208f", func := "deckle/decklelaw03.HamTwo", spec := "hamTwo", named := ["deckle/ham.places"], apart := false, laid := [("deckle/ham.places", laid_deckle_ham_places)], narrowed := true }
def HamTwoUptoSaid : Prop := hamTwoUptoRow.holds Tryd.pinned (OpenSpec.upto hamTwoSpec)

/-- 'decklelaw03.HamApart', WHERE WHAT IT READS IS OF BULK AT MOST 1048576: true; the input reads as it did. -/
def hamApartUptoRow : OpenClaim := { program := "ytalnbmpfgmpkbaadoor", sum := "46ff07a0c5a690991ea85e35f4b437fef060843b9b87afa16f2460b205fc208f", func := "deckle/decklelaw03.HamApart", spec := "hamApart", named := ["deckle/ham.places"], apart := false, laid := [("deckle/ham.places", laid_deckle_ham_places)], narrowed := true }
def HamApartUptoSaid : Prop := hamApartUptoRow.holds Tryd.pinned (OpenSpec.upto hamApartSpec)

end Rows
end Go.Proofs.YtalnbmpfgmpkbaaDoor
