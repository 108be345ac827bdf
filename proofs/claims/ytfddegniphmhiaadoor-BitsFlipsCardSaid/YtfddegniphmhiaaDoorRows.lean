/-
  NARROWER THAN 'FOR EVERY INPUT', by the rows' own cells (each row's printed sentence says how): BitsSigns: laid · BitsNarrows: laid · BitsTurns: laid · BitsFlips: laid · BitsTwice: laid · BitsPuts: laid · BitsBack: laid.
  DERIVED. THE GIVEN ROWS OF THIS SEAT. 7 by the template 'for every input the law returns true; each argument reads behind the call as it read before'; 0 by the template 'total and deterministic' (their statements: YtfddegniphmhiaaDoorTotals.lean).
  GIVEN WITH THE SEED: the statements are not yours to turn. If you find one false, say at which input.
  Laid BY PROGRAM, IN A SANDBOX (cutbox-rows.mjs): the forced cells as the released guide's own fill.sh prints them over the translation 29d1950a6b779aaf… (all of the seat's roots in one cut). By AI agents, Wed Nov 11 2026. No macro, syntax, notation, axiom, sorry.
-/
import Derived.Test.YtfddegniphmhiaaDoorChecked
import GoSem.Claim
import GoSem.ClaimJoined
import GoSem.ClaimMapViews
import Derived.JoinedTies
import Derived.KernelRfl
namespace Go.Proofs.YtfddegniphmhiaaDoor
/- THE CELL 'sum', in the pinned program and in every row, IS THE sha256 OF THE DUMP (.gsa) THAT YtfddegniphmhiaaDoorProg.lean LOADS. Nothing in Lean hashes anything: it is a label: what it is worth is what the hold of that sum in a sandbox is worth. -/
noncomputable def Tryd.pinned : Pinned := { name := "ytfddegniphmhiaadoor", sum := "29d1950a6b779aaf275e45a6b9854dcdfbf21cd14b458ed6b5830e434f19ea91", checked := Tryd.checked }
namespace Rows
def none {H : Type} : Left H := { results := [], args := [] }

/- WHAT THE LISTED PACKAGE-LEVEL VARIABLES READ AS WHEN THE CALL BEGINS. Each datum BY PROGRAM (the guide's laid-datum.mjs) off the statement by which the dump's own 'gosem.cut.vars' lays the variable. In a bare row this is a premise. The card (YtfddegniphmhiaaDoorCards.lean) ties it to the program's text. -/
def laid_deckle_bits_clear {H : Type} : DataW H := .agg [.lit (.int .i64 4), .lit (.int .i64 3), .lit (.int .i64 3), .lit (.int .i64 2), .lit (.int .i64 3), .lit (.int .i64 2), .lit (.int .i64 2), .lit (.int .i64 1), .lit (.int .i64 3), .lit (.int .i64 2), .lit (.int .i64 2), .lit (.int .i64 1), .lit (.int .i64 2), .lit (.int .i64 1), .lit (.int .i64 1), .lit (.int .i64 0)]

/-- 'decklelaw01.BitsSigns': WHATEVER THE INPUT: true; the input reads as it did. -/
def bitsSignsSpec : ChangeSpec := { name := "bitsSigns", fn := fun _ => fun
  | [d1, d2, d3] => { results := [.lit (.bool true)], args := [d1, d2, d3] }
  | _ => none }
def bitsSignsRow : OpenClaim := { program := "ytfddegniphmhiaadoor", sum := "29d1950a6b779aaf275e45a6b9854dcdfbf21cd14b458ed6b5830e434f19ea91", func := "deckle/decklelaw01.BitsSigns", spec := "bitsSigns", inPlace := ["internal/abi.NoEscape"], named := ["deckle/bits.clear"], apart := false, laid := [("deckle/bits.clear", laid_deckle_bits_clear)] }
def BitsSignsSaid : Prop := bitsSignsRow.holds Tryd.pinned (OpenSpec.ofChange bitsSignsSpec)

/-- ITS FALSE NEIGHBOUR: 'it returns false'. Refute it at one input. -/
def bitsSignsWrong : ChangeSpec := { name := "bitsSigns", fn := fun _ => fun
  | [d1, d2, d3] => { results := [.lit (.bool false)], args := [d1, d2, d3] }
  | _ => none }
def BitsSignsWrongFalsely : Prop := bitsSignsRow.holds Tryd.pinned (OpenSpec.ofChange bitsSignsWrong)

/-- 'decklelaw01.BitsNarrows': WHATEVER THE INPUT: true; the input reads as it did. -/
def bitsNarrowsSpec : ChangeSpec := { name := "bitsNarrows", fn := fun _ => fun
  | [d1, d2] => { results := [.lit (.bool true)], args := [d1, d2] }
  | _ => none }
def bitsNarrowsRow : OpenClaim := { program := "ytfddegniphmhiaadoor", sum := "29d1950a6b779aaf275e45a6b9854dcdfbf21cd14b458ed6b5830e434f19ea91", func := "deckle/decklelaw01.BitsNarrows", spec := "bitsNarrows", inPlace := ["internal/abi.NoEscape"], named := ["deckle/bits.clear"], apart := false, laid := [("deckle/bits.clear", laid_deckle_bits_clear)] }
def BitsNarrowsSaid : Prop := bitsNarrowsRow.holds Tryd.pinned (OpenSpec.ofChange bitsNarrowsSpec)

/-- ITS FALSE NEIGHBOUR: 'it returns false'. Refute it at one input. -/
def bitsNarrowsWrong : ChangeSpec := { name := "bitsNarrows", fn := fun _ => fun
  | [d1, d2] => { results := [.lit (.bool false)], args := [d1, d2] }
  | _ => none }
def BitsNarrowsWrongFalsely : Prop := bitsNarrowsRow.holds Tryd.pinned (OpenSpec.ofChange bitsNarrowsWrong)

/-- 'decklelaw01.BitsTurns': WHATEVER THE INPUT: true; the input reads as it did. -/
def bitsTurnsSpec : ChangeSpec := { name := "bitsTurns", fn := fun _ => fun
  | [d1, d2, d3] => { results := [.lit (.bool true)], args := [d1, d2, d3] }
  | _ => none }
def bitsTurnsRow : OpenClaim := { program := "ytfddegniphmhiaadoor", sum := "29d1950a6b779aaf275e45a6b9854dcdfbf21cd14b458ed6b5830e434f19ea91", func := "deckle/decklelaw01.BitsTurns", spec := "bitsTurns", inPlace := ["internal/abi.NoEscape"], named := ["deckle/bits.clear"], apart := false, laid := [("deckle/bits.clear", laid_deckle_bits_clear)] }
def BitsTurnsSaid : Prop := bitsTurnsRow.holds Tryd.pinned (OpenSpec.ofChange bitsTurnsSpec)

/-- ITS FALSE NEIGHBOUR: 'it returns false'. Refute it at one input. -/
def bitsTurnsWrong : ChangeSpec := { name := "bitsTurns", fn := fun _ => fun
  | [d1, d2, d3] => { results := [.lit (.bool false)], args := [d1, d2, d3] }
  | _ => none }
def BitsTurnsWrongFalsely : Prop := bitsTurnsRow.holds Tryd.pinned (OpenSpec.ofChange bitsTurnsWrong)

/-- 'decklelaw01.BitsFlips': WHATEVER THE INPUT: true; the input reads as it did. -/
def bitsFlipsSpec : ChangeSpec := { name := "bitsFlips", fn := fun _ => fun
  | [d1, d2] => { results := [.lit (.bool true)], args := [d1, d2] }
  | _ => none }
def bitsFlipsRow : OpenClaim := { program := "ytfddegniphmhiaadoor", sum := "29d1950a6b779aaf275e45a6b9854dcdfbf21cd14b458ed6b5830e434f19ea91", func := "deckle/decklelaw01.BitsFlips", spec := "bitsFlips", inPlace := ["internal/abi.NoEscape"], named := ["deckle/bits.clear"], apart := false, laid := [("deckle/bits.clear", laid_deckle_bits_clear)] }
def BitsFlipsSaid : Prop := bitsFlipsRow.holds Tryd.pinned (OpenSpec.ofChange bitsFlipsSpec)

/-- ITS FALSE NEIGHBOUR: 'it returns false'. Refute it at one input. -/
def bitsFlipsWrong : ChangeSpec := { name := "bitsFlips", fn := fun _ => fun
  | [d1, d2] => { results := [.lit (.bool false)], args := [d1, d2] }
  | _ => none }
def BitsFlipsWrongFalsely : Prop := bitsFlipsRow.holds Tryd.pinned (OpenSpec.ofChange bitsFlipsWrong)

/-- 'decklelaw01.BitsTwice': WHATEVER THE INPUT: true; the input reads as it did. -/
def bitsTwiceSpec : ChangeSpec := { name := "bitsTwice", fn := fun _ => fun
  | [d1, d2, d3] => { results := [.lit (.bool true)], args := [d1, d2, d3] }
  | _ => none }
def bitsTwiceRow : OpenClaim := { program := "ytfddegniphmhiaadoor", sum := "29d1950a6b779aaf275e45a6b9854dcdfbf21cd14b458ed6b5830e434f19ea91", func := "deckle/decklelaw01.BitsTwice", spec := "bitsTwice", inPlace := ["internal/abi.NoEscape"], named := ["deckle/bits.clear"], apart := false, laid := [("deckle/bits.clear", laid_deckle_bits_clear)] }
def BitsTwiceSaid : Prop := bitsTwiceRow.holds Tryd.pinned (OpenSpec.ofChange bitsTwiceSpec)

/-- ITS FALSE NEIGHBOUR: 'it returns false'. Refute it at one input. -/
def bitsTwiceWrong : ChangeSpec := { name := "bitsTwice", fn := fun _ => fun
  | [d1, d2, d3] => { results := [.lit (.bool false)], args := [d1, d2, d3] }
  | _ => none }
def BitsTwiceWrongFalsely : Prop := bitsTwiceRow.holds Tryd.pinned (OpenSpec.ofChange bitsTwiceWrong)

/-- 'decklelaw01.BitsPuts': WHATEVER THE INPUT: true; the input reads as it did. -/
def bitsPutsSpec : ChangeSpec := { name := "bitsPuts", fn := fun _ => fun
  | [d1, d2, d3] => { results := [.lit (.bool true)], args := [d1, d2, d3] }
  | _ => none }
def bitsPutsRow : OpenClaim := { program := "ytfddegniphmhiaadoor", sum := "29d1950a6b779aaf275e45a6b9854dcdfbf21cd14b458ed6b5830e434f19ea91", func := "deckle/decklelaw01.BitsPuts", spec := "bitsPuts", inPlace := ["internal/abi.NoEscape"], named := ["deckle/bits.clear"], apart := false, laid := [("deckle/bits.clear", laid_deckle_bits_clear)] }
def BitsPutsSaid : Prop := bitsPutsRow.holds Tryd.pinned (OpenSpec.ofChange bitsPutsSpec)

/-- ITS FALSE NEIGHBOUR: 'it returns false'. Refute it at one input. -/
def bitsPutsWrong : ChangeSpec := { name := "bitsPuts", fn := fun _ => fun
  | [d1, d2, d3] => { results := [.lit (.bool false)], args := [d1, d2, d3] }
  | _ => none }
def BitsPutsWrongFalsely : Prop := bitsPutsRow.holds Tryd.pinned (OpenSpec.ofChange bitsPutsWrong)

/-- 'decklelaw01.BitsBack': WHATEVER THE INPUT: true; the input reads as it did. -/
def bitsBackSpec : ChangeSpec := { name := "bitsBack", fn := fun _ => fun
  | [d1, d2, d3] => { results := [.lit (.bool true)], args := [d1, d2, d3] }
  | _ => none }
def bitsBackRow : OpenClaim := { program := "ytfddegniphmhiaadoor", sum := "29d1950a6b779aaf275e45a6b9854dcdfbf21cd14b458ed6b5830e434f19ea91", func := "deckle/decklelaw01.BitsBack", spec := "bitsBack", inPlace := ["internal/abi.NoEscape"], named := ["deckle/bits.clear"], apart := false, laid := [("deckle/bits.clear", laid_deckle_bits_clear)] }
def BitsBackSaid : Prop := bitsBackRow.holds Tryd.pinned (OpenSpec.ofChange bitsBackSpec)

/-- ITS FALSE NEIGHBOUR: 'it returns false'. Refute it at one input. -/
def bitsBackWrong : ChangeSpec := { name := "bitsBack", fn := fun _ => fun
  | [d1, d2, d3] => { results := [.lit (.bool false)], args := [d1, d2, d3] }
  | _ => none }
def BitsBackWrongFalsely : Prop := bitsBackRow.holds Tryd.pinned (OpenSpec.ofChange bitsBackWrong)

/- THE SECOND FORM. 'bulk': how many values and letters a reading holds, each counted each time it is reached (what is shared counts as often as it is met; a slice's spare places count too). A statement '..UptoSaid' is the law's where the arguments, and the package variables that the reading takes, are together of bulk at most 1048576: NARROWER than '..Said'. Prove '..Said' where nothing that the law and all that it calls make is longer than what came in: it says more and counts as full. Else prove '..UptoSaid'. A law counts once. -/
mutual
def uptoBulk {H : Type} : DataW H → Nat
  | .lit (.string bytes) => bytes.length + 1
  | .lit _ => 1
  | .nil => 1
  | .ptr d => uptoBulk d + 1
  | .slice elems spare => uptoBulkAll elems + uptoBulkAll spare + 1
  | .agg parts => uptoBulkAll parts + 1
  | .iface _ d => uptoBulk d + 1
  | .map entries => uptoBulkEntries entries + 1
  | .held _ => 1
def uptoBulkAll {H : Type} : List (DataW H) → Nat
  | [] => 0
  | d :: r => uptoBulk d + uptoBulkAll r
def uptoBulkEntries {H : Type} : List (Lit × DataW H) → Nat
  | [] => 0
  | x :: r => uptoBulkEntry x + uptoBulkEntries r
def uptoBulkEntry {H : Type} : Lit × DataW H → Nat
  | (.string bytes, d) => bytes.length + uptoBulk d + 1
  | (_, d) => uptoBulk d + 1
 end
def uptoSmall : (H : Type) → List (DataW H) → Bool := fun _ ds => decide (uptoBulkAll ds ≤ 1048576)
def OpenSpec.upto (s : _root_.Go.ChangeSpec) : _root_.Go.OpenSpec := { _root_.Go.OpenSpec.ofChange s with cond := some uptoSmall }

/-- 'decklelaw01.BitsSigns', WHERE WHAT IT READS IS OF BULK AT MOST 1048576: true; the input reads as it did. -/
def bitsSignsUptoRow : OpenClaim := { program := "ytfddegniphmhiaadoor", sum := "29d1950a6b779aaf275e45a6b9854dcdfbf21cd14b458ed6b5830e434f19ea91", func := "deckle/decklelaw01.BitsSigns", spec := "bitsSigns", inPlace := ["internal/abi.NoEscape"], named := ["deckle/bits.clear"], apart := false, laid := [("deckle/bits.clear", laid_deckle_bits_clear)], narrowed := true }
def BitsSignsUptoSaid : Prop := bitsSignsUptoRow.holds Tryd.pinned (OpenSpec.upto bitsSignsSpec)

/-- 'decklelaw01.BitsNarrows', WHERE WHAT IT READS IS OF BULK AT MOST 1048576: true; the input reads as it did. -/
def bitsNarrowsUptoRow : OpenClaim := { program := "ytfddegniphmhiaadoor", sum := "29d1950a6b779aaf275e45a6b9854dcdfbf21cd14b458ed6b5830e434f19ea91", func := "deckle/decklelaw01.BitsNarrows", spec := "bitsNarrows", inPlace := ["internal/abi.NoEscape"], named := ["deckle/bits.clear"], apart := false, laid := [("deckle/bits.clear", laid_deckle_bits_clear)], narrowed := true }
def BitsNarrowsUptoSaid : Prop := bitsNarrowsUptoRow.holds Tryd.pinned (OpenSpec.upto bitsNarrowsSpec)

/-- 'decklelaw01.BitsTurns', WHERE WHAT IT READS IS OF BULK AT MOST 1048576: true; the input reads as it did. -/
def bitsTurnsUptoRow : OpenClaim := { program := "ytfddegniphmhiaadoor", sum := "29d1950a6b779aaf275e45a6b9854dcdfbf21cd14b458ed6b5830e434f19ea91", func := "deckle/decklelaw01.BitsTurns", spec := "bitsTurns", inPlace := ["internal/abi.NoEscape"], named := ["deckle/bits.clear"], apart := false, laid := [("deckle/bits.clear", laid_deckle_bits_clear)], narrowed := true }
def BitsTurnsUptoSaid : Prop := bitsTurnsUptoRow.holds Tryd.pinned (OpenSpec.upto bitsTurnsSpec)

/-- 'decklelaw01.BitsFlips', WHERE WHAT IT READS IS OF BULK AT MOST 1048576: true; the input reads as it did. -/
def bitsFlipsUptoRow : OpenClaim := { program := "ytfddegniphmhiaadoor", sum := "29d1950a6b779aaf275e45a6b9854dcdfbf21cd14b458ed6b5830e434f19ea91", func := "deckle/decklelaw01.BitsFlips", spec := "bitsFlips", inPlace := ["internal/abi.NoEscape"], named := ["deckle/bits.clear"], apart := false, laid := [("deckle/bits.clear", laid_deckle_bits_clear)], narrowed := true }
def BitsFlipsUptoSaid : Prop := bitsFlipsUptoRow.holds Tryd.pinned (OpenSpec.upto bitsFlipsSpec)

/-- 'decklelaw01.BitsTwice', WHERE WHAT IT READS IS OF BULK AT MOST 1048576: true; the input reads as it did. -/
def bitsTwiceUptoRow : OpenClaim := { program := "ytfddegniphmhiaadoor", sum := "29d1950a6b779aaf275e45a6b9854dcdfbf21cd14b458ed6b5830e434f19ea91", func := "deckle/decklelaw01.BitsTwice", spec := "bitsTwice", inPlace := ["internal/abi.NoEscape"], named := ["deckle/bits.clear"], apart := false, laid := [("deckle/bits.clear", laid_deckle_bits_clear)], narrowed := true }
def BitsTwiceUptoSaid : Prop := bitsTwiceUptoRow.holds Tryd.pinned (OpenSpec.upto bitsTwiceSpec)

/-- 'decklelaw01.BitsPuts', WHERE WHAT IT READS IS OF BULK AT MOST 1048576: true; the input reads as it did. -/
def bitsPutsUptoRow : OpenClaim := { program := "ytfddegniphmhiaadoor", sum := "29d1950a6b779aaf275e45a6b9854dcdfbf21cd14b458ed6b5830e434f19ea91", func := "deckle/decklelaw01.BitsPuts", spec := "bitsPuts", inPlace := ["internal/abi.NoEscape"], named := ["deckle/bits.clear"], apart := false, laid := [("deckle/bits.clear", laid_deckle_bits_clear)], narrowed := true }
def BitsPutsUptoSaid : Prop := bitsPutsUptoRow.holds Tryd.pinned (OpenSpec.upto bitsPutsSpec)

/-- 'decklelaw01.BitsBack', WHERE WHAT IT READS IS OF BULK AT MOST 1048576: true; the input reads as it did. -/
def bitsBackUptoRow : OpenClaim := { program := "ytfddegniphmhiaadoor", sum := "29d1950a6b779aaf275e45a6b9854dcdfbf21cd14b458ed6b5830e434f19ea91", func := "deckle/decklelaw01.BitsBack", spec := "bitsBack", inPlace := ["internal/abi.NoEscape"], named := ["deckle/bits.clear"], apart := false, laid := [("deckle/bits.clear", laid_deckle_bits_clear)], narrowed := true }
def BitsBackUptoSaid : Prop := bitsBackUptoRow.holds Tryd.pinned (OpenSpec.upto bitsBackSpec)

end Rows
end Go.Proofs.YtfddegniphmhiaaDoor
