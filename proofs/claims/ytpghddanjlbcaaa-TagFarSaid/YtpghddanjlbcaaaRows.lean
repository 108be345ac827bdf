/-
  No cell of these rows narrows 'for every input' (looked for: loops, veiled, ifaces, maps, wideKeys, modest, calm, conditions, laid).
  DERIVED. THE GIVEN ROWS OF THIS SEAT. 4 by the template 'for every input the law returns true; each argument reads behind the call as it read before'; 0 by the template 'total and deterministic' (their statements: YtpghddanjlbcaaaTotals.lean).
  GIVEN WITH THE SEED: the statements are not yours to turn. If you find one false, say at which input.
  Laid BY PROGRAM, IN A SANDBOX (cutbox-rows.mjs): the forced cells as the released guide's own fill.sh prints them over the translation 75f0d9f20e6303e6… (all of the seat's roots in one cut). By AI agents, Wed Nov 11 2026. No macro, syntax, notation, axiom, sorry.
-/
import Derived.Test.YtpghddanjlbcaaaChecked
import GoSem.Claim
import GoSem.ClaimJoined
import GoSem.ClaimMapViews
import Derived.JoinedTies
import Derived.KernelRfl
namespace Go.Proofs.Ytpghddanjlbcaaa
/- THE CELL 'sum', in the pinned program and in every row, IS THE sha256 OF THE DUMP (.gsa) THAT YtpghddanjlbcaaaProg.lean LOADS. Nothing in Lean hashes anything: it is a label: what it is worth is what the hold of that sum in a sandbox is worth. -/
noncomputable def Try.pinned : Pinned := { name := "ytpghddanjlbcaaa", sum := "75f0d9f20e6303e6ebe45a95f8982c66ec58063834998fdcfe1f8ce56f1c0ecb", checked := Try.checked }
namespace Rows
def none {H : Type} : Left H := { results := [], args := [] }

/-- 'decklelaw04.TagOne': WHATEVER THE INPUT: true; the input reads as it did. -/
def tagOneSpec : ChangeSpec := { name := "tagOne", fn := fun _ => fun
  | [d1, d2] => { results := [.lit (.bool true)], args := [d1, d2] }
  | _ => none }
def tagOneRow : OpenClaim := { program := "ytpghddanjlbcaaa", sum := "75f0d9f20e6303e6ebe45a95f8982c66ec58063834998fdcfe1f8ce56f1c0ecb", func := "deckle/decklelaw04.TagOne", spec := "tagOne", inPlace := ["internal/abi.NoEscape"], apart := false }
def TagOneSaid : Prop := tagOneRow.holds Try.pinned (OpenSpec.ofChange tagOneSpec)

/-- ITS FALSE NEIGHBOUR: 'it returns false'. Refute it at one input. -/
def tagOneWrong : ChangeSpec := { name := "tagOne", fn := fun _ => fun
  | [d1, d2] => { results := [.lit (.bool false)], args := [d1, d2] }
  | _ => none }
def TagOneWrongFalsely : Prop := tagOneRow.holds Try.pinned (OpenSpec.ofChange tagOneWrong)

/-- 'decklelaw04.TagFar': WHATEVER THE INPUT: true; the input reads as it did. -/
def tagFarSpec : ChangeSpec := { name := "tagFar", fn := fun _ => fun
  | [d] => { results := [.lit (.bool true)], args := [d] }
  | _ => none }
def tagFarRow : OpenClaim := { program := "ytpghddanjlbcaaa", sum := "75f0d9f20e6303e6ebe45a95f8982c66ec58063834998fdcfe1f8ce56f1c0ecb", func := "deckle/decklelaw04.TagFar", spec := "tagFar", inPlace := ["internal/abi.NoEscape"], apart := false }
def TagFarSaid : Prop := tagFarRow.holds Try.pinned (OpenSpec.ofChange tagFarSpec)

/-- ITS FALSE NEIGHBOUR: 'it returns false'. Refute it at one input. -/
def tagFarWrong : ChangeSpec := { name := "tagFar", fn := fun _ => fun
  | [d] => { results := [.lit (.bool false)], args := [d] }
  | _ => none }
def TagFarWrongFalsely : Prop := tagFarRow.holds Try.pinned (OpenSpec.ofChange tagFarWrong)

/-- 'decklelaw04.TagWrites': WHATEVER THE INPUT: true; the input reads as it did. -/
def tagWritesSpec : ChangeSpec := { name := "tagWrites", fn := fun _ => fun
  | [d1, d2] => { results := [.lit (.bool true)], args := [d1, d2] }
  | _ => none }
def tagWritesRow : OpenClaim := { program := "ytpghddanjlbcaaa", sum := "75f0d9f20e6303e6ebe45a95f8982c66ec58063834998fdcfe1f8ce56f1c0ecb", func := "deckle/decklelaw04.TagWrites", spec := "tagWrites", inPlace := ["internal/abi.NoEscape"], apart := false }
def TagWritesSaid : Prop := tagWritesRow.holds Try.pinned (OpenSpec.ofChange tagWritesSpec)

/-- ITS FALSE NEIGHBOUR: 'it returns false'. Refute it at one input. -/
def tagWritesWrong : ChangeSpec := { name := "tagWrites", fn := fun _ => fun
  | [d1, d2] => { results := [.lit (.bool false)], args := [d1, d2] }
  | _ => none }
def TagWritesWrongFalsely : Prop := tagWritesRow.holds Try.pinned (OpenSpec.ofChange tagWritesWrong)

/-- 'decklelaw04.TagBack': WHATEVER THE INPUT: true; the input reads as it did. -/
def tagBackSpec : ChangeSpec := { name := "tagBack", fn := fun _ => fun
  | [d1, d2] => { results := [.lit (.bool true)], args := [d1, d2] }
  | _ => none }
def tagBackRow : OpenClaim := { program := "ytpghddanjlbcaaa", sum := "75f0d9f20e6303e6ebe45a95f8982c66ec58063834998fdcfe1f8ce56f1c0ecb", func := "deckle/decklelaw04.TagBack", spec := "tagBack", inPlace := ["internal/abi.NoEscape"], apart := false }
def TagBackSaid : Prop := tagBackRow.holds Try.pinned (OpenSpec.ofChange tagBackSpec)

/-- ITS FALSE NEIGHBOUR: 'it returns false'. Refute it at one input. -/
def tagBackWrong : ChangeSpec := { name := "tagBack", fn := fun _ => fun
  | [d1, d2] => { results := [.lit (.bool false)], args := [d1, d2] }
  | _ => none }
def TagBackWrongFalsely : Prop := tagBackRow.holds Try.pinned (OpenSpec.ofChange tagBackWrong)

/- THE SECOND FORM. 'bulk': how many values and letters a reading holds, each counted each time it is reached (what is shared counts as often as it is met; a slice's spare places count too). A statement '..UptoSaid' is the law's where the arguments, and the package variables that the reading takes, are together of bulk at most 1048576: NARROWER than '..Said'. Prove '..Said' where nothing that the law and all that it calls make is longer than what came in: it says more and counts as full. Else prove '..UptoSaid'. A law counts once. -/
mutual
def uptoBulk {H : Type} : DataW H → Nat
  | .lit (.string bytes) => bytes.length + 1
  | .lit _ => 1
  | .nil => 1
  | .ptr d => uptoBulk d + 1
  | .slice elems spare => uptoBulkAll elems + uptoBulkAll spare + 1
  | .agg parts => uptoBulkAll parts + 1
  | .iface _ d => uptoBulk d + 1
  | .map entries => uptoBulkEntries entries + 1
  | .held _ => 1
def uptoBulkAll {H : Type} : List (DataW H) → Nat
  | [] => 0
  | d :: r => uptoBulk d + uptoBulkAll r
def uptoBulkEntries {H : Type} : List (Lit × DataW H) → Nat
  | [] => 0
  | x :: r => uptoBulkEntry x + uptoBulkEntries r
def uptoBulkEntry {H : Type} : Lit × DataW H → Nat
  | (.string bytes, d) => bytes.length + uptoBulk d + 1
  | (_, d) => uptoBulk d + 1
 end
def uptoSmall : (H : Type) → List (DataW H) → Bool := fun _ ds => decide (uptoBulkAll ds ≤ 1048576)
def OpenSpec.upto (s : _root_.Go.ChangeSpec) : _root_.Go.OpenSpec := { _root_.Go.OpenSpec.ofChange s with cond := some uptoSmall }

/-- 'decklelaw04.TagOne', WHERE WHAT IT READS IS OF BULK AT MOST 1048576: true; the input reads as it did. -/
def tagOneUptoRow : OpenClaim := { program := "ytpghddanjlbcaaa", sum := "75f0d9f20e6303e6ebe45a95f8982c66ec58063834998fdcfe1f8ce56f1c0ecb", func := "deckle/decklelaw04.TagOne", spec := "tagOne", inPlace := ["internal/abi.NoEscape"], apart := false, narrowed := true }
def TagOneUptoSaid : Prop := tagOneUptoRow.holds Try.pinned (OpenSpec.upto tagOneSpec)

/-- 'decklelaw04.TagFar', WHERE WHAT IT READS IS OF BULK AT MOST 1048576: true; the input reads as it did. -/
def tagFarUptoRow : OpenClaim := { program := "ytpghddanjlbcaaa", sum := "75f0d9f20e6303e6ebe45a95f8982c66ec58063834998fdcfe1f8ce56f1c0ecb", func := "deckle/decklelaw04.TagFar", spec := "tagFar", inPlace := ["internal/abi.NoEscape"], apart := false, narrowed := true }
def TagFarUptoSaid : Prop := tagFarUptoRow.holds Try.pinned (OpenSpec.upto tagFarSpec)

/-- 'decklelaw04.TagWrites', WHERE WHAT IT READS IS OF BULK AT MOST 1048576: true; the input reads as it did. -/
def tagWritesUptoRow : OpenClaim := { program := "ytpghddanjlbcaaa", sum := "75f0d9f20e6303e6ebe45a95f8982c66ec58063834998fdcfe1f8ce56f1c0ecb", func := "deckle/decklelaw04.TagWrites", spec := "tagWrites", inPlace := ["internal/abi.NoEscape"], apart := false, narrowed := true }
def TagWritesUptoSaid : Prop := tagWritesUptoRow.holds Try.pinned (OpenSpec.upto tagWritesSpec)

/-- 'decklelaw04.TagBack', WHERE WHAT IT READS IS OF BULK AT MOST 1048576: true; the input reads as it did. -/
def tagBackUptoRow : OpenClaim := { program := "ytpghddanjlbcaaa", sum := "75f0d9f20e6303e6ebe45a95f8982c66ec58063834998fdcfe1f8ce56f1c0ecb", func := "deckle/decklelaw04.TagBack", spec := "tagBack", inPlace := ["internal/abi.NoEscape"], apart := false, narrowed := true }
def TagBackUptoSaid : Prop := tagBackUptoRow.holds Try.pinned (OpenSpec.upto tagBackSpec)

end Rows
end Go.Proofs.Ytpghddanjlbcaaa
