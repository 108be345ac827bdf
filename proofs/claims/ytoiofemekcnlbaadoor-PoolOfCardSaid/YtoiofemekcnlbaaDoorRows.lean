/-
  NARROWER THAN 'FOR EVERY INPUT', by the rows' own cells (each row's printed sentence says how): PoolOne: laid · PoolPlays: laid · PoolBad: laid · PoolOf: laid.
  DERIVED. THE GIVEN ROWS OF THIS SEAT. 4 by the template 'for every input the law returns true; each argument reads behind the call as it read before'; 0 by the template 'total and deterministic' (their statements: YtoiofemekcnlbaaDoorTotals.lean).
  GIVEN WITH THE SEED: the statements are not yours to turn. If you find one false, say at which input.
  Laid BY PROGRAM, IN A SANDBOX (cutbox-rows.mjs): the forced cells as the released guide's own fill.sh prints them over the translation c1357f8a30d93443… (all of the seat's roots in one cut). By AI agents, Wed Nov 11 2026. No macro, syntax, notation, axiom, sorry.
-/
import Derived.Test.YtoiofemekcnlbaaDoorChecked
import GoSem.Claim
import GoSem.ClaimJoined
import GoSem.ClaimMapViews
import Derived.JoinedTies
import Derived.KernelRfl
namespace Go.Proofs.YtoiofemekcnlbaaDoor
/- THE CELL 'sum', in the pinned program and in every row, IS THE sha256 OF THE DUMP (.gsa) THAT YtoiofemekcnlbaaDoorProg.lean LOADS. Nothing in Lean hashes anything: it is a label: what it is worth is what the hold of that sum in a sandbox is worth. -/
noncomputable def Tryd.pinned : Pinned := { name := "ytoiofemekcnlbaadoor", sum := "c1357f8a30d93443a05b110becea0741b8145b7a1a19035caefcdc84429cd08c", checked := Tryd.checked }
namespace Rows
def none {H : Type} : Left H := { results := [], args := [] }

/- WHAT THE LISTED PACKAGE-LEVEL VARIABLES READ AS WHEN THE CALL BEGINS. Each datum BY PROGRAM (the guide's laid-datum.mjs) off the statement by which the dump's own 'gosem.cut.vars' lays the variable. In a bare row this is a premise. The card (YtoiofemekcnlbaaDoorCards.lean) ties it to the program's text. -/
def laid_deckle_pool_may {H : Type} : DataW H := .agg [.agg [.lit (.bool false), .lit (.bool true), .lit (.bool false), .lit (.bool true), .lit (.bool true), .lit (.bool false), .lit (.bool true)], .agg [.lit (.bool false), .lit (.bool false), .lit (.bool true), .lit (.bool false), .lit (.bool false), .lit (.bool true), .lit (.bool true)], .agg [.lit (.bool false), .lit (.bool false), .lit (.bool false), .lit (.bool false), .lit (.bool false), .lit (.bool true), .lit (.bool true)], .agg [.lit (.bool false), .lit (.bool false), .lit (.bool false), .lit (.bool false), .lit (.bool false), .lit (.bool true), .lit (.bool true)], .agg [.lit (.bool false), .lit (.bool false), .lit (.bool true), .lit (.bool false), .lit (.bool false), .lit (.bool true), .lit (.bool true)], .agg [.lit (.bool true), .lit (.bool false), .lit (.bool false), .lit (.bool false), .lit (.bool false), .lit (.bool false), .lit (.bool true)], .agg [.lit (.bool false), .lit (.bool false), .lit (.bool false), .lit (.bool false), .lit (.bool false), .lit (.bool false), .lit (.bool false)]]

/-- 'decklelaw21.PoolOne': WHATEVER THE INPUT: true; the input reads as it did. -/
def poolOneSpec : ChangeSpec := { name := "poolOne", fn := fun _ => fun
  | [d1, d2] => { results := [.lit (.bool true)], args := [d1, d2] }
  | _ => none }
def poolOneRow : OpenClaim := { program := "ytoiofemekcnlbaadoor", sum := "c1357f8a30d93443a05b110becea0741b8145b7a1a19035caefcdc84429cd08c", func := "deckle/decklelaw21.PoolOne", spec := "poolOne", named := ["deckle/pool.may"], apart := false, laid := [("deckle/pool.may", laid_deckle_pool_may)] }
def PoolOneSaid : Prop := poolOneRow.holds Tryd.pinned (OpenSpec.ofChange poolOneSpec)

/-- ITS FALSE NEIGHBOUR: 'it returns false'. Refute it at one input. -/
def poolOneWrong : ChangeSpec := { name := "poolOne", fn := fun _ => fun
  | [d1, d2] => { results := [.lit (.bool false)], args := [d1, d2] }
  | _ => none }
def PoolOneWrongFalsely : Prop := poolOneRow.holds Tryd.pinned (OpenSpec.ofChange poolOneWrong)

/-- 'decklelaw21.PoolPlays': WHATEVER THE INPUT: true; the input reads as it did. -/
def poolPlaysSpec : ChangeSpec := { name := "poolPlays", fn := fun _ => fun
  | [d1, d2, d3] => { results := [.lit (.bool true)], args := [d1, d2, d3] }
  | _ => none }
def poolPlaysRow : OpenClaim := { program := "ytoiofemekcnlbaadoor", sum := "c1357f8a30d93443a05b110becea0741b8145b7a1a19035caefcdc84429cd08c", func := "deckle/decklelaw21.PoolPlays", spec := "poolPlays", named := ["deckle/pool.may"], apart := false, laid := [("deckle/pool.may", laid_deckle_pool_may)] }
def PoolPlaysSaid : Prop := poolPlaysRow.holds Tryd.pinned (OpenSpec.ofChange poolPlaysSpec)

/-- ITS FALSE NEIGHBOUR: 'it returns false'. Refute it at one input. -/
def poolPlaysWrong : ChangeSpec := { name := "poolPlays", fn := fun _ => fun
  | [d1, d2, d3] => { results := [.lit (.bool false)], args := [d1, d2, d3] }
  | _ => none }
def PoolPlaysWrongFalsely : Prop := poolPlaysRow.holds Tryd.pinned (OpenSpec.ofChange poolPlaysWrong)

/-- 'decklelaw21.PoolBad': WHATEVER THE INPUT: true; the input reads as it did. -/
def poolBadSpec : ChangeSpec := { name := "poolBad", fn := fun _ => fun
  | [d1, d2, d3] => { results := [.lit (.bool true)], args := [d1, d2, d3] }
  | _ => none }
def poolBadRow : OpenClaim := { program := "ytoiofemekcnlbaadoor", sum := "c1357f8a30d93443a05b110becea0741b8145b7a1a19035caefcdc84429cd08c", func := "deckle/decklelaw21.PoolBad", spec := "poolBad", unfollowed := true, recurses := true, named := ["deckle/pool.may"], apart := false, laid := [("deckle/pool.may", laid_deckle_pool_may)] }
def PoolBadSaid : Prop := poolBadRow.holds Tryd.pinned (OpenSpec.ofChange poolBadSpec)

/-- ITS FALSE NEIGHBOUR: 'it returns false'. Refute it at one input. -/
def poolBadWrong : ChangeSpec := { name := "poolBad", fn := fun _ => fun
  | [d1, d2, d3] => { results := [.lit (.bool false)], args := [d1, d2, d3] }
  | _ => none }
def PoolBadWrongFalsely : Prop := poolBadRow.holds Tryd.pinned (OpenSpec.ofChange poolBadWrong)

/-- 'decklelaw21.PoolOf': WHATEVER THE INPUT: true; the input reads as it did. -/
def poolOfSpec : ChangeSpec := { name := "poolOf", fn := fun _ => fun
  | [d1, d2, d3] => { results := [.lit (.bool true)], args := [d1, d2, d3] }
  | _ => none }
def poolOfRow : OpenClaim := { program := "ytoiofemekcnlbaadoor", sum := "c1357f8a30d93443a05b110becea0741b8145b7a1a19035caefcdc84429cd08c", func := "deckle/decklelaw21.PoolOf", spec := "poolOf", unfollowed := true, recurses := true, named := ["deckle/pool.may"], apart := false, laid := [("deckle/pool.may", laid_deckle_pool_may)] }
def PoolOfSaid : Prop := poolOfRow.holds Tryd.pinned (OpenSpec.ofChange poolOfSpec)

/-- ITS FALSE NEIGHBOUR: 'it returns false'. Refute it at one input. -/
def poolOfWrong : ChangeSpec := { name := "poolOf", fn := fun _ => fun
  | [d1, d2, d3] => { results := [.lit (.bool false)], args := [d1, d2, d3] }
  | _ => none }
def PoolOfWrongFalsely : Prop := poolOfRow.holds Tryd.pinned (OpenSpec.ofChange poolOfWrong)

/- THE SECOND FORM. 'bulk': how many values and letters a reading holds, each counted each time it is reached (what is shared counts as often as it is met; a slice's spare places count too). A statement '..UptoSaid' is the law's where the arguments, and the package variables that the reading takes, are together of bulk at most 1048576: NARROWER than '..Said'. Prove '..Said' where nothing that the law and all that it calls make is longer than what came in: it says more and counts as full. Else prove '..UptoSaid'. A law counts once. -/
mutual
def uptoBulk {H : Type} : DataW H → Nat
  | .lit (.string bytes) => bytes.length + 1
  | .lit _ => 1
  | .nil => 1
  | .ptr d => uptoBulk d + 1
  | .slice elems spare => uptoBulkAll elems + uptoBulkAll spare + 1
  | .agg parts => uptoBulkAll parts + 1
  | .iface _ d => uptoBulk d + 1
  | .map entries => uptoBulkEntries entries + 1
  | .held _ => 1
def uptoBulkAll {H : Type} : List (DataW H) → Nat
  | [] => 0
  | d :: r => uptoBulk d + uptoBulkAll r
def uptoBulkEntries {H : Type} : List (Lit × DataW H) → Nat
  | [] => 0
  | x :: r => uptoBulkEntry x + uptoBulkEntries r
def uptoBulkEntry {H : Type} : Lit × DataW H → Nat
  | (.string bytes, d) => bytes.length + uptoBulk d + 1
  | (_, d) => uptoBulk d + 1
 end
def uptoSmall : (H : Type) → List (DataW H) → Bool := fun _ ds => decide (uptoBulkAll ds ≤ 1048576)
def OpenSpec.upto (s : _root_.Go.ChangeSpec) : _root_.Go.OpenSpec := { _root_.Go.OpenSpec.ofChange s with cond := some uptoSmall }

/-- 'decklelaw21.PoolOne', WHERE WHAT IT READS IS OF BULK AT MOST 1048576: true; the input reads as it did. -/
def poolOneUptoRow : OpenClaim := { program := "ytoiofemekcnlbaadoor", sum := "c1357f8a30d93443a05b110becea0741b8145b7a1a19035caefcdc84429cd08c", func := "deckle/decklelaw21.PoolOne", spec := "poolOne", named := ["deckle/pool.may"], apart := false, laid := [("deckle/pool.may", laid_deckle_pool_may)], narrowed := true }
def PoolOneUptoSaid : Prop := poolOneUptoRow.holds Tryd.pinned (OpenSpec.upto poolOneSpec)

/-- 'decklelaw21.PoolPlays', WHERE WHAT IT READS IS OF BULK AT MOST 1048576: true; the input reads as it did. -/
def poolPlaysUptoRow : OpenClaim := { program := "ytoiofemekcnlbaadoor", sum := "c1357f8a30d93443a05b110becea0741b8145b7a1a19035caefcdc84429cd08c", func := "deckle/decklelaw21.PoolPlays", spec := "poolPlays", named := ["deckle/pool.may"], apart := false, laid := [("deckle/pool.may", laid_deckle_pool_may)], narrowed := true }
def PoolPlaysUptoSaid : Prop := poolPlaysUptoRow.holds Tryd.pinned (OpenSpec.upto poolPlaysSpec)

/-- 'decklelaw21.PoolBad', WHERE WHAT IT READS IS OF BULK AT MOST 1048576: true; the input reads as it did. -/
def poolBadUptoRow : OpenClaim := { program := "ytoiofemekcnlbaadoor", sum := "c1357f8a30d93443a05b110becea0741b8145b7a1a19035caefcdc84429cd08c", func := "deckle/decklelaw21.PoolBad", spec := "poolBad", unfollowed := true, recurses := true, named := ["deckle/pool.may"], apart := false, laid := [("deckle/pool.may", laid_deckle_pool_may)], narrowed := true }
def PoolBadUptoSaid : Prop := poolBadUptoRow.holds Tryd.pinned (OpenSpec.upto poolBadSpec)

/-- 'decklelaw21.PoolOf', WHERE WHAT IT READS IS OF BULK AT MOST 1048576: true; the input reads as it did. -/
def poolOfUptoRow : OpenClaim := { program := "ytoiofemekcnlbaadoor", sum := "c1357f8a30d93443a05b110becea0741b8145b7a1a19035caefcdc84429cd08c", func := "deckle/decklelaw21.PoolOf", spec := "poolOf", unfollowed := true, recurses := true, named := ["deckle/pool.may"], apart := false, laid := [("deckle/pool.may", laid_deckle_pool_may)], narrowed := true }
def PoolOfUptoSaid : Prop := poolOfUptoRow.holds Tryd.pinned (OpenSpec.upto poolOfSpec)

end Rows
end Go.Proofs.YtoiofemekcnlbaaDoor
