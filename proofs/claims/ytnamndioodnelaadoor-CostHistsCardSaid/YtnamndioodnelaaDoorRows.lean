/-
  NARROWER THAN 'FOR EVERY INPUT', by the rows' own cells (each row's printed sentence says how): CostRanks: laid · CostHists: laid · CostMore: laid.
  DERIVED. THE GIVEN ROWS OF THIS SEAT. 3 by the template 'for every input the law returns true; each argument reads behind the call as it read before'; 0 by the template 'total and deterministic' (their statements: YtnamndioodnelaaDoorTotals.lean).
  GIVEN WITH THE SEED: the statements are not yours to turn. If you find one false, say at which input.
  Laid BY PROGRAM, IN A SANDBOX (cutbox-rows.mjs): the forced cells as the released guide's own fill.sh prints them over the translation 73e6eef54d73b7e4… (all of the seat's roots in one cut). By AI agents, Wed Nov 11 2026. No macro, syntax, notation, axiom, sorry.
-/
import Derived.Test.YtnamndioodnelaaDoorChecked
import GoSem.Claim
import GoSem.ClaimJoined
import GoSem.ClaimMapViews
import Derived.JoinedTies
import Derived.KernelRfl
namespace Go.Proofs.YtnamndioodnelaaDoor
/- THE CELL 'sum', in the pinned program and in every row, IS THE sha256 OF THE DUMP (.gsa) THAT YtnamndioodnelaaDoorProg.lean LOADS. Nothing in Lean hashes anything: it is a label: what it is worth is what the hold of that sum in a sandbox is worth. -/
noncomputable def Tryd.pinned : Pinned := { name := "ytnamndioodnelaadoor", sum := "73e6eef54d73b7e4b473db5d241265332da1b982b1e3f7cce08701989af98959", checked := Tryd.checked }
namespace Rows
def none {H : Type} : Left H := { results := [], args := [] }

/- WHAT THE LISTED PACKAGE-LEVEL VARIABLES READ AS WHEN THE CALL BEGINS. Each datum BY PROGRAM (the guide's laid-datum.mjs) off the statement by which the dump's own 'gosem.cut.vars' lays the variable. In a bare row this is a premise. The card (YtnamndioodnelaaDoorCards.lean) ties it to the program's text. -/
def laid_deckle_cost_costs {H : Type} : DataW H := .agg [.lit (.int .i64 0), .lit (.int .i64 25000), .lit (.int .i64 200000), .lit (.int .i64 400000), .lit (.int .i64 900000), .lit (.int .i64 3000000)]

/-- 'decklelaw42.CostRanks': WHATEVER THE INPUT: true; the input reads as it did. -/
def costRanksSpec : ChangeSpec := { name := "costRanks", fn := fun _ => fun
  | [d1, d2] => { results := [.lit (.bool true)], args := [d1, d2] }
  | _ => none }
def costRanksRow : OpenClaim := { program := "ytnamndioodnelaadoor", sum := "73e6eef54d73b7e4b473db5d241265332da1b982b1e3f7cce08701989af98959", func := "deckle/decklelaw42.CostRanks", spec := "costRanks", named := ["deckle/cost.costs", "math/bits.divideError", "math/bits.overflowError"], apart := false, laid := [("deckle/cost.costs", laid_deckle_cost_costs)] }
def CostRanksSaid : Prop := costRanksRow.holds Tryd.pinned (OpenSpec.ofChange costRanksSpec)

/-- ITS FALSE NEIGHBOUR: 'it returns false'. Refute it at one input. -/
def costRanksWrong : ChangeSpec := { name := "costRanks", fn := fun _ => fun
  | [d1, d2] => { results := [.lit (.bool false)], args := [d1, d2] }
  | _ => none }
def CostRanksWrongFalsely : Prop := costRanksRow.holds Tryd.pinned (OpenSpec.ofChange costRanksWrong)

/-- 'decklelaw42.CostHists': WHATEVER THE INPUT: true; the input reads as it did. -/
def costHistsSpec : ChangeSpec := { name := "costHists", fn := fun _ => fun
  | [d1, d2, d3] => { results := [.lit (.bool true)], args := [d1, d2, d3] }
  | _ => none }
def costHistsRow : OpenClaim := { program := "ytnamndioodnelaadoor", sum := "73e6eef54d73b7e4b473db5d241265332da1b982b1e3f7cce08701989af98959", func := "deckle/decklelaw42.CostHists", spec := "costHists", named := ["deckle/cost.costs", "math/bits.divideError", "math/bits.overflowError"], apart := false, laid := [("deckle/cost.costs", laid_deckle_cost_costs)] }
def CostHistsSaid : Prop := costHistsRow.holds Tryd.pinned (OpenSpec.ofChange costHistsSpec)

/-- ITS FALSE NEIGHBOUR: 'it returns false'. Refute it at one input. -/
def costHistsWrong : ChangeSpec := { name := "costHists", fn := fun _ => fun
  | [d1, d2, d3] => { results := [.lit (.bool false)], args := [d1, d2, d3] }
  | _ => none }
def CostHistsWrongFalsely : Prop := costHistsRow.holds Tryd.pinned (OpenSpec.ofChange costHistsWrong)

/-- 'decklelaw42.CostMore': WHATEVER THE INPUT: true; the input reads as it did. -/
def costMoreSpec : ChangeSpec := { name := "costMore", fn := fun _ => fun
  | [d1, d2, d3] => { results := [.lit (.bool true)], args := [d1, d2, d3] }
  | _ => none }
def costMoreRow : OpenClaim := { program := "ytnamndioodnelaadoor", sum := "73e6eef54d73b7e4b473db5d241265332da1b982b1e3f7cce08701989af98959", func := "deckle/decklelaw42.CostMore", spec := "costMore", named := ["deckle/cost.costs", "math/bits.divideError", "math/bits.overflowError"], apart := false, laid := [("deckle/cost.costs", laid_deckle_cost_costs)] }
def CostMoreSaid : Prop := costMoreRow.holds Tryd.pinned (OpenSpec.ofChange costMoreSpec)

/-- ITS FALSE NEIGHBOUR: 'it returns false'. Refute it at one input. -/
def costMoreWrong : ChangeSpec := { name := "costMore", fn := fun _ => fun
  | [d1, d2, d3] => { results := [.lit (.bool false)], args := [d1, d2, d3] }
  | _ => none }
def CostMoreWrongFalsely : Prop := costMoreRow.holds Tryd.pinned (OpenSpec.ofChange costMoreWrong)

/- THE SECOND FORM. 'bulk': how many values and letters a reading holds, each counted each time it is reached (what is shared counts as often as it is met; a slice's spare places count too). A statement '..UptoSaid' is the law's where the arguments, and the package variables that the reading takes, are together of bulk at most 1048576: NARROWER than '..Said'. Prove '..Said' where nothing that the law and all that it calls make is longer than what came in: it says more and counts as full. Else prove '..UptoSaid'. A law counts once. -/
mutual
def uptoBulk {H : Type} : DataW H → Nat
  | .lit (.string bytes) => bytes.length + 1
  | .lit _ => 1
  | .nil => 1
  | .ptr d => uptoBulk d + 1
  | .slice elems spare => uptoBulkAll elems + uptoBulkAll spare + 1
  | .agg parts => uptoBulkAll parts + 1
  | .iface _ d => uptoBulk d + 1
  | .map entries => uptoBulkEntries entries + 1
  | .held _ => 1
def uptoBulkAll {H : Type} : List (DataW H) → Nat
  | [] => 0
  | d :: r => uptoBulk d + uptoBulkAll r
def uptoBulkEntries {H : Type} : List (Lit × DataW H) → Nat
  | [] => 0
  | x :: r => uptoBulkEntry x + uptoBulkEntries r
def uptoBulkEntry {H : Type} : Lit × DataW H → Nat
  | (.string bytes, d) => bytes.length + uptoBulk d + 1
  | (_, d) => uptoBulk d + 1
 end
def uptoSmall : (H : Type) → List (DataW H) → Bool := fun _ ds => decide (uptoBulkAll ds ≤ 1048576)
def OpenSpec.upto (s : _root_.Go.ChangeSpec) : _root_.Go.OpenSpec := { _root_.Go.OpenSpec.ofChange s with cond := some uptoSmall }

/-- 'decklelaw42.CostRanks', WHERE WHAT IT READS IS OF BULK AT MOST 1048576: true; the input reads as it did. -/
def costRanksUptoRow : OpenClaim := { program := "ytnamndioodnelaadoor", sum := "73e6eef54d73b7e4b473db5d241265332da1b982b1e3f7cce08701989af98959", func := "deckle/decklelaw42.CostRanks", spec := "costRanks", named := ["deckle/cost.costs", "math/bits.divideError", "math/bits.overflowError"], apart := false, laid := [("deckle/cost.costs", laid_deckle_cost_costs)], narrowed := true }
def CostRanksUptoSaid : Prop := costRanksUptoRow.holds Tryd.pinned (OpenSpec.upto costRanksSpec)

/-- 'decklelaw42.CostHists', WHERE WHAT IT READS IS OF BULK AT MOST 1048576: true; the input reads as it did. -/
def costHistsUptoRow : OpenClaim := { program := "ytnamndioodnelaadoor", sum := "73e6eef54d73b7e4b473db5d241265332da1b982b1e3f7cce08701989af98959", func := "deckle/decklelaw42.CostHists", spec := "costHists", named := ["deckle/cost.costs", "math/bits.divideError", "math/bits.overflowError"], apart := false, laid := [("deckle/cost.costs", laid_deckle_cost_costs)], narrowed := true }
def CostHistsUptoSaid : Prop := costHistsUptoRow.holds Tryd.pinned (OpenSpec.upto costHistsSpec)

/-- 'decklelaw42.CostMore', WHERE WHAT IT READS IS OF BULK AT MOST 1048576: true; the input reads as it did. -/
def costMoreUptoRow : OpenClaim := { program := "ytnamndioodnelaadoor", sum := "73e6eef54d73b7e4b473db5d241265332da1b982b1e3f7cce08701989af98959", func := "deckle/decklelaw42.CostMore", spec := "costMore", named := ["deckle/cost.costs", "math/bits.divideError", "math/bits.overflowError"], apart := false, laid := [("deckle/cost.costs", laid_deckle_cost_costs)], narrowed := true }
def CostMoreUptoSaid : Prop := costMoreUptoRow.holds Tryd.pinned (OpenSpec.upto costMoreSpec)

end Rows
end Go.Proofs.YtnamndioodnelaaDoor
