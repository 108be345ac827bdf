/- The law PoolBad: its function answers true. -/
import Derived.Test.YtoiofemekcnlbaaDoorBad
import Derived.Test.YtoiofemekcnlbaaDoorOpen
namespace Go.Proofs.YtoiofemekcnlbaaDoor.PQ
open Go.RowKit Go.Proofs.YtoiofemekcnlbaaDoorW.PrintWords Go.Proofs.YtoiofemekcnlbaaDoorW.PrintLast Go.Proofs.YtoiofemekcnlbaaDoorW.PrintMore
set_option linter.unusedVariables false
set_option linter.unusedSimpArgs false
theorem poolBad_walk (a0 : Option Addr) (len0 cap0 : Nat) (zs0 : List Int) (a1 : Option Addr) (c1 : Nat) (z1 : List S30) (blk : Int) (W : World) (h : (a0 = none ∧ len0 = 0 ∧ cap0 = 0 ∧ zs0 = []) ∨ ∃ x, a0 = some x ∧ len0 ≤ cap0 ∧ cap0 ≤ maxLen ∧ zs0.length = cap0 ∧ (∀ i, i < zs0.length → W.cell? (x.add i) = some (.int .i64 (zs0.getD i 0))) ∧ ∀ n ∈ zs0, (Lit.int .i64 n).wf = true)
    (hs : len0 * 8 ≤ 140737488351232) (h1 : Kd.C k30 W a1 z1.length z1) (hc : z1.length ≤ c1) (hq : ∀ z ∈ z1, wf30 z) (hb : (Lit.int .i64 blk).wf = true) (hT : Aside0 (Tabs W)) :
    Calls Tryd.prog 5 #[.slice a0 len0 cap0, .slice a1 z1.length c1, .int .i64 blk] W fun e w' => e = .returned (.bool true) ∧ Below W.heap.size W w' := by
  obtain ⟨l, rfl, hr, hm, hw, hcc⟩ := ReadsInt.ofRowC h
  have hr' := Aside0.mk (Kd.C_of_reads (d := (0 : Int)) (h1 := fun _ => rfl) hr)
  by_cases hl : 1 ≤ l.length ∧ l.length ≤ 64
  · by_cases hok : ∀ x ∈ l, okR x
    · exact poolBad_core a0 cap0 l a1 c1 z1 blk W hr' ⟨h1⟩ hT hl.1 hl.2 ⟨hok⟩
    · exact poolBad_no a0 cap0 l a1 c1 z1 blk W hr' hT hl.1 hl.2 ⟨hok⟩
  · exact poolBad_long a0 cap0 l a1 c1 z1 blk W hT hl
end Go.Proofs.YtoiofemekcnlbaaDoor.PQ
