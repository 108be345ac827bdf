/- The law PoolPlays: its function answers true. -/
import Derived.Test.YtoiofemekcnlbaaDoorPlays
import Derived.Test.YtoiofemekcnlbaaDoorOpen
namespace Go.Proofs.YtoiofemekcnlbaaDoor.PQ
open Go.RowKit Go.Proofs.YtoiofemekcnlbaaDoorW.PrintWords Go.Proofs.YtoiofemekcnlbaaDoorW.PrintLast Go.Proofs.YtoiofemekcnlbaaDoorW.PrintMore
set_option linter.unusedVariables false
set_option linter.unusedSimpArgs false
theorem poolPlays_walk (n : Int) (a1 : Option Addr) (c1 : Nat) (z1 : List S30) (a2 : Option Addr) (len2 cap2 : Nat) (zs2 : List Int) (W : World) (hn : (Lit.int .i64 n).wf = true) (h1 : Kd.C k30 W a1 z1.length z1) (hc : z1.length ≤ c1) (hq : ∀ z ∈ z1, wf30 z)
    (h : (a2 = none ∧ len2 = 0 ∧ cap2 = 0 ∧ zs2 = []) ∨ ∃ x, a2 = some x ∧ len2 ≤ cap2 ∧ cap2 ≤ maxLen ∧ zs2.length = cap2 ∧ (∀ i, i < zs2.length → W.cell? (x.add i) = some (.int .i64 (zs2.getD i 0))) ∧ ∀ n ∈ zs2, (Lit.int .i64 n).wf = true)
    (hs : len2 * 8 ≤ 140737488351232) (hT : Aside0 (Tabs W)) :
    Calls Tryd.prog 4 #[.int .i64 n, .slice a1 z1.length c1, .slice a2 len2 cap2] W fun e w' => e = .returned (.bool true) ∧ Below W.heap.size W w' := by
  obtain ⟨l, rfl, hr, hm, hw, hcc⟩ := ReadsInt.ofRowC h
  have hr' := Aside0.mk (Kd.C_of_reads (d := (0 : Int)) (h1 := fun _ => rfl) hr)
  by_cases hl : 1 ≤ n ∧ n ≤ 64
  · obtain ⟨n, rfl⟩ := Int.eq_ofNat_of_zero_le (show 0 ≤ n by omega)
    by_cases hy : l.length ≤ 50
    · exact poolPlays_yes n a1 c1 z1 a2 cap2 l W ⟨h1⟩ hr' hT (by omega) (by omega) (Lib.hid ⟨by omega, hy⟩)
    · exact poolPlays_long n a1 c1 z1 a2 cap2 l W hT (by omega) (by omega) (by omega)
  · exact poolPlays_no n a1 c1 z1 a2 cap2 l W hT hl
end Go.Proofs.YtoiofemekcnlbaaDoor.PQ
