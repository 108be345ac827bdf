/- The law PoolOf: its function answers true. -/
import Derived.Test.YtoiofemekcnlbaaDoorOfL
import Derived.Test.YtoiofemekcnlbaaDoorOpen
namespace Go.Proofs.YtoiofemekcnlbaaDoor.PQ
open Go.RowKit Go.Proofs.YtoiofemekcnlbaaDoorW.PrintWords Go.Proofs.YtoiofemekcnlbaaDoorW.PrintLast Go.Proofs.YtoiofemekcnlbaaDoorW.PrintMore
set_option linter.unusedVariables false
set_option linter.unusedSimpArgs false
theorem poolOf_walk (a0 : Option Addr) (len0 cap0 : Nat) (zs0 : List Int) (a1 : Option Addr) (c1 : Nat) (z1 : List S30) (a2 : Option Addr) (len2 cap2 : Nat) (zs2 : List Int) (W : World)
    (g : (a0 = none ∧ len0 = 0 ∧ cap0 = 0 ∧ zs0 = []) ∨ ∃ x, a0 = some x ∧ len0 ≤ cap0 ∧ cap0 ≤ maxLen ∧ zs0.length = cap0 ∧ (∀ i, i < zs0.length → W.cell? (x.add i) = some (.int .i64 (zs0.getD i 0))) ∧ ∀ n ∈ zs0, (Lit.int .i64 n).wf = true)
    (gs : len0 * 8 ≤ 140737488351232) (h1 : Kd.C k30 W a1 z1.length z1) (hc : z1.length ≤ c1) (hq : ∀ z ∈ z1, wf30 z)
    (h : (a2 = none ∧ len2 = 0 ∧ cap2 = 0 ∧ zs2 = []) ∨ ∃ x, a2 = some x ∧ len2 ≤ cap2 ∧ cap2 ≤ maxLen ∧ zs2.length = cap2 ∧ (∀ i, i < zs2.length → W.cell? (x.add i) = some (.int .i64 (zs2.getD i 0))) ∧ ∀ n ∈ zs2, (Lit.int .i64 n).wf = true)
    (hs : len2 * 8 ≤ 140737488351232) (hT : Aside0 (Tabs W)) :
    Calls Tryd.prog 6 #[.slice a0 len0 cap0, .slice a1 z1.length c1, .slice a2 len2 cap2] W fun e w' => e = .returned (.bool true) ∧ Below W.heap.size W w' := by
  obtain ⟨l, rfl, hr, hm, hw, hcc⟩ := ReadsInt.ofRowC h
  have hr' := Aside0.mk (Kd.C_of_reads (d := (0 : Int)) (h1 := fun _ => rfl) hr)
  obtain ⟨f, rfl, fr, fm, fw, fcc⟩ := ReadsInt.ofRowC g
  have fr' := Aside0.mk (Kd.C_of_reads (d := (0 : Int)) (h1 := fun _ => rfl) fr)
  by_cases hf : f.length ≤ 200
  · by_cases hy : l.length ≤ 50
    · by_cases ho : (1 ≤ f.length ∧ f.length ≤ 64) ∧ ∀ x ∈ f, okR x
      · exact poolOf_yes a0 cap0 f a1 c1 z1 a2 cap2 l W fr' (Lib.hid (by omega)) ⟨h1⟩ hr' hT ho.1.1 ho.1.2 ⟨ho.2⟩ (Lib.hid ⟨by omega, hy⟩)
      · exact poolOf_no a0 cap0 f a1 c1 z1 a2 cap2 l W fr' (Lib.hid (by omega)) hT hf hy ⟨ho⟩
    · exact poolOf_long a0 cap0 f a1 c1 z1 a2 cap2 l W hT (.inr ⟨by omega, by omega⟩)
  · exact poolOf_long a0 cap0 f a1 c1 z1 a2 cap2 l W hT (.inl (by omega))
end Go.Proofs.YtoiofemekcnlbaaDoor.PQ
