/- The law CostHists: its function answers true. -/
import Derived.Test.YtnamndioodnelaaDoorHists
namespace Go.Proofs.YtnamndioodnelaaDoor.PQ
open Go.RowKit Go.Proofs.YtnamndioodnelaaDoorW.PrintWords Go.Proofs.YtnamndioodnelaaDoorW.PrintLast Go.Proofs.YtnamndioodnelaaDoorW.PrintMore
set_option linter.unusedVariables false
set_option linter.unusedSimpArgs false
theorem wfh_le {x : Int} (h : (Lit.int .i64 x).wf = true) : x ≤ 9223372036854775807 := by
  simp [Lit.wf] at h
  omega
theorem costHists_walk (a0 : Option Addr) (len0 cap0 : Nat) (zs0 : List Int) (a1 : Option Addr) (len1 cap1 : Nat) (zs1 : List Int) (p : Int) (W : World) (h : (a0 = none ∧ len0 = 0 ∧ cap0 = 0 ∧ zs0 = []) ∨ ∃ x, a0 = some x ∧ len0 ≤ cap0 ∧ cap0 ≤ maxLen ∧ zs0.length = cap0 ∧ (∀ i, i < zs0.length → W.cell? (x.add i) = some (.int .i64 (zs0.getD i 0))) ∧ ∀ n ∈ zs0, (Lit.int .i64 n).wf = true)
    (hs : len0 * 8 ≤ 140737488351232) (g : (a1 = none ∧ len1 = 0 ∧ cap1 = 0 ∧ zs1 = []) ∨ ∃ x, a1 = some x ∧ len1 ≤ cap1 ∧ cap1 ≤ maxLen ∧ zs1.length = cap1 ∧ (∀ i, i < zs1.length → W.cell? (x.add i) = some (.int .i64 (zs1.getD i 0))) ∧ ∀ n ∈ zs1, (Lit.int .i64 n).wf = true) (gs : len1 * 8 ≤ 140737488351232) (hp : (Lit.int .i64 p).wf = true) (hT : Aside0 (Tabs W)) :
    Calls Tryd.prog 4 #[.slice a0 len0 cap0, .slice a1 len1 cap1, .int .i64 p] W fun e w' => e = .returned (.bool true) ∧ Below W.heap.size W w' := by
  obtain ⟨l0, rfl, hr0, hm0, hw0, hc0⟩ := ReadsInt.ofRowC h
  obtain ⟨l1, rfl, hr1, hm1, hw1, hc1⟩ := ReadsInt.ofRowC g
  by_cases hl0 : l0.length ≤ 300
  · by_cases hl1 : l1.length ≤ 300
    · exact costHists_core a0 a1 cap0 cap1 l0 l1 p W ⟨Kd.C_of_reads (d := (0 : Int)) (h1 := fun _ => rfl) hr0⟩ ⟨Kd.C_of_reads (d := (0 : Int)) (h1 := fun _ => rfl) hr1⟩ ⟨fun x hx => wfh_le (hw0 x hx)⟩ ⟨fun x hx => wfh_le (hw1 x hx)⟩ (Lib.hid hl0) (Lib.hid hl1)
    · exact costHists_long1 a0 a1 cap0 cap1 l0 l1 p W hl0 (by omega)
  · exact costHists_long0 a0 a1 cap0 cap1 l0 l1 p W (by omega)
end Go.Proofs.YtnamndioodnelaaDoor.PQ
