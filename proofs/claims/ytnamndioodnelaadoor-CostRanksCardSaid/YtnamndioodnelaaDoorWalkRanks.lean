/- The law CostRanks: its function answers true. -/
import Derived.Test.YtnamndioodnelaaDoorRanks
namespace Go.Proofs.YtnamndioodnelaaDoor.PQ
open Go.RowKit Go.Proofs.YtnamndioodnelaaDoorW.PrintWords Go.Proofs.YtnamndioodnelaaDoorW.PrintLast Go.Proofs.YtnamndioodnelaaDoorW.PrintMore
set_option linter.unusedVariables false
set_option linter.unusedSimpArgs false
theorem wf_le {x : Int} (h : (Lit.int .i64 x).wf = true) : x ≤ 9223372036854775807 := by
  simp [Lit.wf] at h
  omega
set_option maxHeartbeats 1000000 in
set_option maxRecDepth 100000 in
theorem costRanks_long (A0 : Option Addr) (c0 : Nat) (l : List Int) (p q : Int) (w : World) (hl : 300 < l.length) :
    Calls Tryd.prog 3 #[.slice A0 l.length c0, .agg #[.int .i64 p, .int .i64 q]] w fun e w' => e = .returned (.bool true) ∧ Below w.heap.size w w' := by
  have hu23 := Tryd.underlying23
  have y300 : decide ((300 : Int) < (l.length : Int)) = true := decide_eq_true (by omega)
  clear hl
  go_enter Tryd.func3, Tryd.ntmps3
  go_wp2_with fail
  refine (works_spec _).mono ?_
  rintro e w1 ⟨rfl, hb1⟩
  have hw1 : Aside0 (Below w.heap.size w w1) := ⟨((Below.refl _ w).alloc (Nat.le_refl _) _).trans (hb1.mono (by simp))⟩
  clear hb1
  go_wp2
  go_ret
  exact ⟨rfl, hw1.out⟩
theorem costRanks_walk (a : Option Addr) (len cap : Nat) (zs : List Int) (p q : Int) (W : World) (h : (a = none ∧ len = 0 ∧ cap = 0 ∧ zs = []) ∨ ∃ x, a = some x ∧ len ≤ cap ∧ cap ≤ maxLen ∧ zs.length = cap ∧ (∀ i, i < zs.length → W.cell? (x.add i) = some (.int .i64 (zs.getD i 0))) ∧ ∀ n ∈ zs, (Lit.int .i64 n).wf = true)
    (hs : len * 8 ≤ 140737488351232) (hp : (Lit.int .i64 p).wf = true) (hq : (Lit.int .i64 q).wf = true) (hT : Aside0 (Tabs W)) :
    Calls Tryd.prog 3 #[.slice a len cap, .agg #[.int .i64 p, .int .i64 q]] W fun e w' => e = .returned (.bool true) ∧ Below W.heap.size W w' := by
  obtain ⟨l, rfl, hr, hm, hw, hc⟩ := ReadsInt.ofRowC h
  by_cases hl : l.length ≤ 300
  · exact costRanks_core a cap l p q W ⟨Kd.C_of_reads (d := (0 : Int)) (h1 := fun _ => rfl) hr⟩ ⟨fun x hx => wf_le (hw x hx)⟩ hl
  · exact costRanks_long a cap l p q W (by omega)
end Go.Proofs.YtnamndioodnelaaDoor.PQ
