/- Of and Fold walked. -/
import Derived.Test.YtnamndioodnelaaDoorHist
namespace Go.Proofs.YtnamndioodnelaaDoor.PQ
open Go.RowKit Go.Proofs.YtnamndioodnelaaDoorW.PrintWords Go.Proofs.YtnamndioodnelaaDoorW.PrintLast Go.Proofs.YtnamndioodnelaaDoorW.PrintMore
set_option linter.unusedVariables false
set_option linter.unusedSimpArgs false
def tabC : List Int := [0, 25000, 200000, 400000, 900000, 3000000]
/-- The table lies there. -/
structure Tabs (w : World) : Prop where
  sz : 0 < w.heap.size
  cell : ∀ i, i < 6 → w.cell? ⟨0, i, none⟩ = some (.int .i64 (tabC.getD i 0))
theorem tabs_below {w w' : World} (h : Tabs w) (hb : Below w.heap.size w w') : Tabs w' :=
  ⟨Nat.lt_of_lt_of_le h.sz hb.size, fun i hi => (hb.cell (p := ⟨0, i, none⟩) h.sz).trans (h.cell i hi)⟩
theorem tabs_drewN {w : World} (h : Tabs w) (n : Nat) : Tabs (w.drewN n) := tabs_below h (Drawn0.below ⟨⟨n, rfl⟩⟩)
theorem tabs_drew {w : World} (h : Tabs w) : Tabs w.drew := tabs_below h (Below.refl _ w).drew
theorem tabs_alloc {w : World} (h : Tabs w) (o : Obj) : Tabs (w.alloc o) := tabs_below h ((Below.refl _ w).alloc (Nat.le_refl _) o)
set_option maxHeartbeats 1000000 in
set_option maxRecDepth 100000 in
theorem of_slc (w : World) (hT : Aside0 (Tabs w)) : Calls Tryd.prog 20 #[.int .i64 1, .int .i64 1] w fun e w' => e = .returned (.tuple #[.int .i64 25000, .int .i64 0]) ∧ Drawn0 w w' := by
  have c : w.cell? ⟨0, 1, none⟩ = some (.int .i64 25000) := hT.out.cell 1 (by omega)
  go_enter Tryd.func20, Tryd.ntmps20
  go_wp2
  go_ret2
  exact ⟨rfl, by repeat (first | exact Drawn0.refl _ | apply Drawn0.step)⟩
set_option maxHeartbeats 1000000 in
set_option maxRecDepth 100000 in
theorem of_tlc (w : World) : Calls Tryd.prog 20 #[.int .i64 1, .int .i64 2] w fun e w' => e = .returned (.tuple #[.int .i64 60000, .int .i64 0]) ∧ Drawn0 w w' := by
  go_enter Tryd.func20, Tryd.ntmps20
  go_wp2
  go_ret2
  exact ⟨rfl, by repeat (first | exact Drawn0.refl _ | apply Drawn0.step)⟩
set_option maxHeartbeats 2000000 in
set_option maxRecDepth 100000 in
theorem fold_core (g0 g1 g2 g3 g4 g5 p t : Int) (w : World) (hT : Aside0 (Tabs w))
    (HC : ∀ w, Calls Tryd.prog 18 #[.agg #[.int .i64 g0, .int .i64 g1, .int .i64 g2, .int .i64 g3, .int .i64 g4, .int .i64 g5]] w fun e w' => e = .returned (.int .i64 0) ∧ Below w.heap.size w w')
    (h1 : decide (p < 0) = false) (A : Int) (eA : IntKind.i64.wrap (3 * g1) = A) (h2 : decide (A < p) = false) (h3 : decide (t < 0) = false) (h4 : decide (p < t) = false)
    (B C D E F G I J K : Int) (eB : IntKind.i64.wrap (p - t) = B) (eC : IntKind.i64.wrap (B * 25000) = C) (eD : IntKind.i64.wrap (t * 60000) = D) (eE : IntKind.i64.wrap (C + D) = E)
    (eF : IntKind.i64.wrap (3 * E) = F) (eG : IntKind.i64.wrap (p * 60000) = G) (eI : IntKind.i64.wrap (F + G) = I) (eJ : IntKind.i64.wrap (g1 * 1300000) = J) (eK : IntKind.i64.wrap (I + J) = K) :
    Calls Tryd.prog 19 #[.agg #[.int .i64 g0, .int .i64 g1, .int .i64 g2, .int .i64 g3, .int .i64 g4, .int .i64 g5], .int .i64 p, .int .i64 t] w fun e w' => e = .returned (.tuple #[.int .i64 K, .int .i64 0]) ∧ Below w.heap.size w w' := by
  have hu37 := Tryd.underlying37
  go_enter Tryd.func19, Tryd.ntmps19
  go_wp2_with fail
  refine (HC _).mono ?_
  rintro e w2 ⟨rfl, hb2⟩
  have hrow : w2.heap[w.heap.size]? = some (.cells #[.int .i64 g0, .int .i64 g1, .int .i64 g2, .int .i64 g3, .int .i64 g4, .int .i64 g5] 37 (0, 0)) := (hb2.block _ (by simp)).trans (heap_alloc_new w _)
  have c1 : w2.cell? ⟨w.heap.size, 1, none⟩ = some (.int .i64 g1) := (blk_cell hrow 1).trans rfl
  have hbw : Below w.heap.size w w2 := ((Below.refl _ w).alloc (Nat.le_refl _) _).trans (hb2.mono (by simp))
  have hT2 := tabs_below hT.out hbw
  have k3 : w2.cell? ⟨0, 3, none⟩ = some (.int .i64 400000) := hT2.cell 3 (by omega)
  have k4 : w2.cell? ⟨0, 4, none⟩ = some (.int .i64 900000) := hT2.cell 4 (by omega)
  have hof := of_slc w2 ⟨hT2⟩
  clear hb2 HC hrow
  go_wp2_with (go_at_call 20; refine hof.mono ?_; rintro e w3 ⟨rfl, ⟨m3, rfl⟩⟩)
  go_ret2
  exact ⟨rfl, hbw.trans ((Drawn0.below ⟨⟨m3, rfl⟩⟩).mono hbw.size)⟩
end Go.Proofs.YtnamndioodnelaaDoor.PQ
