/- CostMore walked. -/
import Derived.Test.YtnamndioodnelaaDoorWorks
import Derived.Test.YtnamndioodnelaaDoorPQx3
namespace Go.Proofs.YtnamndioodnelaaDoor.PQ
open Go.RowKit Go.Proofs.YtnamndioodnelaaDoorW.PrintWords Go.Proofs.YtnamndioodnelaaDoorW.PrintLast Go.Proofs.YtnamndioodnelaaDoorW.PrintMore
set_option linter.unusedVariables false
set_option linter.unusedSimpArgs false
/-- What a fold costs. -/
theorem fold_spec (g0 g1 g2 g3 g4 g5 p t : Int) (w : World) (hT : Tabs w)
    (HC : ∀ w, Calls Tryd.prog 18 #[.agg #[.int .i64 g0, .int .i64 g1, .int .i64 g2, .int .i64 g3, .int .i64 g4, .int .i64 g5]] w fun e w' => e = .returned (.int .i64 0) ∧ Below w.heap.size w w')
    (hg : 6 ≤ g1 ∧ g1 ≤ 64) (ht : 0 ≤ t ∧ t ≤ p) (hp : p ≤ 3 * g1) :
    Calls Tryd.prog 19 #[.agg #[.int .i64 g0, .int .i64 g1, .int .i64 g2, .int .i64 g3, .int .i64 g4, .int .i64 g5], .int .i64 p, .int .i64 t] w fun e w' => e = .returned (.tuple #[.int .i64 (135000 * p + 105000 * t + 1300000 * g1), .int .i64 0]) ∧ Below w.heap.size w w' := by
  have hi : ∀ x : Int, -1000000000 ≤ x → x ≤ 1000000000 → IntKind.i64.wrap x = x := fun x h1 h2 => by rw [i64_w]; unfold wrap64; omega
  exact fold_core g0 g1 g2 g3 g4 g5 p t w ⟨hT⟩ HC (decide_eq_false (by omega)) (3 * g1) (hi _ (by omega) (by omega)) (decide_eq_false (by omega)) (decide_eq_false (by omega)) (decide_eq_false (by omega))
    (p - t) ((p - t) * 25000) (t * 60000) ((p - t) * 25000 + t * 60000) (3 * ((p - t) * 25000 + t * 60000)) (p * 60000) (3 * ((p - t) * 25000 + t * 60000) + p * 60000) (g1 * 1300000) _
    (hi _ (by omega) (by omega)) (hi _ (by omega) (by omega)) (hi _ (by omega) (by omega)) (hi _ (by omega) (by omega)) (hi _ (by omega) (by omega)) (hi _ (by omega) (by omega)) (hi _ (by omega) (by omega)) (hi _ (by omega) (by omega)) ((hi _ (by omega) (by omega)).trans (by omega))
theorem all_seven : ∀ a b c d e f g : Bool, geom_all.f 9 [a, b, c, d, e, f, g] = some (a && (b && (c && (d && (e && (f && g)))))) := by decide +kernel
theorem all_three : ∀ a b c : Bool, geom_all.f 9 [a, b, c] = some (a && (b && c)) := by decide +kernel
theorem within_some (a b c : Int) : geom_within.f a b c = some (decide (b ≤ a ∧ a ≤ c)) := by
  unfold geom_within.f
  by_cases h : a ≥ b
  · rw [if_pos h]; congr 1; rw [decide_eq_decide]; omega
  · rw [if_neg h]; congr 1; exact (decide_eq_false (by omega)).symm
theorem most_some (a b c d e f : Int) : ∃ r, geom_Most.f a b c d e f = some r := ⟨_, rfl⟩
theorem snaps_some (a b c d e f : Int) : ∃ r, geom_Snaps.f a b c d e f = some r := by
  unfold geom_Snaps.f
  by_cases h : c < 1
  · rw [if_pos h]; exact ⟨_, rfl⟩
  · rw [if_neg h, if_neg (by omega)]; exact ⟨_, rfl⟩
/-- Every geometry is told as good or not; good ones have from 6 to 64 lines. -/
theorem check_some (g0 g1 g2 g3 g4 g5 : Int) : ∃ r, geom_Check.f 9 g0 g1 g2 g3 g4 g5 = some r ∧ (r = 0 → 6 ≤ g1 ∧ g1 ≤ 64) := by
  unfold geom_Check.f
  simp only [within_some, Option.bind_some, all_seven]
  obtain ⟨m, hm⟩ := most_some g0 g1 g2 g3 g4 g5
  obtain ⟨n, hn⟩ := snaps_some g0 g1 g2 g3 g4 g5
  rw [hm, hn]
  simp only [Option.bind_some, all_three]
  split
  · rename_i h
    simp only [Bool.and_eq_true, decide_eq_true_eq] at h
    split
    · exact ⟨0, rfl, fun _ => h.2.1⟩
    · exact ⟨60, rfl, fun e => by cases e⟩
  · exact ⟨60, rfl, fun e => by cases e⟩
set_option maxHeartbeats 2000000 in
set_option maxRecDepth 100000 in
theorem costMore_bad (g0 g1 g2 g3 g4 g5 p t : Int) (w : World) (r : Int) (hr : (r != 0) = true)
    (HC : ∀ w, Calls Tryd.prog 18 #[.agg #[.int .i64 g0, .int .i64 g1, .int .i64 g2, .int .i64 g3, .int .i64 g4, .int .i64 g5]] w fun e w' => e = .returned (.int .i64 r) ∧ Below w.heap.size w w') :
    Calls Tryd.prog 5 #[.agg #[.int .i64 g0, .int .i64 g1, .int .i64 g2, .int .i64 g3, .int .i64 g4, .int .i64 g5], .int .i64 p, .int .i64 t] w fun e w' => e = .returned (.bool true) ∧ Below w.heap.size w w' := by
  have hu37 := Tryd.underlying37
  go_enter Tryd.func5, Tryd.ntmps5
  go_wp2_with fail
  refine (works_spec _).mono ?_
  rintro e w1 ⟨rfl, hb1⟩
  have hrow : w1.heap[w.heap.size]? = some (.cells #[.int .i64 g0, .int .i64 g1, .int .i64 g2, .int .i64 g3, .int .i64 g4, .int .i64 g5] 37 (0, 0)) := (hb1.block _ (by simp)).trans (heap_alloc_new w _)
  have hw1 : Below w.heap.size w w1 := ((Below.refl _ w).alloc (Nat.le_refl _) _).trans (hb1.mono (by simp))
  have hlt : w.heap.size < w1.heap.size := (Array.getElem?_eq_some_iff.1 hrow).1
  generalize hB : w.heap.size = B at *
  have d0 : w1.cell? ⟨B, 0, none⟩ = some (.int .i64 g0) := (blk_cell hrow 0).trans rfl
  have d1 : w1.cell? ⟨B, 1, none⟩ = some (.int .i64 g1) := (blk_cell hrow 1).trans rfl
  have d2 : w1.cell? ⟨B, 2, none⟩ = some (.int .i64 g2) := (blk_cell hrow 2).trans rfl
  have d3 : w1.cell? ⟨B, 3, none⟩ = some (.int .i64 g3) := (blk_cell hrow 3).trans rfl
  have d4 : w1.cell? ⟨B, 4, none⟩ = some (.int .i64 g4) := (blk_cell hrow 4).trans rfl
  have d5 : w1.cell? ⟨B, 5, none⟩ = some (.int .i64 g5) := (blk_cell hrow 5).trans rfl
  have hrow' := Aside0.mk hrow
  have hw1' := Aside0.mk hw1
  have hlt' := Lib.hid hlt
  clear hb1 hrow hw1 hlt
  go_wp2_with fail
  refine (HC _).mono ?_
  rintro e w2 ⟨rfl, hb2⟩
  have c1 : w2.cell? ⟨B, 1, none⟩ = some (.int .i64 g1) := (hb2.cell (p := ⟨B, 1, none⟩) hlt'.out).trans d1
  have hrow2 : Aside0 (w2.heap[B]? = some (.cells #[.int .i64 g0, .int .i64 g1, .int .i64 g2, .int .i64 g3, .int .i64 g4, .int .i64 g5] 37 (0, 0))) := ⟨(hb2.block _ hlt'.out).trans hrow'.out⟩
  have hw2 : Aside0 (Below B w w2) := ⟨hw1'.out.trans (hb2.mono (Nat.le_of_lt hlt'.out))⟩
  clear d0 d1 d2 d3 d4 d5 hb2 hrow' hw1' hlt' HC
  go_wp2
  go_ret
  exact ⟨rfl, hB ▸ hw2.out⟩
set_option maxHeartbeats 2000000 in
set_option maxRecDepth 100000 in
theorem costMore_p (g0 g1 g2 g3 g4 g5 p t : Int) (w : World) (r : Int) (hr : (r != 0) = false) (h1 : decide (p < 0) = true)
    (HC : ∀ w, Calls Tryd.prog 18 #[.agg #[.int .i64 g0, .int .i64 g1, .int .i64 g2, .int .i64 g3, .int .i64 g4, .int .i64 g5]] w fun e w' => e = .returned (.int .i64 r) ∧ Below w.heap.size w w') :
    Calls Tryd.prog 5 #[.agg #[.int .i64 g0, .int .i64 g1, .int .i64 g2, .int .i64 g3, .int .i64 g4, .int .i64 g5], .int .i64 p, .int .i64 t] w fun e w' => e = .returned (.bool true) ∧ Below w.heap.size w w' := by
  have hu37 := Tryd.underlying37
  go_enter Tryd.func5, Tryd.ntmps5
  go_wp2_with fail
  refine (works_spec _).mono ?_
  rintro e w1 ⟨rfl, hb1⟩
  have hrow : w1.heap[w.heap.size]? = some (.cells #[.int .i64 g0, .int .i64 g1, .int .i64 g2, .int .i64 g3, .int .i64 g4, .int .i64 g5] 37 (0, 0)) := (hb1.block _ (by simp)).trans (heap_alloc_new w _)
  have hw1 : Below w.heap.size w w1 := ((Below.refl _ w).alloc (Nat.le_refl _) _).trans (hb1.mono (by simp))
  have hlt : w.heap.size < w1.heap.size := (Array.getElem?_eq_some_iff.1 hrow).1
  generalize hB : w.heap.size = B at *
  have d0 : w1.cell? ⟨B, 0, none⟩ = some (.int .i64 g0) := (blk_cell hrow 0).trans rfl
  have d1 : w1.cell? ⟨B, 1, none⟩ = some (.int .i64 g1) := (blk_cell hrow 1).trans rfl
  have d2 : w1.cell? ⟨B, 2, none⟩ = some (.int .i64 g2) := (blk_cell hrow 2).trans rfl
  have d3 : w1.cell? ⟨B, 3, none⟩ = some (.int .i64 g3) := (blk_cell hrow 3).trans rfl
  have d4 : w1.cell? ⟨B, 4, none⟩ = some (.int .i64 g4) := (blk_cell hrow 4).trans rfl
  have d5 : w1.cell? ⟨B, 5, none⟩ = some (.int .i64 g5) := (blk_cell hrow 5).trans rfl
  have hrow' := Aside0.mk hrow
  have hw1' := Aside0.mk hw1
  have hlt' := Lib.hid hlt
  clear hb1 hrow hw1 hlt
  go_wp2_with fail
  refine (HC _).mono ?_
  rintro e w2 ⟨rfl, hb2⟩
  have c1 : w2.cell? ⟨B, 1, none⟩ = some (.int .i64 g1) := (hb2.cell (p := ⟨B, 1, none⟩) hlt'.out).trans d1
  have hrow2 : Aside0 (w2.heap[B]? = some (.cells #[.int .i64 g0, .int .i64 g1, .int .i64 g2, .int .i64 g3, .int .i64 g4, .int .i64 g5] 37 (0, 0))) := ⟨(hb2.block _ hlt'.out).trans hrow'.out⟩
  have hw2 : Aside0 (Below B w w2) := ⟨hw1'.out.trans (hb2.mono (Nat.le_of_lt hlt'.out))⟩
  clear d0 d1 d2 d3 d4 d5 hb2 hrow' hw1' hlt' HC
  go_wp2
  go_ret
  exact ⟨rfl, hB ▸ hw2.out⟩
set_option maxHeartbeats 2000000 in
set_option maxRecDepth 100000 in
theorem costMore_q (g0 g1 g2 g3 g4 g5 p t : Int) (w : World) (r : Int) (hr : (r != 0) = false) (h1 : decide (p < 0) = false) (A : Int) (eA : IntKind.i64.wrap (3 * g1) = A) (h2 : decide (A ≤ p) = true)
    (HC : ∀ w, Calls Tryd.prog 18 #[.agg #[.int .i64 g0, .int .i64 g1, .int .i64 g2, .int .i64 g3, .int .i64 g4, .int .i64 g5]] w fun e w' => e = .returned (.int .i64 r) ∧ Below w.heap.size w w') :
    Calls Tryd.prog 5 #[.agg #[.int .i64 g0, .int .i64 g1, .int .i64 g2, .int .i64 g3, .int .i64 g4, .int .i64 g5], .int .i64 p, .int .i64 t] w fun e w' => e = .returned (.bool true) ∧ Below w.heap.size w w' := by
  have hu37 := Tryd.underlying37
  go_enter Tryd.func5, Tryd.ntmps5
  go_wp2_with fail
  refine (works_spec _).mono ?_
  rintro e w1 ⟨rfl, hb1⟩
  have hrow : w1.heap[w.heap.size]? = some (.cells #[.int .i64 g0, .int .i64 g1, .int .i64 g2, .int .i64 g3, .int .i64 g4, .int .i64 g5] 37 (0, 0)) := (hb1.block _ (by simp)).trans (heap_alloc_new w _)
  have hw1 : Below w.heap.size w w1 := ((Below.refl _ w).alloc (Nat.le_refl _) _).trans (hb1.mono (by simp))
  have hlt : w.heap.size < w1.heap.size := (Array.getElem?_eq_some_iff.1 hrow).1
  generalize hB : w.heap.size = B at *
  have d0 : w1.cell? ⟨B, 0, none⟩ = some (.int .i64 g0) := (blk_cell hrow 0).trans rfl
  have d1 : w1.cell? ⟨B, 1, none⟩ = some (.int .i64 g1) := (blk_cell hrow 1).trans rfl
  have d2 : w1.cell? ⟨B, 2, none⟩ = some (.int .i64 g2) := (blk_cell hrow 2).trans rfl
  have d3 : w1.cell? ⟨B, 3, none⟩ = some (.int .i64 g3) := (blk_cell hrow 3).trans rfl
  have d4 : w1.cell? ⟨B, 4, none⟩ = some (.int .i64 g4) := (blk_cell hrow 4).trans rfl
  have d5 : w1.cell? ⟨B, 5, none⟩ = some (.int .i64 g5) := (blk_cell hrow 5).trans rfl
  have hrow' := Aside0.mk hrow
  have hw1' := Aside0.mk hw1
  have hlt' := Lib.hid hlt
  clear hb1 hrow hw1 hlt
  go_wp2_with fail
  refine (HC _).mono ?_
  rintro e w2 ⟨rfl, hb2⟩
  have c1 : w2.cell? ⟨B, 1, none⟩ = some (.int .i64 g1) := (hb2.cell (p := ⟨B, 1, none⟩) hlt'.out).trans d1
  have hrow2 : Aside0 (w2.heap[B]? = some (.cells #[.int .i64 g0, .int .i64 g1, .int .i64 g2, .int .i64 g3, .int .i64 g4, .int .i64 g5] 37 (0, 0))) := ⟨(hb2.block _ hlt'.out).trans hrow'.out⟩
  have hw2 : Aside0 (Below B w w2) := ⟨hw1'.out.trans (hb2.mono (Nat.le_of_lt hlt'.out))⟩
  clear d0 d1 d2 d3 d4 d5 hb2 hrow' hw1' hlt' HC
  go_wp2
  go_ret
  exact ⟨rfl, hB ▸ hw2.out⟩
set_option maxHeartbeats 2000000 in
set_option maxRecDepth 100000 in
theorem costMore_r (g0 g1 g2 g3 g4 g5 p t : Int) (w : World) (r : Int) (hr : (r != 0) = false) (h1 : decide (p < 0) = false) (A : Int) (eA : IntKind.i64.wrap (3 * g1) = A) (h2 : decide (A ≤ p) = false) (h3 : decide (t < 0) = true)
    (HC : ∀ w, Calls Tryd.prog 18 #[.agg #[.int .i64 g0, .int .i64 g1, .int .i64 g2, .int .i64 g3, .int .i64 g4, .int .i64 g5]] w fun e w' => e = .returned (.int .i64 r) ∧ Below w.heap.size w w') :
    Calls Tryd.prog 5 #[.agg #[.int .i64 g0, .int .i64 g1, .int .i64 g2, .int .i64 g3, .int .i64 g4, .int .i64 g5], .int .i64 p, .int .i64 t] w fun e w' => e = .returned (.bool true) ∧ Below w.heap.size w w' := by
  have hu37 := Tryd.underlying37
  go_enter Tryd.func5, Tryd.ntmps5
  go_wp2_with fail
  refine (works_spec _).mono ?_
  rintro e w1 ⟨rfl, hb1⟩
  have hrow : w1.heap[w.heap.size]? = some (.cells #[.int .i64 g0, .int .i64 g1, .int .i64 g2, .int .i64 g3, .int .i64 g4, .int .i64 g5] 37 (0, 0)) := (hb1.block _ (by simp)).trans (heap_alloc_new w _)
  have hw1 : Below w.heap.size w w1 := ((Below.refl _ w).alloc (Nat.le_refl _) _).trans (hb1.mono (by simp))
  have hlt : w.heap.size < w1.heap.size := (Array.getElem?_eq_some_iff.1 hrow).1
  generalize hB : w.heap.size = B at *
  have d0 : w1.cell? ⟨B, 0, none⟩ = some (.int .i64 g0) := (blk_cell hrow 0).trans rfl
  have d1 : w1.cell? ⟨B, 1, none⟩ = some (.int .i64 g1) := (blk_cell hrow 1).trans rfl
  have d2 : w1.cell? ⟨B, 2, none⟩ = some (.int .i64 g2) := (blk_cell hrow 2).trans rfl
  have d3 : w1.cell? ⟨B, 3, none⟩ = some (.int .i64 g3) := (blk_cell hrow 3).trans rfl
  have d4 : w1.cell? ⟨B, 4, none⟩ = some (.int .i64 g4) := (blk_cell hrow 4).trans rfl
  have d5 : w1.cell? ⟨B, 5, none⟩ = some (.int .i64 g5) := (blk_cell hrow 5).trans rfl
  have hrow' := Aside0.mk hrow
  have hw1' := Aside0.mk hw1
  have hlt' := Lib.hid hlt
  clear hb1 hrow hw1 hlt
  go_wp2_with fail
  refine (HC _).mono ?_
  rintro e w2 ⟨rfl, hb2⟩
  have c1 : w2.cell? ⟨B, 1, none⟩ = some (.int .i64 g1) := (hb2.cell (p := ⟨B, 1, none⟩) hlt'.out).trans d1
  have hrow2 : Aside0 (w2.heap[B]? = some (.cells #[.int .i64 g0, .int .i64 g1, .int .i64 g2, .int .i64 g3, .int .i64 g4, .int .i64 g5] 37 (0, 0))) := ⟨(hb2.block _ hlt'.out).trans hrow'.out⟩
  have hw2 : Aside0 (Below B w w2) := ⟨hw1'.out.trans (hb2.mono (Nat.le_of_lt hlt'.out))⟩
  clear d0 d1 d2 d3 d4 d5 hb2 hrow' hw1' hlt' HC
  go_wp2
  go_ret
  exact ⟨rfl, hB ▸ hw2.out⟩
set_option maxHeartbeats 2000000 in
set_option maxRecDepth 100000 in
theorem costMore_s (g0 g1 g2 g3 g4 g5 p t : Int) (w : World) (r : Int) (hr : (r != 0) = false) (h1 : decide (p < 0) = false) (A : Int) (eA : IntKind.i64.wrap (3 * g1) = A) (h2 : decide (A ≤ p) = false) (h3 : decide (t < 0) = false) (h4 : decide (p ≤ t) = true)
    (HC : ∀ w, Calls Tryd.prog 18 #[.agg #[.int .i64 g0, .int .i64 g1, .int .i64 g2, .int .i64 g3, .int .i64 g4, .int .i64 g5]] w fun e w' => e = .returned (.int .i64 r) ∧ Below w.heap.size w w') :
    Calls Tryd.prog 5 #[.agg #[.int .i64 g0, .int .i64 g1, .int .i64 g2, .int .i64 g3, .int .i64 g4, .int .i64 g5], .int .i64 p, .int .i64 t] w fun e w' => e = .returned (.bool true) ∧ Below w.heap.size w w' := by
  have hu37 := Tryd.underlying37
  go_enter Tryd.func5, Tryd.ntmps5
  go_wp2_with fail
  refine (works_spec _).mono ?_
  rintro e w1 ⟨rfl, hb1⟩
  have hrow : w1.heap[w.heap.size]? = some (.cells #[.int .i64 g0, .int .i64 g1, .int .i64 g2, .int .i64 g3, .int .i64 g4, .int .i64 g5] 37 (0, 0)) := (hb1.block _ (by simp)).trans (heap_alloc_new w _)
  have hw1 : Below w.heap.size w w1 := ((Below.refl _ w).alloc (Nat.le_refl _) _).trans (hb1.mono (by simp))
  have hlt : w.heap.size < w1.heap.size := (Array.getElem?_eq_some_iff.1 hrow).1
  generalize hB : w.heap.size = B at *
  have d0 : w1.cell? ⟨B, 0, none⟩ = some (.int .i64 g0) := (blk_cell hrow 0).trans rfl
  have d1 : w1.cell? ⟨B, 1, none⟩ = some (.int .i64 g1) := (blk_cell hrow 1).trans rfl
  have d2 : w1.cell? ⟨B, 2, none⟩ = some (.int .i64 g2) := (blk_cell hrow 2).trans rfl
  have d3 : w1.cell? ⟨B, 3, none⟩ = some (.int .i64 g3) := (blk_cell hrow 3).trans rfl
  have d4 : w1.cell? ⟨B, 4, none⟩ = some (.int .i64 g4) := (blk_cell hrow 4).trans rfl
  have d5 : w1.cell? ⟨B, 5, none⟩ = some (.int .i64 g5) := (blk_cell hrow 5).trans rfl
  have hrow' := Aside0.mk hrow
  have hw1' := Aside0.mk hw1
  have hlt' := Lib.hid hlt
  clear hb1 hrow hw1 hlt
  go_wp2_with fail
  refine (HC _).mono ?_
  rintro e w2 ⟨rfl, hb2⟩
  have c1 : w2.cell? ⟨B, 1, none⟩ = some (.int .i64 g1) := (hb2.cell (p := ⟨B, 1, none⟩) hlt'.out).trans d1
  have hrow2 : Aside0 (w2.heap[B]? = some (.cells #[.int .i64 g0, .int .i64 g1, .int .i64 g2, .int .i64 g3, .int .i64 g4, .int .i64 g5] 37 (0, 0))) := ⟨(hb2.block _ hlt'.out).trans hrow'.out⟩
  have hw2 : Aside0 (Below B w w2) := ⟨hw1'.out.trans (hb2.mono (Nat.le_of_lt hlt'.out))⟩
  clear d0 d1 d2 d3 d4 d5 hb2 hrow' hw1' hlt' HC
  go_wp2
  go_ret
  exact ⟨rfl, hB ▸ hw2.out⟩
set_option maxHeartbeats 4000000 in
set_option maxRecDepth 100000 in
theorem costMore_good (g0 g1 g2 g3 g4 g5 p t : Int) (w : World) (r : Int) (hT : Aside0 (Tabs w)) (hr : (r != 0) = false) (h1 : decide (p < 0) = false) (A : Int) (eA : IntKind.i64.wrap (3 * g1) = A) (h2 : decide (A ≤ p) = false) (h3 : decide (t < 0) = false) (h4 : decide (p ≤ t) = false)
    (HC : ∀ w, Calls Tryd.prog 18 #[.agg #[.int .i64 g0, .int .i64 g1, .int .i64 g2, .int .i64 g3, .int .i64 g4, .int .i64 g5]] w fun e w' => e = .returned (.int .i64 r) ∧ Below w.heap.size w w')
    (p1 t1 a b c d : Int) (ep : IntKind.i64.wrap (p + 1) = p1) (et : IntKind.i64.wrap (t + 1) = t1) (F1 : Hid (∀ w, Tabs w → Calls Tryd.prog 19 #[.agg #[.int .i64 g0, .int .i64 g1, .int .i64 g2, .int .i64 g3, .int .i64 g4, .int .i64 g5], .int .i64 p, .int .i64 t] w fun e w' => e = .returned (.tuple #[.int .i64 a, .int .i64 0]) ∧ Below w.heap.size w w')) (F2 : Hid (∀ w, Tabs w → Calls Tryd.prog 19 #[.agg #[.int .i64 g0, .int .i64 g1, .int .i64 g2, .int .i64 g3, .int .i64 g4, .int .i64 g5], .int .i64 p1, .int .i64 t] w fun e w' => e = .returned (.tuple #[.int .i64 b, .int .i64 0]) ∧ Below w.heap.size w w')) (F3 : Hid (∀ w, Tabs w → Calls Tryd.prog 19 #[.agg #[.int .i64 g0, .int .i64 g1, .int .i64 g2, .int .i64 g3, .int .i64 g4, .int .i64 g5], .int .i64 p, .int .i64 t1] w fun e w' => e = .returned (.tuple #[.int .i64 c, .int .i64 0]) ∧ Below w.heap.size w w')) (F4 : Hid (∀ w, Tabs w → Calls Tryd.prog 19 #[.agg #[.int .i64 g0, .int .i64 g1, .int .i64 g2, .int .i64 g3, .int .i64 g4, .int .i64 g5], .int .i64 0, .int .i64 0] w fun e w' => e = .returned (.tuple #[.int .i64 d, .int .i64 0]) ∧ Below w.heap.size w w'))
    (m1 : IntKind.i64.wrap (b - a) = 135000) (m2 : IntKind.i64.wrap (c - a) = 105000) (m3 : decide (d < a) = true) (m4 : decide (0 < d) = true) :
    Calls Tryd.prog 5 #[.agg #[.int .i64 g0, .int .i64 g1, .int .i64 g2, .int .i64 g3, .int .i64 g4, .int .i64 g5], .int .i64 p, .int .i64 t] w fun e w' => e = .returned (.bool true) ∧ Below w.heap.size w w' := by
  have hu37 := Tryd.underlying37
  go_enter Tryd.func5, Tryd.ntmps5
  go_wp2_with fail
  refine (works_spec _).mono ?_
  rintro e w1 ⟨rfl, hb1⟩
  have hrow : w1.heap[w.heap.size]? = some (.cells #[.int .i64 g0, .int .i64 g1, .int .i64 g2, .int .i64 g3, .int .i64 g4, .int .i64 g5] 37 (0, 0)) := (hb1.block _ (by simp)).trans (heap_alloc_new w _)
  have hw1 : Below w.heap.size w w1 := ((Below.refl _ w).alloc (Nat.le_refl _) _).trans (hb1.mono (by simp))
  have hlt : w.heap.size < w1.heap.size := (Array.getElem?_eq_some_iff.1 hrow).1
  generalize hB : w.heap.size = B at *
  have d0 : w1.cell? ⟨B, 0, none⟩ = some (.int .i64 g0) := (blk_cell hrow 0).trans rfl
  have d1 : w1.cell? ⟨B, 1, none⟩ = some (.int .i64 g1) := (blk_cell hrow 1).trans rfl
  have d2 : w1.cell? ⟨B, 2, none⟩ = some (.int .i64 g2) := (blk_cell hrow 2).trans rfl
  have d3 : w1.cell? ⟨B, 3, none⟩ = some (.int .i64 g3) := (blk_cell hrow 3).trans rfl
  have d4 : w1.cell? ⟨B, 4, none⟩ = some (.int .i64 g4) := (blk_cell hrow 4).trans rfl
  have d5 : w1.cell? ⟨B, 5, none⟩ = some (.int .i64 g5) := (blk_cell hrow 5).trans rfl
  have hrow' := Aside0.mk hrow
  have hw1' := Aside0.mk hw1
  have hlt' := Lib.hid hlt
  have hT1 := Aside0.mk (tabs_below hT.out (hB ▸ hw1))
  clear hb1 hrow hw1 hlt
  go_wp2_with fail
  refine (HC _).mono ?_
  rintro e w2 ⟨rfl, hb2⟩
  have c1 : w2.cell? ⟨B, 1, none⟩ = some (.int .i64 g1) := (hb2.cell (p := ⟨B, 1, none⟩) hlt'.out).trans d1
  have hrow2 : Aside0 (w2.heap[B]? = some (.cells #[.int .i64 g0, .int .i64 g1, .int .i64 g2, .int .i64 g3, .int .i64 g4, .int .i64 g5] 37 (0, 0))) := ⟨(hb2.block _ hlt'.out).trans hrow'.out⟩
  have hw2 : Aside0 (Below B w w2) := ⟨hw1'.out.trans (hb2.mono (Nat.le_of_lt hlt'.out))⟩
  have hT2 := Aside0.mk (tabs_below hT1.out hb2)
  clear c1
  have c1 : w2.cell? ⟨B, 1, none⟩ = some (.int .i64 g1) := (blk_cell hrow2.out 1).trans rfl
  clear d0 d1 d2 d3 d4 d5 hb2 hrow' hw1' hlt'
  have d0 : w2.cell? ⟨B, 0, none⟩ = some (.int .i64 g0) := (blk_cell hrow2.out 0).trans rfl
  have d1 : w2.cell? ⟨B, 1, none⟩ = some (.int .i64 g1) := (blk_cell hrow2.out 1).trans rfl
  have d2 : w2.cell? ⟨B, 2, none⟩ = some (.int .i64 g2) := (blk_cell hrow2.out 2).trans rfl
  have d3 : w2.cell? ⟨B, 3, none⟩ = some (.int .i64 g3) := (blk_cell hrow2.out 3).trans rfl
  have d4 : w2.cell? ⟨B, 4, none⟩ = some (.int .i64 g4) := (blk_cell hrow2.out 4).trans rfl
  have d5 : w2.cell? ⟨B, 5, none⟩ = some (.int .i64 g5) := (blk_cell hrow2.out 5).trans rfl
  go_wp2_with fail
  refine (F1.out _ hT2.out).mono ?_
  rintro e w3 ⟨rfl, hb⟩
  have hlt : Hid (B < w2.heap.size) := Lib.hid (Array.getElem?_eq_some_iff.1 hrow2.out).1
  have hrow3 : Aside0 (w3.heap[B]? = some (.cells #[.int .i64 g0, .int .i64 g1, .int .i64 g2, .int .i64 g3, .int .i64 g4, .int .i64 g5] 37 (0, 0))) := ⟨(hb.block _ hlt.out).trans hrow2.out⟩
  have hw3 : Aside0 (Below B w w3) := ⟨hw2.out.trans (hb.mono (Nat.le_of_lt hlt.out))⟩
  have hT3 := Aside0.mk (tabs_below hT2.out hb)
  clear d0 d1 d2 d3 d4 d5 hb hlt hrow2 hw2 hT2
  have d0 : w3.cell? ⟨B, 0, none⟩ = some (.int .i64 g0) := (blk_cell hrow3.out 0).trans rfl
  have d1 : w3.cell? ⟨B, 1, none⟩ = some (.int .i64 g1) := (blk_cell hrow3.out 1).trans rfl
  have d2 : w3.cell? ⟨B, 2, none⟩ = some (.int .i64 g2) := (blk_cell hrow3.out 2).trans rfl
  have d3 : w3.cell? ⟨B, 3, none⟩ = some (.int .i64 g3) := (blk_cell hrow3.out 3).trans rfl
  have d4 : w3.cell? ⟨B, 4, none⟩ = some (.int .i64 g4) := (blk_cell hrow3.out 4).trans rfl
  have d5 : w3.cell? ⟨B, 5, none⟩ = some (.int .i64 g5) := (blk_cell hrow3.out 5).trans rfl
  go_wp2_with fail
  refine (F2.out _ hT3.out).mono ?_
  rintro e w4 ⟨rfl, hb⟩
  have hlt : Hid (B < w3.heap.size) := Lib.hid (Array.getElem?_eq_some_iff.1 hrow3.out).1
  have hrow4 : Aside0 (w4.heap[B]? = some (.cells #[.int .i64 g0, .int .i64 g1, .int .i64 g2, .int .i64 g3, .int .i64 g4, .int .i64 g5] 37 (0, 0))) := ⟨(hb.block _ hlt.out).trans hrow3.out⟩
  have hw4 : Aside0 (Below B w w4) := ⟨hw3.out.trans (hb.mono (Nat.le_of_lt hlt.out))⟩
  have hT4 := Aside0.mk (tabs_below hT3.out hb)
  clear d0 d1 d2 d3 d4 d5 hb hlt hrow3 hw3 hT3
  have d0 : w4.cell? ⟨B, 0, none⟩ = some (.int .i64 g0) := (blk_cell hrow4.out 0).trans rfl
  have d1 : w4.cell? ⟨B, 1, none⟩ = some (.int .i64 g1) := (blk_cell hrow4.out 1).trans rfl
  have d2 : w4.cell? ⟨B, 2, none⟩ = some (.int .i64 g2) := (blk_cell hrow4.out 2).trans rfl
  have d3 : w4.cell? ⟨B, 3, none⟩ = some (.int .i64 g3) := (blk_cell hrow4.out 3).trans rfl
  have d4 : w4.cell? ⟨B, 4, none⟩ = some (.int .i64 g4) := (blk_cell hrow4.out 4).trans rfl
  have d5 : w4.cell? ⟨B, 5, none⟩ = some (.int .i64 g5) := (blk_cell hrow4.out 5).trans rfl
  go_wp2_with fail
  refine (F3.out _ hT4.out).mono ?_
  rintro e w5 ⟨rfl, hb⟩
  have hlt : Hid (B < w4.heap.size) := Lib.hid (Array.getElem?_eq_some_iff.1 hrow4.out).1
  have hrow5 : Aside0 (w5.heap[B]? = some (.cells #[.int .i64 g0, .int .i64 g1, .int .i64 g2, .int .i64 g3, .int .i64 g4, .int .i64 g5] 37 (0, 0))) := ⟨(hb.block _ hlt.out).trans hrow4.out⟩
  have hw5 : Aside0 (Below B w w5) := ⟨hw4.out.trans (hb.mono (Nat.le_of_lt hlt.out))⟩
  have hT5 := Aside0.mk (tabs_below hT4.out hb)
  clear d0 d1 d2 d3 d4 d5 hb hlt hrow4 hw4 hT4
  have d0 : w5.cell? ⟨B, 0, none⟩ = some (.int .i64 g0) := (blk_cell hrow5.out 0).trans rfl
  have d1 : w5.cell? ⟨B, 1, none⟩ = some (.int .i64 g1) := (blk_cell hrow5.out 1).trans rfl
  have d2 : w5.cell? ⟨B, 2, none⟩ = some (.int .i64 g2) := (blk_cell hrow5.out 2).trans rfl
  have d3 : w5.cell? ⟨B, 3, none⟩ = some (.int .i64 g3) := (blk_cell hrow5.out 3).trans rfl
  have d4 : w5.cell? ⟨B, 4, none⟩ = some (.int .i64 g4) := (blk_cell hrow5.out 4).trans rfl
  have d5 : w5.cell? ⟨B, 5, none⟩ = some (.int .i64 g5) := (blk_cell hrow5.out 5).trans rfl
  go_wp2_with fail
  refine (F4.out _ hT5.out).mono ?_
  rintro e w6 ⟨rfl, hb⟩
  have hlt : Hid (B < w5.heap.size) := Lib.hid (Array.getElem?_eq_some_iff.1 hrow5.out).1
  have hrow6 : Aside0 (w6.heap[B]? = some (.cells #[.int .i64 g0, .int .i64 g1, .int .i64 g2, .int .i64 g3, .int .i64 g4, .int .i64 g5] 37 (0, 0))) := ⟨(hb.block _ hlt.out).trans hrow5.out⟩
  have hw6 : Aside0 (Below B w w6) := ⟨hw5.out.trans (hb.mono (Nat.le_of_lt hlt.out))⟩
  have hT6 := Aside0.mk (tabs_below hT5.out hb)
  clear d0 d1 d2 d3 d4 d5 hb hlt hrow5 hw5 hT5
  go_wp2
  go_ret
  exact ⟨rfl, hB ▸ hw6.out⟩
theorem costMore_calls (g0 g1 g2 g3 g4 g5 p t : Int) (w : World) (hT : Tabs w) :
    Calls Tryd.prog 5 #[.agg #[.int .i64 g0, .int .i64 g1, .int .i64 g2, .int .i64 g3, .int .i64 g4, .int .i64 g5], .int .i64 p, .int .i64 t] w fun e w' => e = .returned (.bool true) ∧ Below w.heap.size w w' := by
  obtain ⟨r, hf, hg⟩ := check_some g0 g1 g2 g3 g4 g5
  have HC := fun w => geom_Check.calls 9 g0 g1 g2 g3 g4 g5 r w hf
  by_cases hr : r = 0
  · have hr' : (r != 0) = false := by rw [hr]; rfl
    have hi : ∀ x : Int, -1000000000 ≤ x → x ≤ 1000000000 → IntKind.i64.wrap x = x := fun x h1 h2 => by rw [i64_w]; unfold wrap64; omega
    have hg2 := hg hr
    by_cases h1 : p < 0
    · exact costMore_p g0 g1 g2 g3 g4 g5 p t w r hr' (decide_eq_true h1) HC
    · have eA := hi (3 * g1) (by omega) (by omega)
      by_cases h2 : 3 * g1 ≤ p
      · exact costMore_q g0 g1 g2 g3 g4 g5 p t w r hr' (decide_eq_false h1) _ eA (decide_eq_true h2) HC
      · by_cases h3 : t < 0
        · exact costMore_r g0 g1 g2 g3 g4 g5 p t w r hr' (decide_eq_false h1) _ eA (decide_eq_false h2) (decide_eq_true h3) HC
        · by_cases h4 : p ≤ t
          · exact costMore_s g0 g1 g2 g3 g4 g5 p t w r hr' (decide_eq_false h1) _ eA (decide_eq_false h2) (decide_eq_false h3) (decide_eq_true h4) HC
          · subst hr
            exact costMore_good g0 g1 g2 g3 g4 g5 p t w 0 ⟨hT⟩ hr' (decide_eq_false h1) _ eA (decide_eq_false h2) (decide_eq_false h3) (decide_eq_false h4) HC
              (p + 1) (t + 1) _ _ _ _ (hi _ (by omega) (by omega)) (hi _ (by omega) (by omega))
              (Lib.hid fun w hT => fold_spec g0 g1 g2 g3 g4 g5 p t w hT HC hg2 (by omega) (by omega))
              (Lib.hid fun w hT => fold_spec g0 g1 g2 g3 g4 g5 (p + 1) t w hT HC hg2 (by omega) (by omega))
              (Lib.hid fun w hT => fold_spec g0 g1 g2 g3 g4 g5 p (t + 1) w hT HC hg2 (by omega) (by omega))
              (Lib.hid fun w hT => fold_spec g0 g1 g2 g3 g4 g5 0 0 w hT HC hg2 (by omega) (by omega))
              ((hi _ (by omega) (by omega)).trans (by omega)) ((hi _ (by omega) (by omega)).trans (by omega)) (decide_eq_true (by omega)) (decide_eq_true (by omega))
  · exact costMore_bad g0 g1 g2 g3 g4 g5 p t w r (by rw [bne_iff_ne]; exact hr) HC
end Go.Proofs.YtnamndioodnelaaDoor.PQ
