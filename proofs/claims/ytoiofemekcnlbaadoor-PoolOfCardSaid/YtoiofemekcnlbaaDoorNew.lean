/- New pools, walked. -/
import Derived.Test.YtoiofemekcnlbaaDoorList
import Derived.Outline
import Derived.OwnWalk
namespace Go.Proofs.YtoiofemekcnlbaaDoor.PQ
open Go.RowKit Go.Proofs.YtoiofemekcnlbaaDoorW.PrintWords Go.Proofs.YtoiofemekcnlbaaDoorW.PrintLast Go.Proofs.YtoiofemekcnlbaaDoorW.PrintMore
set_option linter.unusedVariables false
set_option linter.unusedSimpArgs false
theorem info56 : (Tryd.prog.info? 56).map (fun i => (i.zero, i.size, i.bytes)) = some (some (.agg #[.int .i64 0, .bool false]), 2, 16) := by kernel_rfl
theorem getD_rep (n k : Nat) : (List.replicate n ((0 : Int), false)).getD k (0, false) = (0, false) := by
  rw [List.getD_eq_getElem?_getD, List.getElem?_replicate]
  split <;> rfl
theorem made2 (n : Nat) : (madeCells (Value.agg #[.int .i64 0, .bool false]).cells (n * 2)).toList = cells2 (List.replicate n (0, false)) := by
  apply List.ext_getElem?
  intro i
  have hl : (cells2 (List.replicate n ((0 : Int), false))).length = n * 2 := by rw [cells2_len, List.length_replicate]
  have hl2 : (madeCells (Value.agg #[.int .i64 0, .bool false]).cells (n * 2)).toList.length = n * 2 := by rw [Array.length_toList, size_madeCells]
  by_cases h : i < n * 2
  · have hz : (Value.agg #[.int .i64 0, .bool false]).cells = #[.int .i64 0, .bool false] := rfl
    rw [hz] at hl2 ⊢
    obtain ⟨k, rfl | rfl⟩ : ∃ k, i = k * 2 ∨ i = k * 2 + 1 := ⟨i / 2, by omega⟩
    · rw [cells2_0 _ k (by rw [List.length_replicate]; omega), getD_rep, List.getElem?_eq_getElem (by omega)]
      simp [madeCells]
    · rw [cells2_1 _ k (by rw [List.length_replicate]; omega), getD_rep, List.getElem?_eq_getElem (by omega)]
      have e : (k * 2 + 1) % 2 = 1 := by omega
      simp [madeCells, e]
  · rw [List.getElem?_eq_none (by omega), List.getElem?_eq_none (by omega)]
theorem pool_made (n : Nat) (w w1 : World) (h1 : 1 ≤ n) (h2 : n ≤ 64) (hown : w1.ownsRow w.heap.size 56 2 (.slice (some ⟨w.heap.size, 0, none⟩) n n) n (madeCells (Value.agg #[.int .i64 0, .bool false]).cells (n * 2)).toList) :
    w1.heap[w.heap.size]? = some (.cells (cells2 (List.replicate n (0, false))).toArray 56 (0, 0)) := by
  rw [made2] at hown
  rcases hown.2 with ⟨h, _⟩ | ⟨g, cap, cur, hv, _, hh, _, _, hs, ht⟩
  · cases h
  · injection hv with hg _ hc
    injection hg with hg
    injection hg with hg
    subst hg hc
    rw [hh, ← ht, List.take_of_length_le (by rw [Array.length_toList]; omega)]
theorem pool_boxed (n : Nat) (w w1 : World) (h1 : 1 ≤ n) (h2 : n ≤ 64) (hh : w1.heap[w.heap.size]? = some (.cells (cells2 (List.replicate n (0, false))).toArray 56 (0, 0))) :
    PoolAt (List.replicate n (0, false)) w1.heap.size w.heap.size (w1.alloc (.cells #[.slice (some ⟨w.heap.size, 0, none⟩) n n] 53)) := by
  have hlt := (Array.getElem?_eq_some_iff.1 hh).1
  refine ⟨?_, (Below.heap_alloc w1 _ w.heap.size hlt).trans hh, by rw [List.length_replicate]; exact ⟨h1, h2⟩, fun x hx => ?_⟩
  · rw [List.length_replicate]; exact heap_alloc_new w1 _
  · rw [List.eq_of_mem_replicate hx]; exact ⟨by decide, by decide⟩
set_option maxHeartbeats 1000000 in
set_option maxRecDepth 100000 in
theorem new_no (n : Int) (w : World) (h : ¬ (1 ≤ n ∧ n ≤ 64)) :
    Calls Tryd.prog 9 #[.int .i64 n] w fun e w' => e = .returned (.tuple #[.pointer none, .int .i64 1]) ∧ w' = w := by
  by_cases h1 : n < 1
  · have g1 : decide (n < 1) = true := decide_eq_true h1
    clear h h1
    go_enter Tryd.func9, Tryd.ntmps9
    go_wp2
    go_ret2
    exact ⟨rfl, rfl⟩
  · have g1 : decide (n < 1) = false := decide_eq_false h1
    have g2 : decide (64 < n) = true := decide_eq_true (by omega)
    clear h h1
    go_enter Tryd.func9, Tryd.ntmps9
    go_wp2
    go_ret2
    exact ⟨rfl, rfl⟩
set_option maxHeartbeats 1000000 in
set_option maxRecDepth 100000 in
theorem new_yes (n : Nat) (w : World) (h1 : 1 ≤ n) (h2 : n ≤ 64) :
    Calls Tryd.prog 9 #[.int .i64 n] w fun e w' => Aside0 (∃ P, e = .returned (.tuple #[.pointer (some ⟨P, 0, none⟩), .int .i64 0]) ∧ w.heap.size ≤ P ∧ PoolAt (List.replicate n (0, false)) P w.heap.size w' ∧ Below w.heap.size w w') := by
  have g1 : decide ((n : Int) < 1) = false := decide_eq_false (by omega)
  have g2 : decide (64 < (n : Int)) = false := decide_eq_false (by omega)
  obtain ⟨i0, hi, hz0, hz1, hz2⟩ := info_parts info56
  go_enter Tryd.func9, Tryd.ntmps9
  go_wp2_with (at_make; refine wpList_make_full _ rfl (.tmp 10) (.tmp 10) 51 rfl w.heap.size 56 i0 _ 2 Tryd.underlying51 hi hz0 hz1 .i64 .i64 n n n rfl rfl rfl rfl ?b2 ?b3 (Nat.le_refl _) ?_; (case b2 => rw [hz2]; omega); (case b3 => unfold maxLen; omega); intro w1 hown hg; have hrow := Aside0.mk (pool_made n w w1 h1 h2 hown); have hb1 := Aside0.mk ((Below.refl w.heap.size w).grown hg (Nat.le_refl _) (fun j hj => by cases hj)); clear hown hg)
  go_ret2
  exact ⟨⟨w1.heap.size, rfl, hb1.out.size, pool_boxed n w w1 h1 h2 hrow.out, hb1.out.alloc hb1.out.size _⟩⟩
end Go.Proofs.YtoiofemekcnlbaaDoor.PQ
