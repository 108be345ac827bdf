/- Pend.Trims, walked. -/
import Derived.RangeFuncNested
import Derived.RangeFuncBound
import Derived.RangeFuncCalls
import Derived.RangeFuncLeaves
import Derived.RangeFuncBox
import Derived.Shelf.Abstract
import Derived.Shelf.RegionOpen
import Derived.WalkKit
import Derived.OwnWalkIn
import Derived.TacticsInMore
import Derived.LoopNIn
import Derived.LoopIn
import Derived.Maps.AppendAt
import Derived.Test.YtkamgpjpnjikgaaTake
namespace Go.Proofs.Ytkamgpjpnjikgaa.PQ
open Go.RowKit Go.Proofs.YtkamgpjpnjikgaaW.PrintWords Go.Proofs.YtkamgpjpnjikgaaW.PrintLast Go.Proofs.YtkamgpjpnjikgaaW.PrintMore Go.Shelf
set_option linter.unusedVariables false
set_option linter.unusedSimpArgs false
attribute [local go_sem] Oper.semAt_some
def trL (L : List S27) : Nat := (L.filter fun x => decide (x.f0 = 1)).length
theorem trL_le (L : List S27) : trL L ≤ L.length := List.length_filter_le _ _
theorem trL_snoc (L : List S27) (x : S27) : trL (L ++ [x]) = if x.f0 = 1 then trL L + 1 else trL L := by
  unfold trL
  rw [List.filter_append, List.length_append]
  by_cases h : x.f0 = 1 <;> simp [h]
theorem box_own {β : Type} (Y t B : Nat) (f : β → Value) : OwnFrom B (fun (s : β) W => Boxed W Y t (f s)) :=
  fun s W W' row h hg hr => h.kept hg (not_cells hr h)
theorem Same.set {T : Nat → Prop} {W : World} {Y i : Nat} (v : Value) (hY : ¬ T Y) : Same T W (W.setCell ⟨Y, i, none⟩ v) := fun k hk => Below.heap_setCell _ _ _ k (fun e => hY ((show k = Y from e) ▸ hk))
set_option maxHeartbeats 8000000 in
set_option maxRecDepth 100000 in
theorem trims_calls (b0 : Nat) (L : List S27) (P M : Nat) (ov : Value) (D : DataW Value) (w : World) (hL : L.length ≤ 100000) (H : Aside0 (PAt b0 L P M ov D w)) :
    Calls Try.prog 13 #[.pointer (some ⟨P, 0, none⟩)] w fun e w' => e = .returned (.int .i64 (trL L)) ∧ Below w.heap.size w w' := by
  refine (callsIn_wide (n := 7)).1 (callsIn_of_wp_marks Try.func13 rfl trivial ?_ rfl)
  simp only [Try.ntmps13, List.size_toArray, List.length_cons, List.length_nil, Nat.reduceAdd, Nat.reduceSub, Array.replicate_succ, Array.replicate_zero, List.push_toArray, List.append_toArray, List.nil_append, List.cons_append]
  have hB1 : Below w.heap.size w (w.alloc (.cells #[.int .i64 0] 3)) := (Below.refl _ w).alloc (Nat.le_refl _) _
  have hB2 : Below w.heap.size w ((w.alloc (.cells #[.int .i64 0] 3)).alloc (.cells #[.pointer (some ⟨P, 0, none⟩)] 23)) := hB1.alloc (by simp) _
  have hY := (Boxed.new w 3 (.int .i64 0)).alloc (.cells #[.pointer (some ⟨P, 0, none⟩)] 23)
  have hX := Boxed.new (w.alloc (.cells #[.int .i64 0] 3)) 23 (.pointer (some ⟨P, 0, none⟩))
  have hs1 : (w.alloc (.cells #[.int .i64 0] 3)).heap.size = w.heap.size + 1 := by simp
  have hs2 : ((w.alloc (.cells #[.int .i64 0] 3)).alloc (.cells #[.pointer (some ⟨P, 0, none⟩)] 23)).heap.size = w.heap.size + 1 + 1 := by simp
  have H1 := H.out.below hB2
  have hTB : ∀ k, TB P M ov (w.heap.size + 1) k → k < w.heap.size + 2 ∧ k ≠ w.heap.size := fun k h => h.elim (fun h => by have := H.out.lt k h; omega) (fun e => by omega)
  rw [hs1] at hX
  have hall := Lib.hid fun w => all_calls P w
  replace hY := Aside0.mk hY
  replace hX := Aside0.mk hX
  replace hs2 := Aside0.mk hs2
  replace H1 := Aside0.mk H1
  replace hB2 := Aside0.mk hB2
  clear hB1
  gi_wp2_with fail
  refine ⟨trivial, (callsIn_wide.2 (hall.out _)).mono ?_⟩
  rintro e w3 ⟨rfl, rfl⟩
  rw [hs1]
  generalize (w.alloc (.cells #[.int .i64 0] 3)).alloc (.cells #[.pointer (some ⟨P, 0, none⟩)] 23) = w5 at *
  clear hs1 hall
  gi_wp2_with fail
  refine wpIn_rangeFunc_ownH rfl (by decide) (gf := 24) (lb := #[.pointer (some ⟨w.heap.size + 1, 0, none⟩)]) rfl trivial (enters_of Try.func24 (by kernel_rfl) rfl)
    (iter_stops b0 L P M ov D (w.heap.size + 1) w5 hL hX.out H1.out) same_t (same_b (fun k h => by have := (hTB k h).1; have := hs2.out; omega)) (Below.refl _ _) (fun _ => rfl)
    (fun pre W => Boxed W w.heap.size 3 (.int .i64 (trL pre)) ∧ Ch (fun k => k = w.heap.size) w5 W)
    (fun c pre1 W => False)
    (OwnFrom.and (box_own _ _ _ (fun pre => .int .i64 (trL pre))) (ch_own _ _ _ (Nat.le_refl _)))
    (fun c _ _ _ _ h _ _ => h)
    ⟨hY.out, Ch.refl _ _⟩
    (fun x a' W => ∃ Bx, w5.heap.size ≤ Bx ∧ W.heap[Bx]? = some (.cells #[.int .i64 x.f0, .int .i64 x.f1, .int .i64 x.f2] 27 (0, 0)) ∧ a' = { tmps := #[.pointer (some ⟨P, 0, none⟩), undef, .int .i64 0, .pointer (some ⟨w.heap.size, 0, none⟩), .pointer (some ⟨Bx, 0, none⟩), .pointer (some ⟨P, 0, none⟩), .func (.func 24) #[] #[.pointer (some ⟨w.heap.size + 1, 0, none⟩)], .agg #[.int .i64 x.f0, .int .i64 x.f1, .int .i64 x.f2], undef, undef, undef, undef, undef, undef], defers := [] })
    (fun x a' _ W W' row hs hg hr => by
      obtain ⟨Bx, h1, h2, h3⟩ := hs
      exact ⟨Bx, h1, (hg.block Bx (blk_lt h2) (not_cells hr h2)).trans h2, h3⟩)
    ?assign ?body ?done ?stop
  case assign =>
    rintro l pre x W K ⟨hS, hC⟩ hK
    unfold encS
    gi_wp2
    exact hK _ _ ((KeepsOthers.alloc _ _).from _) (Same.alloc W _ (fun k h => by have := (hTB k h).1; have := hC.size; have := hs2.out; omega)) ⟨hS.alloc _, hC.alloc _⟩ ⟨W.heap.size, hC.size, blk_new _ _, rfl⟩
  case body =>
    rintro l pre x a' W hl ⟨r, hr⟩ ⟨bv, hC⟩ ⟨Bx, hBx, bX, rfl⟩ hlt2
    have bvc := Boxed.cell bv
    have bvf := Boxed.frozen bv
    have x0 := (blk_cell bX 0).trans (rfl : _ = some (Value.int .i64 x.f0))
    have ht := trL_le pre
    have hsn := Lib.hid (trL_snoc pre x)
    by_cases h1 : x.f0 = 1
    · have z : (x.f0 == 1) = true := by simp [h1]
      have hw1 : wrap64 ((trL pre : Int) + 1) = ((trL pre + 1 : Nat) : Int) := by rw [Go.IntWalk.wrap64_in _ ⟨by omega, by omega⟩]; omega
      have hn1 := hsn.out
      rw [if_pos h1] at hn1
      replace hn1 := Lib.hid hn1
      clear h1 hsn
      gi_wp2
      refine ⟨(KeepsOthers.setCell _ _ _).from _, Same.set _ (fun h => (hTB _ h).2 rfl), ?_, hC.grown (grownBy_setCell' W w.heap.size _) (fun j ej => .inl (by cases ej; rfl))⟩
      rw [hn1.out]
      exact bv.set _
    · have z : (x.f0 == 1) = false := by simpa using h1
      have hn1 := hsn.out
      rw [if_neg h1] at hn1
      replace hn1 := Lib.hid hn1
      clear h1 hsn
      gi_wp2
      refine ⟨KeepsFrom.refl _ _, fun _ _ => rfl, ?_, hC⟩
      rw [hn1.out]
      exact bv
  case done =>
    rintro D xs W hD rfl ⟨bv, hC⟩ hK
    have bvc := Boxed.cell bv
    have hBW := Aside0.mk (hB2.out.trans (hC.below (by have := hs2.out; omega) (fun k e => by omega) : Below w.heap.size w5 W))
    have hK' := Lib.hid hK
    have hDs := Lib.hid hD
    clear bv hC hK hD
    gi_wp2
    refine ⟨by simp, .inl ⟨_, _, rfl, run_takeDeferred hK'.out, ?_⟩⟩
    have hBD : Below w.heap.size W (W.putObj D (.deferred none)) := belowK_b (w := w) (Nat.le_refl _) W D _ _ (by have := hs2.out; have := hDs.out; omega) hK'.out rfl rfl
    exact ⟨_, results_tmp rfl _ _ _, rfl, hBW.out.trans hBD⟩
  case stop =>
    rintro D c pre1 W hD hpre h hK
    exact h.elim
end Go.Proofs.Ytkamgpjpnjikgaa.PQ
