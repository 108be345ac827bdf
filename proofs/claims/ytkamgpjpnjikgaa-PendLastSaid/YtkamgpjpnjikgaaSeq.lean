/- slices.AppendSeq, walked. -/
import Derived.RangeFuncNested
import Derived.RangeFuncBound
import Derived.RangeFuncCalls
import Derived.RangeFuncLeaves
import Derived.RangeFuncBox
import Derived.Shelf.Abstract
import Derived.Shelf.RegionOpen
import Derived.WalkKit
import Derived.OwnWalkIn
import Derived.TacticsInMore
import Derived.LoopNIn
import Derived.LoopIn
import Derived.Maps.AppendAt
import Derived.Test.YtkamgpjpnjikgaaIter
import Derived.Test.YtkamgpjpnjikgaaAppendIn
namespace Go.Proofs.Ytkamgpjpnjikgaa.PQ
open Go.RowKit Go.Proofs.YtkamgpjpnjikgaaW.PrintWords Go.Proofs.YtkamgpjpnjikgaaW.PrintLast Go.Proofs.YtkamgpjpnjikgaaW.PrintMore Go.Shelf
set_option linter.unusedVariables false
set_option linter.unusedSimpArgs false
attribute [local go_sem] Oper.semAt_some
/-- The records that have come, in the box of block X. -/
def SomeAt (X base : Nat) (l : List S27) (W : World) : Prop := ∃ v, Boxed W X 25 v ∧ Kd.R k27 27 W base (fun k => k ≠ X) v l
theorem not_cells {W : World} {row : Option Nat} {B : Nat} (hr : ∀ r, row = some r → B ≤ r ∧ ∃ o : Obj, W.heap[r]? = some o ∧ o.isCells = false) {k : Nat} {cells : Array Value} {q : Nat} (hk : W.heap[k]? = some (.cells cells q (0, 0))) : some k ≠ row := by
  intro e
  obtain ⟨_, o, ho, hoc⟩ := hr k e.symm
  rw [hk] at ho
  injection ho with ho
  subst ho
  simp [Obj.isCells] at hoc
theorem R_own {α : Type} {d : Kd α} {e base : Nat} {ok : Nat → Prop} {W W' : World} {row : Option Nat} {B : Nat} {v : Value} {l : List α} (hR : d.R e W base ok v l) (hg : W.grownBy W' row) (hr : ∀ r, row = some r → B ≤ r ∧ ∃ o : Obj, W.heap[r]? = some o ∧ o.isCells = false) : d.R e W' base ok v l :=
  Kd.R_mono (Kd.R_step (Kd.R_bound hR) (fun k hk hlt => by
    obtain ⟨_, _, _, q, _, cells, hc⟩ := hk
    exact hg.block k hlt (not_cells hr hc))) (fun k hk => hk.1)
theorem SomeAt.own {β : Type} (X base B : Nat) (f : β → List S27) : OwnFrom B (fun (s : β) W => SomeAt X base (f s) W) := by
  rintro s W W' row ⟨v, hb, hR⟩ hg hr
  exact ⟨v, hb.kept hg (not_cells hr hb), R_own hR hg hr⟩
theorem ch_own {β : Type} (S : Nat → Prop) (w : World) (B : Nat) (hB : w.heap.size ≤ B) : OwnFrom B (fun (_ : β) W => Ch S w W) :=
  fun _ W W' row h hg hr => ⟨hg.os.trans h.os, hg.tape.trans h.tape, hg.output.trans h.output, Nat.le_trans h.size hg.size, fun k hk hn => (hg.block k (Nat.lt_of_lt_of_le hk h.size) (fun e => by have := (hr k e.symm).1; omega)).trans (h.block k hk hn)⟩
theorem Ch.alloc {S : Nat → Prop} {w W : World} (h : Ch S w W) (o : Obj) : Ch S w (W.alloc o) := h.trans (Ch.of_below ((Below.refl _ _).alloc (Nat.le_refl _) _))
theorem Ch.grown {S : Nat → Prop} {w W W' : World} {row : Option Nat} (h : Ch S w W) (hg : W.grownBy W' row) (hr : ∀ r, row = some r → S r ∨ w.heap.size ≤ r) : Ch S w W' :=
  ⟨hg.os.trans h.os, hg.tape.trans h.tape, hg.output.trans h.output, Nat.le_trans h.size hg.size, fun k hk hn => (hg.block k (Nat.lt_of_lt_of_le hk h.size) (fun e => (hr k e.symm).elim hn (by omega))).trans (h.block k hk hn)⟩
theorem SomeAt.alloc {X base : Nat} {l : List S27} {W : World} (h : SomeAt X base l W) (o : Obj) : SomeAt X base l (W.alloc o) := by
  obtain ⟨v, hb, hR⟩ := h
  exact ⟨v, hb.alloc o, Kd.R_alloc hR o⟩
theorem row_cells {W : World} {base : Nat} {ok : Nat → Prop} {v : Value} {l : List S27} {j : Nat} (h : Kd.R k27 27 W base ok v l) (hj : v.ownBlock = some j) : base ≤ j ∧ ok j ∧ ∃ q cells, W.heap[j]? = some (.cells cells q (0, 0)) := by
  obtain ⟨h1, h2, _, q, _, cells, hc⟩ := (Kd.R_bound h).1 j hj
  exact ⟨h2, h1, q, cells, hc⟩
theorem SomeAt.round {X n0 : Nat} {pre : List S27} {x : S27} {W w1 w5 : World} {v v1 : Value} (hC : Ch (fun k => k = X) w5 W) (bv : Boxed W X 25 v) (hR : Kd.R k27 27 W w5.heap.size (fun k => k ≠ X) v pre)
    (hg : W.grownBy w1 v.ownBlock) (ho : Kd.R k27 27 w1 w5.heap.size (fun k => k ≠ X) v1 (pre ++ [x])) (hX : n0 ≤ X) (hs : X + 1 ≤ w5.heap.size) :
    KeepsFrom w5.heap.size W (w1.setCell ⟨X, 0, none⟩ v1) ∧ Below n0 W (w1.setCell ⟨X, 0, none⟩ v1) ∧ SomeAt X w5.heap.size (pre ++ [x]) (w1.setCell ⟨X, 0, none⟩ v1) ∧ Ch (fun k => k = X) w5 (w1.setCell ⟨X, 0, none⟩ v1) := by
  have hb1 : Boxed w1 X 25 v := bv.kept hg (fun e => (row_cells hR e.symm).2.1 rfl)
  have hsz := hC.size
  refine ⟨?_, ?_, ⟨v1, hb1.set v1, Kd.R_step ho (fun k hk _ => ?_)⟩, ?_⟩
  · refine ((KeepsOthers.of_grownBy hg fun j o ej hj => ?_).trans (KeepsOthers.setCell _ _ _)).from _
    obtain ⟨_, _, q, cells, hc⟩ := row_cells hR ej
    rw [hc] at hj
    cases hj
    rfl
  · exact ((Below.refl n0 W).grown hg (by omega) (fun j ej => by have := (row_cells hR ej).1; omega)).setCell (p := ⟨X, 0, none⟩) hX v1
  · exact Below.heap_setCell _ _ _ _ hk
  · exact (hC.grown hg (fun j ej => .inr (row_cells hR ej).1)).grown (grownBy_setCell' w1 X v1) (fun j ej => .inl (by cases ej; rfl))
set_option maxHeartbeats 8000000 in
set_option maxRecDepth 100000 in
/-- 'slices.AppendSeq' of all that is pending, onto nothing. -/
theorem appendSeq_calls (b0 : Nat) (L : List S27) (P M : Nat) (ov : Value) (D : DataW Value) (X : Nat) (w : World) (hL : L.length ≤ 100000) (hX : Aside0 (Boxed w X 23 (.pointer (some ⟨P, 0, none⟩)))) (H : Aside0 (PAt b0 L P M ov D w)) :
    Calls Try.prog 23 #[.slice none 0 0, .func (.func 24) #[] #[.pointer (some ⟨X, 0, none⟩)]] w fun e w' => Aside0 (∃ v, e = .returned v ∧ Kd.R k27 27 w' w.heap.size (fun _ => True) v L ∧ Below w.heap.size w w') := by
  refine (callsIn_wide (n := 7)).1 (callsIn_of_wp_marks Try.func23 rfl trivial ?_ rfl)
  simp only [Try.ntmps23, List.size_toArray, List.length_cons, List.length_nil, Nat.reduceAdd, Nat.reduceSub, Array.replicate_succ, Array.replicate_zero, List.push_toArray, List.append_toArray, List.nil_append, List.cons_append]
  have hB1 : Below w.heap.size w (w.alloc (.cells #[.slice none 0 0] 25)) := (Below.refl _ w).alloc (Nat.le_refl _) _
  have hY := Boxed.new w 25 (.slice none 0 0)
  have hs1 : (w.alloc (.cells #[.slice none 0 0] 25)).heap.size = w.heap.size + 1 := by simp
  have H1 := H.out.below hB1
  have hX1 : Boxed (w.alloc (.cells #[.slice none 0 0] 25)) X 23 (.pointer (some ⟨P, 0, none⟩)) := blk_below hX.out hB1
  have hTB : ∀ k, TB P M ov X k → k < w.heap.size := fun k h => h.elim (H.out.lt k) (fun e => e ▸ blk_lt hX.out)
  replace hY := Aside0.mk hY
  replace hs1 := Aside0.mk hs1
  replace H1 := Aside0.mk H1
  replace hX1 := Aside0.mk hX1
  replace hB1 := Aside0.mk hB1
  gi_wp2_with fail
  generalize w.alloc (.cells #[.slice none 0 0] 25) = w5 at *
  refine wpIn_rangeFunc_ownH rfl (by decide) (gf := 24) (lb := #[.pointer (some ⟨X, 0, none⟩)]) rfl trivial (enters_of Try.func24 (by kernel_rfl) rfl)
    (iter_stops b0 L P M ov D X w5 hL hX1.out H1.out) same_t (same_b (fun k h => by have := hTB k h; have := hs1.out; omega)) (Below.refl _ _) (fun _ => rfl)
    (fun pre W => SomeAt w.heap.size w5.heap.size pre W ∧ Ch (fun k => k = w.heap.size) w5 W)
    (fun c pre1 W => False)
    (OwnFrom.and (SomeAt.own _ _ _ (fun pre => pre)) (ch_own _ _ _ (Nat.le_refl _)))
    (fun c _ _ _ _ h _ _ => h)
    ⟨⟨_, hY.out, Kd.R_nil _ _ _ _ _⟩, Ch.refl _ _⟩
    (fun x a' W => ∃ Bx, w5.heap.size ≤ Bx ∧ W.heap[Bx]? = some (.cells #[.int .i64 x.f0, .int .i64 x.f1, .int .i64 x.f2] 27 (0, 0)) ∧ a' = { tmps := #[.slice none 0 0, .func (.func 24) #[] #[.pointer (some ⟨X, 0, none⟩)], .pointer (some ⟨w.heap.size, 0, none⟩), undef, .slice none 0 0, .pointer (some ⟨Bx, 0, none⟩), .func (.func 24) #[] #[.pointer (some ⟨X, 0, none⟩)], .agg #[.int .i64 x.f0, .int .i64 x.f1, .int .i64 x.f2], undef, undef, undef, undef, undef], defers := [] })
    (fun x a' _ W W' row hs hg hr => by
      obtain ⟨Bx, h1, h2, h3⟩ := hs
      exact ⟨Bx, h1, (hg.block Bx (blk_lt h2) (not_cells hr h2)).trans h2, h3⟩)
    ?assign ?body ?done ?stop
  case assign =>
    rintro l pre x W K ⟨hS, hC⟩ hK
    unfold encS
    gi_wp2
    exact hK _ _ ((KeepsOthers.alloc _ _).from _) (Same.alloc W _ (fun k h => by have := hTB k h; have := hC.size; have := hs1.out; omega)) ⟨SomeAt.alloc hS _, hC.alloc _⟩ ⟨W.heap.size, hC.size, blk_new _ _, rfl⟩
  case body =>
    rintro l pre x a' W hl ⟨r, hr⟩ ⟨⟨v, bv, hR⟩, hC⟩ ⟨Bx, hBx, bX, rfl⟩ hlt2
    have bvc := Boxed.cell bv
    have bvf := Boxed.frozen bv
    have x0 := (blk_cell bX 0).trans (rfl : _ = some (Value.int .i64 x.f0))
    have x1 := (blk_cell bX 1).trans (rfl : _ = some (Value.int .i64 x.f1))
    have x2 := (blk_cell bX 2).trans (rfl : _ = some (Value.int .i64 x.f2))
    obtain ⟨A, c, rfl⟩ := Kd.R_slice hR
    have hss := Lib.hid hs1.out
    gi_wp2_with (gi_at_builtin; refine R_append_in (P := Try.prog) k27 w5.heap.size (by rfl) (.tmp 8) (.tmp 10) 25 27 (.agg #[.int .i64 0, .int .i64 0, .int .i64 0]) 24 (by rfl) (by kernel_rfl) (by kernel_rfl) rfl (by decide) (by decide) (.slice A pre.length c) pre x [.int .i64 x.f0, .int .i64 x.f1, .int .i64 x.f2] (fun k => k ≠ w.heap.size) (fun _ => False) (by rfl) (by rfl) (k27_mkM _ _ _ x) (fun _ hk => hk.elim) (fun q hq => by have := hC.size; have := hss.out; omega) hR hC.size (by omega) ?_; intro v1 w1 ho hg hat; have hb1 : Boxed w1 w.heap.size 25 (.slice A pre.length c) := bv.kept hg (fun e => (hR.1 _ e.symm) rfl); have hg1 := Aside0.mk hg; have ho1 := Aside0.mk ho; have d1 := Boxed.cell hb1; have f1 := Boxed.frozen hb1; clear ho hg hat; (obtain ⟨A1, c1, rfl⟩ := Kd.R_slice ho1.out))
    have ho2 := ho1.out
    rw [List.length_append, List.length_singleton] at ho2
    obtain ⟨r1, r2, r3, r4⟩ := SomeAt.round hC bv hR hg1.out ho2 (Nat.le_refl _) (by have := hss.out; omega)
    exact ⟨r1, fun k h => r2.block k (hTB k h), r3, r4⟩
  case done =>
    rintro D xs W hD rfl ⟨hS, hC⟩ hK
    obtain ⟨v, bv, hR⟩ := hS
    have bvc := Boxed.cell bv
    obtain ⟨A, c, rfl⟩ := Kd.R_slice hR
    have HR := Aside0.mk hR
    have hBW := Aside0.mk (hB1.out.trans (hC.below (by have := hs1.out; omega) (fun k e => by omega) : Below w.heap.size w5 W))
    have hK' := Lib.hid hK
    have hDs := Lib.hid hD
    clear hR bv hC hK hD
    gi_wp2
    refine ⟨by simp, .inl ⟨_, _, rfl, run_takeDeferred hK'.out, ?_⟩⟩
    have hBD : Below w.heap.size W (W.putObj D (.deferred none)) := belowK_b (w := w) (Nat.le_refl _) W D _ _ (by have := hs1.out; have := hDs.out; omega) hK'.out rfl rfl
    have h9 : Kd.R k27 27 (W.putObj D (.deferred none)) w5.heap.size (fun _ => True) (.slice A xs.length c) xs := Kd.R_mono (Kd.R_step (Kd.R_bound HR.out) (fun k hk hlt => by
      obtain ⟨_, _, _, q, _, cells, hc⟩ := hk
      refine (World.grownBy.block (grownBy_putObj' W D (.deferred none)) k hlt (fun e => ?_))
      cases e
      rw [hK'.out] at hc
      cases hc)) (fun _ _ => trivial)
    exact ⟨_, results_tmp rfl _ _ _, ⟨_, rfl, Kd.R_lower h9 (by have := hs1.out; omega), hBW.out.trans hBD⟩⟩
  case stop =>
    rintro D c pre1 W hD hpre h hK
    exact h.elim
end Go.Proofs.Ytkamgpjpnjikgaa.PQ
