/- The iterator of all that is pending, walked. -/
import Derived.RangeFuncNested
import Derived.RangeFuncBound
import Derived.RangeFuncCalls
import Derived.RangeFuncLeaves
import Derived.RangeFuncBox
import Derived.Shelf.Abstract
import Derived.Shelf.RegionOpen
import Derived.WalkKit
import Derived.OwnWalkIn
import Derived.TacticsInMore
import Derived.LoopNIn
import Derived.LoopIn
import Derived.Maps.AppendAt
import Derived.Test.YtkamgpjpnjikgaaNote
namespace Go.Proofs.Ytkamgpjpnjikgaa.PQ
open Go.RowKit Go.Proofs.YtkamgpjpnjikgaaW.PrintWords Go.Proofs.YtkamgpjpnjikgaaW.PrintLast Go.Proofs.YtkamgpjpnjikgaaW.PrintMore Go.Shelf
set_option linter.unusedVariables false
set_option linter.unusedSimpArgs false
attribute [local go_sem] Oper.semAt_some
/-- 'Pend.All': a function value that holds the pend in a box. -/
theorem all_calls (P : Nat) (w : World) : Calls Try.prog 21 #[.pointer (some ⟨P, 0, none⟩)] w fun e w' => e = .returned (.func (.func 24) #[] #[.pointer (some ⟨w.heap.size, 0, none⟩)]) ∧ w' = w.alloc (.cells #[.pointer (some ⟨P, 0, none⟩)] 23) := by
  go_enter Try.func21, Try.ntmps21
  go_wp2
  go_ret
  exact ⟨rfl, rfl⟩
theorem find_nodup {L : List S27} (hn : (L.map (·.f1)).Nodup) {k : Nat} (hk : k < L.length) : recL L (L[k]).f1 = L[k] := by
  unfold recL
  induction L generalizing k with
  | nil => simp at hk
  | cons x L ih =>
    rw [List.map_cons, List.nodup_cons] at hn
    cases k with
    | zero => rw [List.getElem_cons_zero, List.find?_cons_of_pos (by simp)]; rfl
    | succ k =>
      rw [List.getElem_cons_succ]
      have hk' : k < L.length := by simpa using hk
      rw [List.find?_cons_of_neg, ih hn.2 hk']
      simp only [decide_eq_true_eq]
      intro e
      exact hn.1 (by rw [e]; exact List.mem_map_of_mem (List.getElem_mem hk'))
/-- The blocks of T stay. -/
def Same (T : Nat → Prop) (W W' : World) : Prop := ∀ k, T k → W'.heap[k]? = W.heap[k]?
theorem Same.trans {T : Nat → Prop} {A B C : World} (h : Same T A B) (k : Same T B C) : Same T A C := fun i hi => (k i hi).trans (h i hi)
theorem Same.alloc {T : Nat → Prop} (W : World) (o : Obj) (hT : ∀ k, T k → k < W.heap.size) : Same T W (W.alloc o) := fun k hk => Below.heap_alloc W o k (hT k hk)
theorem Same.grown {T : Nat → Prop} {W W' : World} {row : Option Nat} (hg : W.grownBy W' row) (hT : ∀ k, T k → k < W.heap.size ∧ some k ≠ row) : Same T W W' := fun k hk => hg.block k (hT k hk).1 (hT k hk).2
def TB (P M : Nat) (ov : Value) (X k : Nat) : Prop := PB P M ov k ∨ k = X
def encS (x : S27) : Array Value := #[.agg #[.int .i64 x.f0, .int .i64 x.f1, .int .i64 x.f2]]
set_option maxRecDepth 100000 in
set_option maxHeartbeats 2000000 in
/-- The closure: yields all records, as far as the rounds like. -/
theorem iter_in (b0 : Nat) (L : List S27) (P M : Nat) (ov : Value) (D : DataW Value) (l X : Nat) (hL : L.length ≤ 100000) (J Jx : List S27 → World → Prop)
    (hY : ∀ pre x W, J pre W → pre.length < L.length → YieldAt Fence.wide 5 Try.prog l (encS x) W fun e W' =>
      (e = .returned (.bool true) ∧ J (pre ++ [x]) W' ∧ Same (TB P M ov X) W W') ∨ (e = .returned (.bool false) ∧ Jx (pre ++ [x]) W'))
    (W : World) (hX : Aside0 (Boxed W X 23 (.pointer (some ⟨P, 0, none⟩)))) (H : Aside0 (PAt b0 L P M ov D W)) (h0 : J [] W) :
    CallsIn Fence.wide 6 Try.prog 24 #[.func (.yield l) #[] #[], .pointer (some ⟨X, 0, none⟩)] W fun e W' => (∃ v, e = .returned v) ∧
      ((∃ ys, ys = L ∧ J ys W') ∨ (∃ pre, pre <+: L ∧ Jx pre W')) := by
  obtain ⟨A, c, hov⟩ := Kd.R_slice H.out.row
  rw [List.length_map] at hov
  subst hov
  have d0 := H.out.cells
  have x0 := Boxed.cell hX.out
  have d1 := d0.2
  clear d0
  refine callsIn_of_wp Try.func24 rfl trivial ?_ rfl
  simp only [Try.ntmps24, List.size_toArray, List.length_cons, List.length_nil, Nat.reduceAdd, Nat.reduceSub, Array.replicate_succ, Array.replicate_zero, List.push_toArray, List.append_toArray, List.nil_append, List.cons_append]
  gi_wp2
  clear d1 x0
  gi_loopw [10] (fun p wr => ∃ k : Nat, p = .int .i64 k ∧ k ≤ L.length ∧ Aside0 (J (L.take k) wr) ∧ Aside0 (Same (TB P M (.slice A L.length c) X) W wr)) (fun p _ => L.length - (intOf p).toNat)
  case atStart => exact ⟨0, rfl, Nat.zero_le _, ⟨h0⟩, ⟨fun _ _ => rfl⟩⟩
  case round =>
    obtain ⟨k, rfl, hk, hJk, hb⟩ := hrel
    by_cases hlt : k < L.length
    · have z2 : decide ((k : Int) < L.length) = true := decide_eq_true (by omega)
      have HW : PAt b0 L P M (.slice A L.length c) D wr := H.out.same fun k _ hp => hb.out k (.inl hp)
      have xw : wr.cell? ⟨X, 0, none⟩ = some (.pointer (some ⟨P, 0, none⟩)) := Boxed.cell ((hb.out X (.inr rfl)).trans hX.out)
      obtain ⟨g, c', hf⟩ := R_form HW.row (by rw [List.length_map]; omega)
      rw [List.length_map] at hf
      cases hf
      have hcl := Kd.R_celln (n := L.length) 0 HW.row (k : Int) (by omega) (by omega)
      rw [Int.toNat_natCast] at hcl
      have hr9 : rdOf (0 : Int) (L.map (·.f1)) (k : Int) = (L[k]).f1 := by
        unfold rdOf
        rw [Int.toNat_natCast, List.getD_eq_getElem?_getD, List.getElem?_eq_getElem (by rw [List.length_map]; exact hlt), List.getElem_map]
        rfl
      rw [hr9] at hcl
      have c0 := hcl.1
      have d0 := HW.cells.1
      have hlk := HW.map.look u3 u45 (zero27 wr) (L[k]).f1 (HW.wf _ (List.getElem_mem hlt))
      rw [mapL_get, find_nodup HW.nd hlt] at hlk
      unfold encR at hlk
      have hn1 := Aside0.mk (L.take_succ_eq_append_getElem hlt)
      obtain ⟨fn, tmps, assign, body, hy, hR⟩ := hY _ (L[k]) _ hJk.out (by rw [List.length_take]; omega)
      clear hcl hr9 HW
      generalize L[k] = y at *
      dsimp only [encS] at hy hR
      obtain ⟨y0, y1, y2⟩ := y
      dsimp only at *
      gi_wp2_with fail
      refine hR.mono ?_
      rintro e W3 (⟨rfl, hJ4, hk4⟩ | ⟨rfl, hJx4⟩)
      · rw [← hn1.out] at hJ4
        have hb4 := Aside0.mk (hb.out.trans hk4)
        replace hJ4 := Aside0.mk hJ4
        clear hy hR hlk c0 d0 xw hJk hn1 hk4
        gi_wp2
        go_roundw
        case rel => exact ⟨k + 1, by go_num, by omega, hJ4, hb4⟩
        case measure => simp [intOf]; omega
      · rw [← hn1.out] at hJx4
        gi_wp2
        refine bodyPost_ret (results_none rfl _ _ _) rfl ?_
        exact ⟨⟨_, rfl⟩, .inr ⟨_, List.take_prefix _ _, hJx4⟩⟩
    · obtain rfl : k = L.length := by omega
      have z2 : decide ((L.length : Int) < L.length) = false := decide_eq_false (by omega)
      have hJ1 := hJk.out
      rw [List.take_length] at hJ1
      gi_wp2
      go_end0
      exact ⟨⟨_, rfl⟩, .inl ⟨_, rfl, hJ1⟩⟩
theorem iter_stops (b0 : Nat) (L : List S27) (P M : Nat) (ov : Value) (D : DataW Value) (X : Nat) (w : World) (hL : L.length ≤ 100000) (hX : Boxed w X 23 (.pointer (some ⟨P, 0, none⟩))) (H : PAt b0 L P M ov D w) :
    SeqStopsK Fence.wide 6 Try.prog 24 #[.pointer (some ⟨X, 0, none⟩)] encS (Same (TB P M ov X)) (fun ys => ys = L) (fun pre => pre <+: L) L.length w := fun l J Jx W hW hJ _ hY h0 =>
  iter_in b0 L P M ov D l X hL J Jx hY W ⟨blk_below hX hW⟩ ⟨H.below hW⟩ h0
theorem same_t {T : Nat → Prop} : ∀ {A B C : World}, Same T A B → Same T B C → Same T A C := fun h k => h.trans k
theorem same_b {T : Nat → Prop} {n : Nat} (hT : ∀ k, T k → k < n) (W : World) (l : Nat) (o o' : Obj) (hl : n ≤ l) (_ : W.heap[l]? = some o) (_ : o.isCells = false) (_ : o.isWalk = false) : Same T W (W.putObj l o') :=
  fun k hk => (grownBy_putObj' W l o').block k (by
    rcases Nat.lt_or_ge k W.heap.size with h | h
    · exact h
    · have := hT k hk
      have : l < W.heap.size := (Array.getElem?_eq_some_iff.1 (by assumption)).1
      omega) (fun e => by have := hT k hk; cases e; omega)
end Go.Proofs.Ytkamgpjpnjikgaa.PQ
