/- The steps' iterator, walked. -/
import Derived.RangeFuncNested
import Derived.RangeFuncBound
import Derived.RangeFuncCalls
import Derived.RangeFuncLeaves
import Derived.RangeFuncBox
import Derived.Shelf.Abstract
import Derived.Shelf.RegionOpen
import Derived.WalkKit
import Derived.OwnWalkIn
import Derived.TacticsInMore
import Derived.LoopNIn
import Derived.LoopIn
import Derived.Maps.AppendAt
import Derived.WalkSpells
import Derived.LoopTactic
import Derived.Lib.Hide
import Derived.IntWalk
import Derived.Deep.QuietTactic
import Derived.BigQuiet
import Derived.Laws.Rows
import Derived.Outline
import Derived.OwnWalk
import Derived.Test.YteoleeanmhmdfaaStepsPure
namespace Go.Proofs.Yteoleeanmhmdfaa.PS
open Go.RowKit Go.Shelf Go.Proofs.YteoleeanmhmdfaaW.PrintWords Go.Proofs.YteoleeanmhmdfaaW.PrintLast Go.Proofs.YteoleeanmhmdfaaW.PrintMore
set_option linter.unusedVariables false
set_option linter.unusedSimpArgs false
section
variable {P : Program} {F : Fence} {n0 : Nat} {ops : Array Oper} {rest : List Oper} {o : Oper} {a : Act} {Q : Exit → Act → World → Prop} {α : Type}
/-- An append of one element within a fence: Kd.R_append there. -/
theorem R_append_in (d : Kd α) {W : World} (base : Nat) (hgd : o.guard = none) (s x : Operand) (t e : TypeId) (z : Value) (bytes : Nat)
    (ho : o.op = .call { callee := .builtin .append, args := #[s, x], argTypes := #[t, t] })
    (ht : P.underlying t = some (.slice e)) (hinfo : (P.info? e).map (fun i => (i.zero, i.size, i.bytes)) = some (some z, d.sz, bytes)) (hz : z.cells.size = d.sz) (hs0 : 0 < d.sz) (hb0 : 0 < bytes)
    (v : Value) (xs : List α) (p : α) (cs : List Value) (ok okp : Nat → Prop) (hs : a.eval s = v) (hx : a.eval x = .slice (some ⟨W.heap.size, 0, none⟩) 1 1) (hp : d.M W base okp p cs) (hokp : ∀ k, okp k → ok k ∧ some k ≠ v.ownBlock) (hfresh : ∀ k, W.heap.size ≤ k → ok k)
    (HO : d.R e W base ok v xs) (hbase : base ≤ W.heap.size) (hl : (xs.length + 1) * bytes ≤ 140737488355328)
    (h : ∀ v1 w1, d.R e w1 base ok v1 (xs ++ [p]) → W.grownBy w1 v.ownBlock → (v1.ownBlock = v.ownBlock ∨ ∃ b, v1.ownBlock = some b ∧ W.heap.size ≤ b) → wpListIn F n0 P ops Q rest (a.put o.dst v1) w1) :
    wpListIn F n0 P ops Q (o :: rest) a (W.alloc (.cells cs.toArray e)) := by
  obtain ⟨h0, inner, hown, hr⟩ := HO
  obtain ⟨i0, hi, hzz⟩ := Option.map_eq_some_iff.1 hinfo
  simp only [Prod.mk.injEq] at hzz
  obtain ⟨hz0, hz1, hz2⟩ := hzz
  have hlen : xs.length + 1 ≤ 140737488355328 := Nat.le_trans (Nat.le_mul_of_pos_right _ hb0) hl
  have hcs := d.K_len (d.K_of_M hp)
  refine wpListIn_plain hgd fun K hK' => ?_
  obtain ⟨v', w', hrun, r1, r2, _, r4⟩ := run_append_own_at (P := P) (w := W.alloc (.cells cs.toArray e)) base t o.type e i0 z d.sz bytes ht hi hz0 hz1 hz2 hz hs0 v xs.length inner (hown.alloc _) ⟨W.heap.size, 0, none⟩ 1 1 cs (by rw [hcs]; simp)
    (by simpa using World.news_of_block (cs := cs.toArray) (t := e) (fr := (0, 0)) (heap_alloc_new W (.cells cs.toArray e))) (d.K_one (d.K_of_M hp)) (by simp only [maxLen]; omega) hl (by simp; omega)
  unfold Oper.wpIn
  refine ⟨?_, ?_⟩
  · simp [Oper.about, ho, resolve, Target.leads, Sem.run_pure]
  · rw [Oper.semAt_plain F _ _ (by rw [ho]; intro c hc'; cases hc')]
    simp [execOp, ho, resolve, invoke, builtin, hs, hx, hrun, Result.andThen]
    have hat : v'.ownBlock = v.ownBlock ∨ ∃ b, v'.ownBlock = some b ∧ W.heap.size ≤ b := by
      rcases r4 with q | q
      · exact .inl q
      · exact .inr ⟨_, q, by simp⟩
    have hg : W.grownBy w' v.ownBlock := World.grownBy.trans (World.grownBy_alloc W _ _) r2
    exact hK' _ _ (h v' w' (Kd.R_appended h0 hr hp hokp hfresh r1 hg hat) hg hat)
end
attribute [local go_sem] Oper.semAt_some
/-- 'order.Steps': a function value that holds the number of lines in a box. -/
theorem steps_calls (n : Int) (w : World) : Calls Try.prog 11 #[.int .i64 n] w fun e w' => e = .returned (.func (.func 18) #[] #[.pointer (some ⟨w.heap.size, 0, none⟩)]) ∧ w' = w.alloc (.cells #[.int .i64 n] 3) := by
  go_enter Try.func11, Try.ntmps11
  go_wp2
  go_ret
  exact ⟨rfl, rfl⟩
theorem below_grown {w w' : World} (h : Below w.heap.size w w') : w.grownBy w' none := ⟨h.os, h.tape, h.output, h.size, fun k hk _ => h.block k hk⟩
def encS (x : S24) : Array Value := #[.agg #[.int .i64 x.f0, .bool x.f1]]
set_option maxRecDepth 100000 in
set_option maxHeartbeats 2000000 in
/-- The closure: yields all steps, as far as the rounds like. -/
theorem iter_in (l Bn n₀ : Nat) (hB0 : Bn < n₀) (n : Int) (J Jx : List S24 → World → Prop) (B : Nat) (hJ : AbidesFrom B J)
    (hY : ∀ pre x W, J pre W → pre.length < (Ls n).length → YieldAt Fence.wide 5 Try.prog l (encS x) W fun e W' =>
      (e = .returned (.bool true) ∧ J (pre ++ [x]) W' ∧ Below n₀ W W') ∨ (e = .returned (.bool false) ∧ Jx (pre ++ [x]) W'))
    (W : World) (hBn : W.cell? ⟨Bn, 0, none⟩ = some (.int .i64 n)) (hn0 : n₀ ≤ W.heap.size) (h0 : J [] W) :
    CallsIn Fence.wide 6 Try.prog 18 #[.func (.yield l) #[] #[], .pointer (some ⟨Bn, 0, none⟩)] W fun e W' => (∃ v, e = .returned v) ∧
      ((∃ ys, ys = Ls n ∧ J ys W') ∨ (∃ pre, pre <+: Ls n ∧ Jx pre W')) := by
  refine callsIn_of_wp Try.func18 rfl trivial ?_ rfl
  simp only [Try.ntmps18, List.size_toArray, List.length_cons, List.length_nil, Nat.reduceAdd, Nat.reduceSub, Array.replicate_succ, Array.replicate_zero, List.push_toArray, List.append_toArray, List.nil_append, List.cons_append]
  gi_wp2
  gi_loopw [3] (fun p wr => ∃ k : Nat, p = .int .i64 k ∧ k ≤ (Ls n).length ∧ J ((Ls n).take k) wr ∧ wr.cell? ⟨Bn, 0, none⟩ = some (.int .i64 n) ∧ n₀ ≤ wr.heap.size) (fun p _ => (Ls n).length - (intOf p).toNat)
  case atStart => exact ⟨0, rfl, Nat.zero_le _, h0, hBn, hn0⟩
  case round =>
    obtain ⟨k, rfl, hk, hJk, hc, hs⟩ := hrel
    by_cases h12 : 1 ≤ n ∧ n ≤ 64
    · have hl := Ls_len n
      rw [if_pos h12] at hl
      have hw2 : wrap64 (2 * n) = 2 * n := w64 (by omega) (by omega)
      have hM := Lib.hid fun w => order_may.calls n true w (may_ok n h12.1 h12.2)
      by_cases hlt : k < (Ls n).length
      · have z2 : decide ((k : Int) < 2 * n) = true := decide_eq_true (by omega)
        gi_wp2_with fail
        refine ⟨trivial, (callsIn_wide.2 (hM.out _)).mono ?_⟩
        rintro e w1 ⟨rfl, ⟨⟨m, rfl⟩⟩⟩
        have hc1 : (wr.drewN m).cell? ⟨Bn, 0, none⟩ = some (.int .i64 n) := hc
        have hJ1 := hJ _ _ _ none hJk (below_grown (w := wr) (w' := wr.drewN m) ⟨rfl, rfl, rfl, Nat.le_refl _, fun _ _ => rfl⟩) (fun r e => by cases e)
        have hs1 : n₀ ≤ (wr.drewN m).heap.size := hs
        generalize wr.drewN m = W1 at *
        have hA := Lib.hid (order_At.calls 300 n k _ _ _ W1 (at_ok n k 299 h12.1 h12.2 (by omega) (by omega)))
        gi_wp2_with fail
        refine ⟨trivial, (callsIn_wide.2 hA.out).mono ?_⟩
        rintro e w2 ⟨rfl, hb⟩
        have hc2 : w2.cell? ⟨Bn, 0, none⟩ = some (.int .i64 n) := (hb.cell (p := ⟨Bn, 0, none⟩) (by show Bn < _; omega)).trans hc1
        have hJ2 := hJ _ _ _ none hJ1 (below_grown hb) (fun r e => by cases e)
        have hs2 : n₀ ≤ w2.heap.size := Nat.le_trans hs1 hb.size
        clear hb hA hJk hJ1 hc hc1 hs hs1
        have hJ3 := hJ _ _ _ none hJ2 (World.grownBy_alloc w2 (.cells #[.int .i64 (atL n k), .bool (atF n k)] 24) none) (fun r e => by cases e)
        have hc3 : (w2.alloc (.cells #[.int .i64 (atL n k), .bool (atF n k)] 24)).cell? ⟨Bn, 0, none⟩ = some (.int .i64 n) := (((Below.refl n₀ w2).alloc hs2 _).cell (p := ⟨Bn, 0, none⟩) hB0).trans hc2
        obtain ⟨fn, tmps, assign, body, hy, hR⟩ := hY _ (stp n k) _ hJ3 (by rw [List.length_take]; omega)
        have hn1 := (Ls n).take_succ_eq_append_getElem hlt
        rw [show (Ls n)[k] = stp n k by have := Ls_rd h12.1 h12.2 (show (0 : Int) ≤ k by omega) (by omega); rw [← this]; unfold rd_T24; rw [Int.toNat_natCast, List.getD_eq_getElem?_getD, List.getElem?_eq_getElem hlt]; rfl] at hn1
        dsimp only [encS, stp] at hy hR hn1
        generalize atL n k = x0 at *
        generalize atF n k = x1 at *
        gi_wp2_with fail
        refine hR.mono ?_
        rintro e W3 (⟨rfl, hJ4, hk4⟩ | ⟨rfl, hJx4⟩)
        · have hc4 : W3.cell? ⟨Bn, 0, none⟩ = some (.int .i64 n) := (hk4.cell (p := ⟨Bn, 0, none⟩) hB0).trans hc3
          have hs4 : n₀ ≤ W3.heap.size := Nat.le_trans (Nat.le_trans hs2 ((Below.refl n₀ w2).alloc hs2 _).size) hk4.size
          rw [← hn1] at hJ4
          have hl9 : (Ls n).length ≤ 128 := by omega
          clear hy hR hc2 hc3 hJ2 hJ3 hn1
          gi_wp2
          go_roundw
          case rel => exact ⟨k + 1, by go_num, by omega, hJ4, hc4, hs4⟩
          case measure => simp [intOf]; omega
        · rw [← hn1] at hJx4
          gi_wp2
          refine bodyPost_ret (results_none rfl _ _ _) rfl ?_
          exact ⟨⟨_, rfl⟩, .inr ⟨_, List.take_prefix _ _, hJx4⟩⟩
      · have z2 : decide ((k : Int) < 2 * n) = false := decide_eq_false (by omega)
        gi_wp2_with fail
        refine ⟨trivial, (callsIn_wide.2 (hM.out _)).mono ?_⟩
        rintro e w1 ⟨rfl, ⟨⟨m, rfl⟩⟩⟩
        have hJ1 := hJ _ _ _ none hJk (below_grown (w := wr) (w' := wr.drewN m) ⟨rfl, rfl, rfl, Nat.le_refl _, fun _ _ => rfl⟩) (fun r e => by cases e)
        have hc1 : (wr.drewN m).cell? ⟨Bn, 0, none⟩ = some (.int .i64 n) := hc
        rw [List.take_of_length_le (by omega)] at hJ1
        gi_wp2
        go_end0
        exact ⟨⟨_, rfl⟩, .inl ⟨_, rfl, hJ1⟩⟩
    · have hM := Lib.hid fun w => order_may.calls n false w (may_no n h12)
      rw [Ls_out h12] at hJk hk ⊢
      gi_wp2_with fail
      refine ⟨trivial, (callsIn_wide.2 (hM.out _)).mono ?_⟩
      rintro e w1 ⟨rfl, ⟨⟨m, rfl⟩⟩⟩
      have hJ1 := hJ _ _ _ none hJk (below_grown (w := wr) (w' := wr.drewN m) ⟨rfl, rfl, rfl, Nat.le_refl _, fun _ _ => rfl⟩) (fun r e => by cases e)
      rw [List.take_nil] at hJ1
      gi_wp2
      go_end0
      exact ⟨⟨_, rfl⟩, .inl ⟨[], (Ls_out h12).symm, hJ1⟩⟩
theorem iter_stops (Bn n₀ : Nat) (n : Int) (w : World) (hB : Bn < n₀) (hn : n₀ ≤ w.heap.size) (hc : w.cell? ⟨Bn, 0, none⟩ = some (.int .i64 n)) :
    SeqStopsK Fence.wide 6 Try.prog 18 #[.pointer (some ⟨Bn, 0, none⟩)] encS (Below n₀) (fun ys => ys = Ls n) (fun pre => pre <+: Ls n) (Ls n).length w := fun l J Jx W hW hJ _ hY h0 =>
  iter_in l Bn n₀ hB n J Jx W.heap.size hJ hY W ((hW.cell (p := ⟨Bn, 0, none⟩) (by show Bn < _; omega)).trans hc) (Nat.le_trans hn hW.size) h0
end Go.Proofs.Yteoleeanmhmdfaa.PS
