/- The iterator over the cache, walked. -/
import Derived.RangeFuncNested
import Derived.RangeFuncBound
import Derived.RangeFuncCalls
import Derived.RangeFuncLeaves
import Derived.RangeFuncBox
import Derived.Shelf.Abstract
import Derived.Shelf.RegionOpen
import Derived.WalkKit
import Derived.OwnWalkIn
import Derived.TacticsInMore
import Derived.LoopNIn
import Derived.LoopIn
import Derived.Maps.AppendAt
import Derived.Test.YtilephiplfigpaaPut
import Derived.LaidEqlPtr
namespace Go.Proofs.Ytilephiplfigpaa.PQ
open Go.RowKit Go.Proofs.YtilephiplfigpaaW.PrintWords Go.Proofs.YtilephiplfigpaaW.PrintLast Go.Proofs.YtilephiplfigpaaW.PrintMore Go.Shelf
set_option linter.unusedVariables false
set_option linter.unusedSimpArgs false
attribute [local go_sem] Oper.semAt_some
theorem run_neq_same (w : World) (a : Addr) : (binOp .neq 47 (.pointer (some a)) (.pointer (some a))).run Try.prog w = .ok (.bool false) w := by
  obtain ⟨j, hj⟩ : ∃ j, Try.prog.info? 49 = some j := ⟨_, rfl⟩
  have hp : Try.prog.underlying 47 = some (.pointer 49) := by kernel_rfl
  have h : ∀ d : Nat, (Op.equalIn (d + 1) 47 (.pointer (some a)) (.pointer (some a))).run Try.prog w = .ok true w := fun d => by
    simp [Op.equalIn, run_underlying hp, sizeOf, typeInfo, hj, run_sameAddr_same]
  simp only [binOp]
  simp [Op.equal, Op.maxDepth, h 9999]
theorem run_neq_other (w : World) {a b : Addr} {ca cb : Array Value} {ta tb : TypeId} (hne : a ≠ b) (ha : w.heap[a.block]? = some (.cells ca ta (0, 0))) (hb : w.heap[b.block]? = some (.cells cb tb (0, 0))) : (binOp .neq 47 (.pointer (some a)) (.pointer (some b))).run Try.prog w = .ok (.bool true) w := by
  obtain ⟨j, hj, hsz⟩ : ∃ j, Try.prog.info? 49 = some j ∧ j.size ≠ 0 := ⟨_, rfl, by decide⟩
  have hp : Try.prog.underlying 47 = some (.pointer 49) := by kernel_rfl
  have h : ∀ d : Nat, (Op.equalIn (d + 1) 47 (.pointer (some a)) (.pointer (some b))).run Try.prog w = .ok false w := fun d => by
    simp [Op.equalIn, run_underlying hp, sizeOf, typeInfo, hj, hsz, run_sameAddr_other w hne ha hb]
  simp only [binOp]
  simp [Op.equal, Op.maxDepth, h 9999]
theorem bool_ways {e : Ending} {p q : Prop} (h : (e = .returned (.bool true) ∧ p) ∨ (e = .returned (.bool false) ∧ q)) : ∃ bb : Bool, e = .returned (.bool bb) ∧ Aside0 ((bb = true ∧ p) ∨ (bb = false ∧ q)) := by
  rcases h with ⟨h, hp⟩ | ⟨h, hq⟩
  · exact ⟨true, h, ⟨.inl ⟨rfl, hp⟩⟩⟩
  · exact ⟨false, h, ⟨.inr ⟨rfl, hq⟩⟩⟩
theorem all_calls (P : Nat) (w : World) : Calls Try.prog 14 #[.pointer (some ⟨P, 0, none⟩)] w fun e w' => e = .returned (.func (.func 21) #[] #[.pointer (some ⟨w.heap.size, 0, none⟩)]) ∧ w' = w.alloc (.cells #[.pointer (some ⟨P, 0, none⟩)] 25) := by
  go_enter Try.func14, Try.ntmps14
  go_wp2
  go_ret
  exact ⟨rfl, rfl⟩
/-- The blocks of T stay. -/
def Same (T : Nat → Prop) (W W' : World) : Prop := ∀ k, T k → W'.heap[k]? = W.heap[k]?
theorem Same.trans {T : Nat → Prop} {A B C : World} (h : Same T A B) (k : Same T B C) : Same T A C := fun i hi => (k i hi).trans (h i hi)
theorem Same.alloc {T : Nat → Prop} (W : World) (o : Obj) (hT : ∀ k, T k → k < W.heap.size) : Same T W (W.alloc o) := fun k hk => Below.heap_alloc W o k (hT k hk)
theorem Same.set {T : Nat → Prop} {W : World} {Y i : Nat} (v : Value) (hY : ¬ T Y) : Same T W (W.setCell ⟨Y, i, none⟩ v) := fun k hk => Below.heap_setCell _ _ _ k (fun e => hY ((show k = Y from e) ▸ hk))
def TB (P M : Nat) (L : List EL) (X k : Nat) : Prop := LB P M L k ∨ k = X
def encS (x : S61) : Array Value := #[.int .i64 x.f0, .string x.f1]
def kOf (L : List EL) : Value → Nat
  | .pointer (some a) => (L.map (·.b)).idxOf a.block
  | _ => 0
theorem kOf_node {L : List EL} (hn : (L.map (·.b)).Nodup) {k : Nat} {e : EL} (he : L[k]? = some e) (o : Nat) : kOf L (.pointer (some ⟨e.b, o, none⟩)) = k := by
  obtain ⟨hk, h1⟩ := List.getElem?_eq_some_iff.1 he
  unfold kOf
  have h2 : e.b = (L.map (·.b))[k]'(by rw [List.length_map]; exact hk) := by rw [List.getElem_map, h1]
  show (L.map (·.b)).idxOf e.b = k
  rw [h2, hn.idxOf_getElem]
theorem kOf_root {L : List EL} {P : Nat} (hn : ∀ e ∈ L, e.b ≠ P) (o : Nat) : kOf L (.pointer (some ⟨P, o, none⟩)) = L.length := by
  unfold kOf
  show (L.map (·.b)).idxOf P = L.length
  rw [List.idxOf_eq_length, List.length_map]
  intro h
  obtain ⟨e, h1, h2⟩ := List.mem_map.1 h
  exact hn e h1 h2
theorem kOf_adr {L : List EL} {P : Nat} (hn : (L.map (·.b)).Nodup) (hP : ∀ e ∈ L, e.b ≠ P) {k : Nat} (hk : k ≤ L.length) : kOf L (.pointer (some (adr P (L.map (·.b)) (k + 1)))) = k := by
  by_cases h : k < L.length
  · obtain ⟨e, he⟩ : ∃ e, L[k]? = some e := ⟨_, List.getElem?_eq_getElem h⟩
    rw [adr_node he, kOf_node hn he]
  · rw [adr_out (by omega), kOf_root hP]
    omega
set_option maxRecDepth 100000 in
set_option maxHeartbeats 2000000 in
/-- The closure: yields all sectors, as far as the rounds like. -/
theorem iter_in (b0 : Nat) (room hits misses : Int) (L : List EL) (P M : Nat) (D : DataW Value) (l X : Nat) (J Jx : List S61 → World → Prop)
    (hJ : ∀ s W W', J s W → Below W.heap.size W W' → J s W')
    (hY : ∀ pre x W, J pre W → pre.length < L.length → YieldAt Fence.wide 5 Try.prog l (encS x) W fun e W' =>
      (e = .returned (.bool true) ∧ J (pre ++ [x]) W' ∧ Same (TB P M L X) W W') ∨ (e = .returned (.bool false) ∧ Jx (pre ++ [x]) W'))
    (W : World) (hX : Aside0 (Boxed W X 25 (.pointer (some ⟨P, 0, none⟩)))) (H : Aside0 (LAt b0 room hits misses L P M D W)) (h0 : J [] W) :
    CallsIn Fence.wide 6 Try.prog 21 #[.func (.yield l) #[] #[], .pointer (some ⟨X, 0, none⟩)] W fun e W' => (∃ v, e = .returned v) ∧
      ((∃ ys, ys = absL L ∧ J ys W') ∨ (∃ pre, pre <+: absL L ∧ Jx pre W')) := by
  have d4 := H.out.cells.2.2.1
  have x0 := Boxed.cell hX.out
  have hkz := Lib.hid fun (k : Nat) (hk : k ≤ L.length) => kOf_adr (P := P) H.out.ring.nd H.out.ring.ne hk
  obtain ⟨p0, hp0⟩ : ∃ p0, Aside0 (nxS P L 0 = p0) := ⟨_, ⟨rfl⟩⟩
  rw [hp0.out] at d4
  refine callsIn_of_wp Try.func21 rfl trivial ?_ rfl
  simp only [Try.ntmps21, List.size_toArray, List.length_cons, List.length_nil, Nat.reduceAdd, Nat.reduceSub, Array.replicate_succ, Array.replicate_zero, List.push_toArray, List.append_toArray, List.nil_append, List.cons_append]
  gi_wp2
  clear d4 x0
  gi_loopw [3] (fun p wr => ∃ k : Nat, k ≤ L.length ∧ Aside0 (p = .pointer (some (adr P (L.map (·.b)) (k + 1)))) ∧ Aside0 (J ((absL L).take k) wr) ∧ Aside0 (Same (TB P M L X) W wr)) (fun p _ => L.length - kOf L p)
  case atStart => exact ⟨0, Nat.zero_le _, ⟨hp0.out.symm⟩, ⟨h0⟩, ⟨fun _ _ => rfl⟩⟩
  case round =>
    obtain ⟨k, hk, ⟨rfl⟩, hJk, hb⟩ := hrel
    have HW : LAt b0 room hits misses L P M D wr := H.out.same fun k _ hp => hb.out k (.inl hp)
    have xw : wr.cell? ⟨X, 0, none⟩ = some (.pointer (some ⟨P, 0, none⟩)) := Boxed.cell ((hb.out X (.inr rfl)).trans hX.out)
    have hkk := Lib.hid (hkz.out k hk)
    by_cases hlt : k < L.length
    · obtain ⟨e, he⟩ : ∃ e, L[k]? = some e := ⟨_, List.getElem?_eq_getElem hlt⟩
      have hne : e.b ≠ P := HW.ring.ne e (List.mem_of_getElem? he)
      rw [adr_node he] at hkk
      have c0 : wr.cell? ⟨e.b, 0, none⟩ = some (.int .i64 e.lba) := blk_cell (HW.ring.node k e he) 0
      have c1 : wr.cell? ⟨e.b, 1, none⟩ = some (.string e.data) := blk_cell (HW.ring.node k e he) 1
      have hn1 := Aside0.mk (show (absL L).take (k + 1) = (absL L).take k ++ [⟨e.lba, e.data⟩] by
        obtain ⟨h1, h2⟩ := List.getElem?_eq_some_iff.1 he
        rw [List.take_succ_eq_append_getElem (by unfold absL; rw [List.length_map]; exact hlt)]
        unfold absL
        rw [List.getElem_map, h2]
        rfl)
      have hlk : ((absL L).take k).length < L.length := by rw [List.length_take]; unfold absL; rw [List.length_map]; omega
      rw [adr_node he]
      have hqe := run_neq_other wr (a := ⟨e.b, 0, none⟩) (b := ⟨P, 1, none⟩) (by intro h; cases h) (HW.ring.node k e he) HW.ring.root
      replace he := Lib.hid he
      obtain ⟨B, lb, dt⟩ := e
      dsimp only at *
      have hJd := hJ _ _ wr.drew hJk.out (below_drew (Below.refl _ _))
      obtain ⟨fn, tmps, assign, body, hy, hR⟩ := hY _ ⟨lb, dt⟩ _ hJd hlk
      dsimp only [encS] at hy hR
      gi_wp2_with fail
      gi_region_with (refine hR.mono ?_; intro e W3 hE; obtain ⟨bb, rfl, hE2⟩ := bool_ways hE; clear hE)
      all_goals
        clear hy hR hJd xw c0 c1 hqe hne
        rcases hE2.out with ⟨rfl, hJ4, hk4⟩ | ⟨rfl, hJx4⟩
        · rw [← hn1.out] at hJ4
          have hb4 := Aside0.mk (hb.out.trans hk4)
          replace hJ4 := Aside0.mk hJ4
          have H4 : LAt b0 room hits misses L P M D W3 := H.out.same fun k _ hp => hb4.out k (.inl hp)
          have c3 : W3.cell? ⟨B, 3, none⟩ = some (nxS P L (k + 1)) := blk_cell (H4.ring.node k _ he.out) 3
          obtain ⟨pn, hpn⟩ : ∃ pn, Aside0 (nxS P L (k + 1) = pn) := ⟨_, ⟨rfl⟩⟩
          rw [hpn.out] at c3
          have hk2 := Lib.hid (hkz.out (k + 1) hlt)
          clear hJk hn1 hk4 H4 hE2
          gi_wp2
          go_roundw
          case rel => exact ⟨k + 1, by omega, ⟨hpn.out.symm⟩, hJ4, hb4⟩
          case measure =>
            show L.length - kOf L pn < L.length - kOf L (.pointer (some ⟨B, 0, none⟩))
            rw [← hpn.out, hkk.out]
            unfold nxS
            rw [hk2.out]
            omega
        · rw [← hn1.out] at hJx4
          gi_wp2
          refine bodyPost_ret (results_none rfl _ _ _) rfl ?_
          exact ⟨⟨_, rfl⟩, .inr ⟨_, List.take_prefix _ _, hJx4⟩⟩
    · obtain rfl : k = L.length := by omega
      have hqe := run_neq_same wr ⟨P, 1, none⟩
      rw [adr_out (Nat.le_refl _)]
      have hJ1 := hJk.out
      rw [List.take_of_length_le (by unfold absL; rw [List.length_map]; exact Nat.le_refl _)] at hJ1
      gi_wp2
      go_end0
      exact ⟨⟨_, rfl⟩, .inl ⟨_, rfl, hJ1⟩⟩
theorem iter_stops (b0 : Nat) (room hits misses : Int) (L : List EL) (P M : Nat) (D : DataW Value) (X : Nat) (w : World) (hX : Boxed w X 25 (.pointer (some ⟨P, 0, none⟩))) (H : LAt b0 room hits misses L P M D w) :
    SeqStopsK Fence.wide 6 Try.prog 21 #[.pointer (some ⟨X, 0, none⟩)] encS (Same (TB P M L X)) (fun ys => ys = absL L) (fun pre => pre <+: absL L) L.length w := fun l J Jx W hW hJ _ hY h0 =>
  iter_in b0 room hits misses L P M D l X J Jx (fun s W1 W2 h hb => hJ s W1 W2 none h ⟨hb.os, hb.tape, hb.output, hb.size, fun k hk _ => hb.block k hk⟩ (fun r e => by cases e)) hY W ⟨blk_below hX hW⟩ ⟨H.below hW⟩ h0
theorem same_t {T : Nat → Prop} : ∀ {A B C : World}, Same T A B → Same T B C → Same T A C := fun h k => h.trans k
theorem same_b {T : Nat → Prop} {n : Nat} (hT : ∀ k, T k → k < n) (W : World) (l : Nat) (o o' : Obj) (hl : n ≤ l) (_ : W.heap[l]? = some o) (_ : o.isCells = false) (_ : o.isWalk = false) : Same T W (W.putObj l o') :=
  fun k hk => (grownBy_putObj' W l o').block k (by
    rcases Nat.lt_or_ge k W.heap.size with h | h
    · exact h
    · have := hT k hk
      have : l < W.heap.size := (Array.getElem?_eq_some_iff.1 (by assumption)).1
      omega) (fun e => by have := hT k hk; cases e; omega)
theorem not_cells {W : World} {row : Option Nat} {B : Nat} (hr : ∀ r, row = some r → B ≤ r ∧ ∃ o : Obj, W.heap[r]? = some o ∧ o.isCells = false) {k : Nat} {cells : Array Value} {q : Nat} (hk : W.heap[k]? = some (.cells cells q (0, 0))) : some k ≠ row := by
  intro e
  obtain ⟨_, o, ho, hoc⟩ := hr k e.symm
  rw [hk] at ho
  injection ho with ho
  subst ho
  simp [Obj.isCells] at hoc
theorem ch_own {β : Type} (S : Nat → Prop) (w : World) (B : Nat) (hB : w.heap.size ≤ B) : OwnFrom B (fun (_ : β) W => Ch S w W) :=
  fun _ W W' row h hg hr => ⟨hg.os.trans h.os, hg.tape.trans h.tape, hg.output.trans h.output, Nat.le_trans h.size hg.size, fun k hk hn => (hg.block k (Nat.lt_of_lt_of_le hk h.size) (fun e => by have := (hr k e.symm).1; omega)).trans (h.block k hk hn)⟩
theorem Ch.alloc {S : Nat → Prop} {w W : World} (h : Ch S w W) (o : Obj) : Ch S w (W.alloc o) := h.trans (Ch.of_below ((Below.refl _ _).alloc (Nat.le_refl _) _))
theorem Ch.grown {S : Nat → Prop} {w W W' : World} {row : Option Nat} (h : Ch S w W) (hg : W.grownBy W' row) (hr : ∀ r, row = some r → S r ∨ w.heap.size ≤ r) : Ch S w W' :=
  ⟨hg.os.trans h.os, hg.tape.trans h.tape, hg.output.trans h.output, Nat.le_trans h.size hg.size, fun k hk hn => (hg.block k (Nat.lt_of_lt_of_le hk h.size) (fun e => (hr k e.symm).elim hn (by omega))).trans (h.block k hk hn)⟩
theorem box_own {β : Type} (Y t B : Nat) (f : β → Value) : OwnFrom B (fun (s : β) W => Boxed W Y t (f s)) :=
  fun s W W' row h hg hr => h.kept hg (not_cells hr h)
theorem R_own {α : Type} {d : Kd α} {e base : Nat} {ok : Nat → Prop} {W W' : World} {row : Option Nat} {B : Nat} {v : Value} {l : List α} (hR : d.R e W base ok v l) (hg : W.grownBy W' row) (hr : ∀ r, row = some r → B ≤ r ∧ ∃ o : Obj, W.heap[r]? = some o ∧ o.isCells = false) : d.R e W' base ok v l :=
  Kd.R_mono (Kd.R_step (Kd.R_bound hR) (fun k hk hlt => by
    obtain ⟨_, _, _, q, _, cells, hc⟩ := hk
    exact hg.block k hlt (not_cells hr hc))) (fun k hk => hk.1)
end Go.Proofs.Ytilephiplfigpaa.PQ
