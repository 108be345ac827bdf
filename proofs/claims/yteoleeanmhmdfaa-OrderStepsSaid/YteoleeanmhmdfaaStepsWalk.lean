/- OrderSteps walked. -/
import Derived.RangeFuncNested
import Derived.RangeFuncBound
import Derived.RangeFuncCalls
import Derived.RangeFuncLeaves
import Derived.RangeFuncBox
import Derived.Shelf.Abstract
import Derived.Shelf.RegionOpen
import Derived.WalkKit
import Derived.OwnWalkIn
import Derived.TacticsInMore
import Derived.LoopNIn
import Derived.LoopIn
import Derived.Maps.AppendAt
import Derived.WalkSpells
import Derived.LoopTactic
import Derived.Lib.Hide
import Derived.IntWalk
import Derived.Deep.QuietTactic
import Derived.BigQuiet
import Derived.Laws.Rows
import Derived.Outline
import Derived.OwnWalk
import Derived.Test.YteoleeanmhmdfaaStepsIter
namespace Go.Proofs.Yteoleeanmhmdfaa.PS
open Go.RowKit Go.Shelf Go.Proofs.YteoleeanmhmdfaaW.PrintWords Go.Proofs.YteoleeanmhmdfaaW.PrintLast Go.Proofs.YteoleeanmhmdfaaW.PrintMore
set_option linter.unusedVariables false
set_option linter.unusedSimpArgs false
attribute [local go_sem] Oper.semAt_some
/-- All blocks but those of S stay. -/
structure Ch (S : Nat → Prop) (w w' : World) : Prop where
  os : w'.os = w.os
  tape : w'.tape = w.tape
  output : w'.output = w.output
  size : w.heap.size ≤ w'.heap.size
  block : ∀ k, k < w.heap.size → ¬ S k → w'.heap[k]? = w.heap[k]?
theorem Ch.refl (S : Nat → Prop) (w : World) : Ch S w w := ⟨rfl, rfl, rfl, Nat.le_refl _, fun _ _ _ => rfl⟩
theorem Ch.of_below {S : Nat → Prop} {w w' : World} (h : Below w.heap.size w w') : Ch S w w' := ⟨h.os, h.tape, h.output, h.size, fun k hk _ => h.block k hk⟩
theorem Ch.trans {S : Nat → Prop} {a b c : World} (h : Ch S a b) (k : Ch S b c) : Ch S a c :=
  ⟨k.os.trans h.os, k.tape.trans h.tape, k.output.trans h.output, Nat.le_trans h.size k.size, fun i hi hn => (k.block i (Nat.lt_of_lt_of_le hi h.size) hn).trans (h.block i hi hn)⟩
theorem Ch.below {S : Nat → Prop} {w w' : World} (h : Ch S w w') {n : Nat} (hn : n ≤ w.heap.size) (hS : ∀ k, S k → n ≤ k) : Below n w w' := ⟨h.os, h.tape, h.output, h.size, fun k hk => h.block k (by omega) (fun s => by have := hS k s; omega)⟩
theorem Ch.grown {S : Nat → Prop} {w W W' : World} {row : Option Nat} (h : Ch S w W) (hg : W.grownBy W' row) (hr : ∀ r, row = some r → S r ∨ w.heap.size ≤ r) : Ch S w W' :=
  ⟨hg.os.trans h.os, hg.tape.trans h.tape, hg.output.trans h.output, Nat.le_trans h.size hg.size, fun k hk hn => (hg.block k (Nat.lt_of_lt_of_le hk h.size) (fun e => (hr k e.symm).elim hn (by omega))).trans (h.block k hk hn)⟩
theorem ch_own {β : Type} (S : Nat → Prop) (w : World) (B : Nat) (hB : w.heap.size ≤ B) : OwnFrom B (fun (_ : β) W => Ch S w W) :=
  fun _ W W' row h hg hr => h.grown hg (fun r e => .inr (Nat.le_trans hB (hr r e).1))
/-- The steps that have come, in the box of block X. -/
def SomeAt (X base : Nat) (l : List S24) (W : World) : Prop := ∃ v, Boxed W X 36 v ∧ Kd.R k24 24 W base (fun k => k ≠ X) v l
theorem SomeAt.own {β : Type} (X base B : Nat) (f : β → List S24) : OwnFrom B (fun (s : β) W => SomeAt X base (f s) W) := by
  rintro s W W' row ⟨v, hb, hR⟩ hg hr
  have hne : ∀ k, ∀ cells q, W.heap[k]? = some (.cells cells q (0, 0)) → some k ≠ row := by
    intro k cells q hk e
    obtain ⟨_, o, ho, hoc⟩ := hr k e.symm
    rw [hk] at ho
    injection ho with ho
    subst ho
    simp [Obj.isCells] at hoc
  refine ⟨v, hb.kept hg (hne X _ _ hb), Kd.R_mono (Kd.R_step (Kd.R_bound hR) (fun k hk hlt => ?_)) (fun k hk => hk.1)⟩
  obtain ⟨_, _, _, q, _, cells, hc⟩ := hk
  exact hg.block k hlt (hne k cells q hc)
/-- Where the loop was left. -/
def Left (kk : Int) (X base : Nat) (c : Code) (pre1 : List S24) (W : World) : Prop := c = .exit 0 ∧ ∃ pre x, pre1 = pre ++ [x] ∧ kk = (pre.length : Int) ∧ SomeAt X base pre W
theorem Left.own (kk : Int) (X base B : Nat) (c : Code) : OwnFrom B (Left kk X base c) := by
  rintro s W W' row ⟨hc, pre, x, e, hk, h⟩ hg hr
  exact ⟨hc, pre, x, e, hk, SomeAt.own X base B (fun _ : Unit => pre) () W W' row h hg hr⟩
theorem Ch.alloc {S : Nat → Prop} {w W : World} (h : Ch S w W) (o : Obj) : Ch S w (W.alloc o) := h.trans (Ch.of_below ((Below.refl _ _).alloc (Nat.le_refl _) _))
theorem SomeAt.alloc {X base : Nat} {l : List S24} {W : World} (h : SomeAt X base l W) (o : Obj) : SomeAt X base l (W.alloc o) := by
  obtain ⟨v, hb, hR⟩ := h
  exact ⟨v, hb.alloc o, Kd.R_alloc hR o⟩
theorem row_cells {W : World} {base : Nat} {ok : Nat → Prop} {v : Value} {l : List S24} {j : Nat} (h : Kd.R k24 24 W base ok v l) (hj : v.ownBlock = some j) : base ≤ j ∧ ok j ∧ ∃ q cells, W.heap[j]? = some (.cells cells q (0, 0)) := by
  obtain ⟨h1, h2, _, q, _, cells, hc⟩ := (Kd.R_bound h).1 j hj
  exact ⟨h2, h1, q, cells, hc⟩
theorem SomeAt.round {X n0 : Nat} {pre : List S24} {x : S24} {W w1 w5 : World} {v v1 : Value} {kk : Int} (hC : Ch (fun k => k = X) w5 W) (bv : Boxed W X 36 v) (hR : Kd.R k24 24 W w5.heap.size (fun k => k ≠ X) v pre)
    (hg : W.grownBy w1 v.ownBlock) (ho : Kd.R k24 24 w1 w5.heap.size (fun k => k ≠ X) v1 (pre ++ [x])) (hX : n0 ≤ X) (hs : X + 1 ≤ w5.heap.size) (hk : 0 ≤ kk → (pre.length : Int) ≤ kk) (hkk : ¬ (pre.length : Int) = kk) :
    KeepsFrom w5.heap.size W (w1.setCell ⟨X, 0, none⟩ v1) ∧ Below n0 W (w1.setCell ⟨X, 0, none⟩ v1) ∧ (SomeAt X w5.heap.size (pre ++ [x]) (w1.setCell ⟨X, 0, none⟩ v1) ∧ Ch (fun k => k = X) w5 (w1.setCell ⟨X, 0, none⟩ v1)) ∧ (0 ≤ kk → ((pre ++ [x]).length : Int) ≤ kk) := by
  have hb1 : Boxed w1 X 36 v := bv.kept hg (fun e => (row_cells hR e.symm).2.1 rfl)
  have hsz := hC.size
  refine ⟨?_, ?_, ⟨⟨v1, hb1.set v1, Kd.R_step ho (fun k hk _ => ?_)⟩, ?_⟩, ?_⟩
  · refine ((KeepsOthers.of_grownBy hg fun j o ej hj => ?_).trans (KeepsOthers.setCell _ _ _)).from _
    obtain ⟨_, _, q, cells, hc⟩ := row_cells hR ej
    rw [hc] at hj
    cases hj
    rfl
  · exact ((Below.refl n0 W).grown hg (by omega) (fun j ej => by have := (row_cells hR ej).1; omega)).setCell (p := ⟨X, 0, none⟩) hX v1
  · exact Below.heap_setCell _ _ _ _ hk
  · refine (hC.grown hg (fun j ej => .inr (row_cells hR ej).1)).grown (grownBy_setCell' w1 X v1) (fun j ej => .inl (by cases ej; rfl))
  · intro h
    have := hk h
    rw [List.length_append, List.length_singleton]
    omega
/-- What stays behind the loop. -/
structure TT (w : World) (kk s0 : Int) (s1 : Bool) (X base base9 D : Nat) (L1 L2 : List S24) (u9 : Value) (W : World) : Prop where
  k4 : W.heap[w.heap.size]? = some (.cells #[.int .i64 kk] 3 (0, 0))
  s5 : W.heap[w.heap.size + 1]? = some (.cells #[.int .i64 s0, .bool s1] 24 (0, 0))
  got : SomeAt X base L1 W
  want : Kd.R k24 24 W base9 (fun k => k ≠ X) u9 L2
  dK : W.heap[D]? = some (.deferred (some []))
  bel : Below w.heap.size w W
section
variable {w W W' : World} {kk s0 : Int} {s1 : Bool} {X base base9 D : Nat} {L1 L2 : List S24} {u9 : Value}
theorem SomeAt.below {l : List S24} (h : SomeAt X base l W) (hb : Below W.heap.size W W') : SomeAt X base l W' := by
  obtain ⟨v, hv, hR⟩ := h
  exact ⟨v, blk_below hv hb, Kd.R_below hR hb⟩
theorem TT.below (h : TT w kk s0 s1 X base base9 D L1 L2 u9 W) (hb : Below W.heap.size W W') : TT w kk s0 s1 X base base9 D L1 L2 u9 W' :=
  ⟨blk_below h.k4 hb, blk_below h.s5 hb, h.got.below hb, Kd.R_below h.want hb, (hb.block D (blk_lt h.dK)).trans h.dK, h.bel.trans (hb.mono h.bel.size)⟩
theorem TT.alloc (h : TT w kk s0 s1 X base base9 D L1 L2 u9 W) (o : Obj) : TT w kk s0 s1 X base base9 D L1 L2 u9 (W.alloc o) := h.below ((Below.refl _ _).alloc (Nat.le_refl _) _)
theorem TT.of {w5 : World} (hC : Ch (fun k => k = X) w5 W) (hB : Below w.heap.size w w5) (hX : w.heap.size + 1 < X) (c4 : w5.heap[w.heap.size]? = some (.cells #[.int .i64 kk] 3 (0, 0))) (c5 : w5.heap[w.heap.size + 1]? = some (.cells #[.int .i64 s0, .bool s1] 24 (0, 0)))
    (got : SomeAt X base L1 W) (want : Kd.R k24 24 w5 base9 (fun k => k ≠ X) u9 L2) (dK : W.heap[D]? = some (.deferred (some []))) : TT w kk s0 s1 X base base9 D L1 L2 u9 W :=
  ⟨(hC.block _ (blk_lt c4) (by omega)).trans c4, (hC.block _ (blk_lt c5) (by omega)).trans c5, got, Kd.R_step want (fun k ho hlt => hC.block k hlt ho), dK, hB.trans (hC.below hB.size (fun k e => by omega))⟩
theorem TT.cells (h : TT w kk s0 s1 X base base9 D L1 L2 u9 W) : W.cell? ⟨w.heap.size, 0, none⟩ = some (.int .i64 kk) ∧ W.cell? ⟨w.heap.size + 1, 0, none⟩ = some (.int .i64 s0) ∧ W.cell? ⟨w.heap.size + 1, 1, none⟩ = some (.bool s1) :=
  ⟨blk_cell h.k4 0, blk_cell h.s5 0, blk_cell h.s5 1⟩
/-- The block for the rounds' deferred calls is turned at the end. -/
theorem TT.end_ (h : TT w kk s0 s1 X base base9 D L1 L2 u9 W) (hD : w.heap.size ≤ D) : Below w.heap.size w (W.putObj D (.deferred none)) :=
  h.bel.trans (belowK_b (w := w) (Nat.le_refl _) W D _ _ hD h.dK rfl rfl)
end
theorem run_equalIn_fn_nil (w : World) (d : Nat) (t : TypeId) (f : Fn) (r g : Array Value) (pr rs : Array TypeId) (vd : Bool) (h : Try.prog.underlying t = some (.func pr rs vd)) : (Op.equalIn (d + 1) t (.func f r g) .nilFunc).run Try.prog w = .ok false w := by
  simp [Op.equalIn, run_underlying h]
theorem run_fn_nil (w : World) (t : TypeId) (f : Fn) (r g : Array Value) (pr rs : Array TypeId) (vd : Bool) (h : Try.prog.underlying t = some (.func pr rs vd)) : (binOp .eql t (.func f r g) .nilFunc).run Try.prog w = .ok (.bool false) w := by
  simp only [binOp]
  simp [Op.equal, Op.maxDepth, run_equalIn_fn_nil w 9999 t f r g pr rs vd h]
set_option maxHeartbeats 8000000 in
set_option maxRecDepth 100000 in
theorem steps_core (n kk s0 : Int) (s1 : Bool) (w : World) :
    Calls Try.prog 6 #[.int .i64 n, .int .i64 kk, .agg #[.int .i64 s0, .bool s1]] w fun e w' => e = .returned (.bool true) ∧ Below w.heap.size w w' := by
  refine (callsIn_wide (n := 7)).1 (callsIn_of_wp_marks Try.func6 rfl trivial ?_ rfl)
  simp only [Try.ntmps6, List.size_toArray, List.length_cons, List.length_nil, Nat.reduceAdd, Nat.reduceSub, Array.replicate_succ, Array.replicate_zero, List.push_toArray, List.append_toArray, List.nil_append, List.cons_append]
  gi_wp2_with fail
  refine ⟨trivial, (callsIn_wide.2 (steps_calls n _)).mono ?_⟩
  rintro e w3 ⟨rfl, rfl⟩
  have q34 : ∀ (w : World) (f : Fn) (r g : Array Value), (binOp .eql 34 (.func f r g) .nilFunc).run Try.prog w = .ok (.bool false) w := fun w f r g => run_fn_nil w 34 f r g _ _ _ Try.underlying34
  gi_wp2_with fail
  have hB4 : Below w.heap.size w ((((w.alloc (.cells #[.int .i64 kk] 3)).alloc (.cells #[.int .i64 s0, .bool s1] 24)).alloc (.cells #[.int .i64 n] 3)).alloc (.cells #[.slice none 0 0] 36)) := ((((Below.refl _ w).alloc (Nat.le_refl _) _).alloc (by simp) _).alloc (by simp; omega) _).alloc (by simp; omega) _
  have b4 := (((Boxed.new w 3 (.int .i64 kk)).alloc (.cells #[.int .i64 s0, .bool s1] 24)).alloc (.cells #[.int .i64 n] 3)).alloc (.cells #[.slice none 0 0] 36)
  have b5 := blk_alloc (blk_alloc (blk_new (w.alloc (.cells #[.int .i64 kk] 3)) (.cells #[.int .i64 s0, .bool s1] 24)) (.cells #[.int .i64 n] 3)) (.cells #[.slice none 0 0] 36)
  have b6 := (Boxed.new ((w.alloc (.cells #[.int .i64 kk] 3)).alloc (.cells #[.int .i64 s0, .bool s1] 24)) 3 (.int .i64 n)).alloc (.cells #[.slice none 0 0] 36)
  have b8 := Boxed.new (((w.alloc (.cells #[.int .i64 kk] 3)).alloc (.cells #[.int .i64 s0, .bool s1] 24)).alloc (.cells #[.int .i64 n] 3)) 36 (.slice none 0 0)
  have hs4 : ((((w.alloc (.cells #[.int .i64 kk] 3)).alloc (.cells #[.int .i64 s0, .bool s1] 24)).alloc (.cells #[.int .i64 n] 3)).alloc (.cells #[.slice none 0 0] 36)).heap.size = w.heap.size + 1 + 1 + 1 + 1 := by simp
  simp only [World.size_alloc] at b5 b6 b8
  generalize (((w.alloc (.cells #[.int .i64 kk] 3)).alloc (.cells #[.int .i64 s0, .bool s1] 24)).alloc (.cells #[.int .i64 n] 3)).alloc (.cells #[.slice none 0 0] 36) = W4 at *
  refine ⟨trivial, (callsIn_wide.2 (deckleref07_Steps.calls 300 n (Ls n) W4 (refSteps n))).mono ?_⟩
  rintro e w5 ⟨u9, rfl, hR9, hb⟩
  have hB5 := hB4.trans (hb.mono hB4.size)
  have c4 := blk_below b4 hb
  have c5 := blk_below b5 hb
  have c6 := blk_below b6 hb
  have c8 := blk_below b8 hb
  have hs5 : w.heap.size + 1 + 1 + 1 + 1 ≤ w5.heap.size := by have := hb.size; omega
  have hR9' : Kd.R k24 24 w5 W4.heap.size (fun k => k ≠ w.heap.size + 1 + 1 + 1) u9 (Ls n) := Kd.R_mono (Kd.R_bound hR9) (fun k hk => by have := hk.2.1; omega)
  obtain ⟨A9, c9, rfl⟩ := Kd.R_slice hR9
  clear b4 b5 b6 b8 hB4 hb hR9
  obtain ⟨va, vb, vc, hA1, hA2⟩ := at_same n kk
  obtain ⟨vd, ve, hP1, hP2⟩ := place_same n s0 s1
  obtain ⟨vm, vi, hF1, hF2⟩ := after_same n kk s0
  have q8 := Lib.hid fun w' => order_At.calls 300 n kk va vb vc w' hA1
  have q13 := Lib.hid fun w' => deckleref07_At.calls 300 n kk va vb vc w' hA2
  have q9 := Lib.hid fun w' => order_Place.calls 300 n s0 s1 vd ve w' hP1
  have q14 := Lib.hid fun w' => deckleref07_Place.calls 300 n s0 s1 vd ve w' hP2
  have q10 := Lib.hid fun w' => order_After.calls 300 n kk s0 vm vi w' hF1
  have q15 := Lib.hid fun w' => deckleref07_After.calls 300 n kk s0 vm vi w' hF2
  have q7 := Lib.hid fun w' => decklelaw07_works.calls (280 + 20) true w' (works_ok 280)
  clear hA1 hA2 hP1 hP2 hF1 hF2
  have hL9 := Lib.hid (show (Ls n).length ≤ 128 by have := Ls_len n; split at this <;> omega)
  gi_wp2_with fail
  refine wpIn_rangeFunc_ownH rfl (by decide) (gf := 18) (lb := #[.pointer (some ⟨w.heap.size + 1 + 1, 0, none⟩)]) rfl trivial (enters_of Try.func18 (by kernel_rfl) rfl)
    (iter_stops (w.heap.size + 1 + 1) (w.heap.size + 3) n w5 (by omega) (by omega) (Boxed.cell c6)) belowK_t (belowK_b (by omega)) (Below.refl _ _) (fun _ => rfl)
    (fun pre W => (SomeAt (w.heap.size + 1 + 1 + 1) w5.heap.size pre W ∧ Ch (fun k => k = w.heap.size + 1 + 1 + 1) w5 W) ∧ (0 ≤ kk → (pre.length : Int) ≤ kk))
    (fun c pre1 W => Left kk (w.heap.size + 1 + 1 + 1) w5.heap.size c pre1 W ∧ Ch (fun k => k = w.heap.size + 1 + 1 + 1) w5 W)
    (OwnFrom.and (OwnFrom.and (SomeAt.own _ _ _ (fun pre => pre)) (ch_own _ _ _ (Nat.le_refl _))) (ownFrom_pure _ _))
    (fun c => OwnFrom.and (Left.own kk _ _ _ c) (ch_own _ _ _ (Nat.le_refl _)))
    ⟨⟨⟨_, c8, Kd.R_nil _ _ _ _ _⟩, Ch.refl _ _⟩, fun h => h⟩
    (fun x a' W => ∃ Bx, w5.heap.size ≤ Bx ∧ W.heap[Bx]? = some (.cells #[.int .i64 x.f0, .bool x.f1] 24 (0, 0)) ∧ a' = { tmps := #[.int .i64 n, .int .i64 kk, .agg #[.int .i64 s0, .bool s1], undef, .pointer (some ⟨w.heap.size, 0, none⟩), .pointer (some ⟨w.heap.size + 1, 0, none⟩), .bool false, .func (.func 18) #[] #[.pointer (some ⟨w.heap.size + 1 + 1, 0, none⟩)], .pointer (some ⟨w.heap.size + 1 + 1 + 1, 0, none⟩), .slice A9 (Ls n).length c9, .pointer (some ⟨Bx, 0, none⟩), undef, undef, undef, undef, undef, undef, undef, undef, undef, undef, undef, undef, .int .i64 n, .func (.func 18) #[] #[.pointer (some ⟨w.heap.size + 1 + 1, 0, none⟩)], .func (.func 18) #[] #[.pointer (some ⟨w.heap.size + 1 + 1, 0, none⟩)], .bool false, .int .i64 n, .slice A9 (Ls n).length c9, .func (.func 18) #[] #[.pointer (some ⟨w.heap.size + 1 + 1, 0, none⟩)], .agg #[.int .i64 x.f0, .bool x.f1], undef, undef, undef, undef, undef, undef, undef, undef, undef, undef, undef, undef, undef, undef, undef, undef, undef, undef, undef, undef, undef, undef, undef, undef, undef, undef, undef, undef, undef, undef, undef, undef, undef, undef, undef, undef, undef, undef, undef, undef, undef, undef, undef, undef, undef, undef, undef, undef, undef, undef, undef, undef, undef, undef, undef, undef, undef, undef, undef, undef, undef, undef, undef, undef, undef, undef, undef, undef, undef, undef, undef, undef, undef, undef, undef, undef, undef, undef, undef, undef, undef, undef, undef, undef, undef, undef, undef, undef, undef, undef, undef, undef, undef, undef, undef], defers := [] })
    (fun x a' _ W W' row hs hg hr => by
      obtain ⟨Bx, h1, h2, h3⟩ := hs
      refine ⟨Bx, h1, (hg.block Bx (blk_lt h2) (fun e => ?_)).trans h2, h3⟩
      obtain ⟨_, o, ho, hoc⟩ := hr Bx e.symm
      rw [h2] at ho
      injection ho with ho
      subst ho
      simp [Obj.isCells] at hoc)
    ?assign ?body ?done ?stop
  case assign =>
    rintro l pre x W K ⟨⟨hS, hC⟩, hk⟩ hK
    unfold encS
    gi_wp2
    exact hK _ _ ((KeepsOthers.alloc _ _).from _) ((Below.refl _ W).alloc (by have := hC.size; omega) _) ⟨⟨SomeAt.alloc hS _, hC.alloc _⟩, hk⟩ ⟨W.heap.size, hC.size, blk_new _ _, rfl⟩
  case body =>
    rintro l pre x a' W hl ⟨r, hr⟩ ⟨⟨⟨v, bv, hR⟩, hC⟩, hk⟩ ⟨Bx, hBx, bX, rfl⟩ hlt
    have c4' : W.cell? ⟨w.heap.size, 0, none⟩ = some (.int .i64 kk) := Boxed.cell ((hC.block _ (blk_lt c4) (by omega)).trans c4)
    have bvc := Boxed.cell bv
    have bvf := Boxed.frozen bv
    have x0 := (blk_cell bX 0).trans (rfl : _ = some (Value.int .i64 x.f0))
    have x1 := (blk_cell bX 1).trans (rfl : _ = some (Value.bool x.f1))
    have hlp : pre.length ≤ 128 := by have := Ls_len n; split at this <;> omega
    obtain ⟨A, c, rfl⟩ := Kd.R_slice hR
    by_cases hkk : (pre.length : Int) = kk
    · have z : ((pre.length : Int) == kk) = true := beq_iff_eq.2 hkk
      gi_wp2
      exact ⟨KeepsFrom.refl _ _, ⟨rfl, pre, x, rfl, hkk.symm, _, bv, hR⟩, hC⟩
    · have z : ((pre.length : Int) == kk) = false := beq_eq_false_iff_ne.2 hkk
      gi_wp2_with (gi_at_builtin; refine R_append_in (P := Try.prog) k24 w5.heap.size (by rfl) (.tmp 35) (.tmp 37) 36 24 (.agg #[.int .i64 0, .bool false]) 16 (by rfl) Try.underlying36 info24 rfl (by decide) (by decide) (.slice A pre.length c) pre x [.int .i64 x.f0, .bool x.f1] (fun k => k ≠ w.heap.size + 1 + 1 + 1) (fun _ => False) (by rfl) (by rfl) (k24_mkM _ _ _ x) (fun _ hk => hk.elim) (fun q hq => by have := hC.size; omega) hR hC.size (by omega) ?_; intro v1 w1 ho hg hat; have hb1 : Boxed w1 (w.heap.size + 1 + 1 + 1) 36 (.slice A pre.length c) := bv.kept hg (fun e => (hR.1 _ e.symm) rfl); have hg1 := Aside0.mk hg; have ho1 := Aside0.mk ho; have d1 := Boxed.cell hb1; have f1 := Boxed.frozen hb1; clear ho hg hat; (obtain ⟨A1, c1, rfl⟩ := Kd.R_slice ho1.out))
      have ho2 := ho1.out
      rw [List.length_append, List.length_singleton] at ho2
      exact SomeAt.round hC bv hR hg1.out ho2 (by omega) hs5 hk hkk
  case done =>
    rintro D xs W hD rfl ⟨⟨hS, hC⟩, hk⟩ hK
    have T0 := Aside0.mk (TT.of (s0 := s0) (s1 := s1) hC hB5 (by omega) c4 c5 hS hR9' hK)
    obtain ⟨d0, d1, d2⟩ := T0.out.cells
    have hDD : w.heap.size ≤ D := by omega
    clear hS hC hK c4 c5 c6 c8 hR9'
    by_cases h0 : 0 ≤ kk
    · have z1 : decide (0 ≤ kk) = true := decide_eq_true h0
      have z2 : decide (kk < ((Ls n).length : Int)) = false := decide_eq_false (by have := hk h0; omega)
      generalize hLL : Ls n = LL at *
      gi_wp2_with fail
      refine ⟨trivial, (callsIn_wide.2 (q8.out _)).mono ?_⟩
      rintro e w6 ⟨rfl, hb⟩
      have T1 := Aside0.mk (T0.out.below hb)
      clear hb d0 d1 d2 q8
      obtain ⟨d0, d1, d2⟩ := T1.out.cells
      clear T0
      have x11 := Aside0.mk (blk_new w6 (.cells #[.int .i64 va, .bool vb] 24))
      have T2 := Aside0.mk (T1.out.alloc (.cells #[.int .i64 va, .bool vb] 24))
      clear d0 d1 d2
      obtain ⟨d0, d1, d2⟩ := T2.out.cells
      clear T1
      gi_wp2_with fail
      refine ⟨trivial, (callsIn_wide.2 (q13.out _)).mono ?_⟩
      rintro e w7 ⟨rfl, hb⟩
      have T3 := Aside0.mk (T2.out.below hb)
      replace x11 := Aside0.mk (blk_below x11.out hb)
      clear hb d0 d1 d2 q13
      obtain ⟨d0, d1, d2⟩ := T3.out.cells
      clear T2
      have x13 := Aside0.mk (blk_new w7 (.cells #[.int .i64 va, .bool vb] 24))
      have T4 := Aside0.mk (T3.out.alloc (.cells #[.int .i64 va, .bool vb] 24))
      replace x11 := Aside0.mk (blk_alloc x11.out (.cells #[.int .i64 va, .bool vb] 24))
      clear d0 d1 d2
      obtain ⟨d0, d1, d2⟩ := T4.out.cells
      clear T3
      gi_wp2_with fail
      refine ⟨trivial, (callsIn_wide.2 (q9.out _)).mono ?_⟩
      rintro e w8 ⟨rfl, hb⟩
      have T5 := Aside0.mk (T4.out.below hb)
      replace x11 := Aside0.mk (blk_below x11.out hb)
      replace x13 := Aside0.mk (blk_below x13.out hb)
      clear hb d0 d1 d2 q9
      obtain ⟨d0, d1, d2⟩ := T5.out.cells
      clear T4
      gi_wp2_with fail
      refine ⟨trivial, (callsIn_wide.2 (q14.out _)).mono ?_⟩
      rintro e w9 ⟨rfl, hb⟩
      have T6 := Aside0.mk (T5.out.below hb)
      replace x11 := Aside0.mk (blk_below x11.out hb)
      replace x13 := Aside0.mk (blk_below x13.out hb)
      clear hb d0 d1 d2 q14
      obtain ⟨d0, d1, d2⟩ := T6.out.cells
      clear T5
      gi_wp2_with fail
      refine ⟨trivial, (callsIn_wide.2 (q10.out _)).mono ?_⟩
      rintro e w10 ⟨rfl, hb⟩
      have T7 := Aside0.mk (T6.out.below hb)
      replace x11 := Aside0.mk (blk_below x11.out hb)
      replace x13 := Aside0.mk (blk_below x13.out hb)
      clear hb d0 d1 d2 q10
      obtain ⟨d0, d1, d2⟩ := T7.out.cells
      clear T6
      gi_wp2_with fail
      refine ⟨trivial, (callsIn_wide.2 (q15.out _)).mono ?_⟩
      rintro e w11 ⟨rfl, hb⟩
      have T8 := Aside0.mk (T7.out.below hb)
      replace x11 := Aside0.mk (blk_below x11.out hb)
      replace x13 := Aside0.mk (blk_below x13.out hb)
      clear hb d0 d1 d2 q15
      obtain ⟨d0, d1, d2⟩ := T8.out.cells
      clear T7
      obtain ⟨vv, bvv, hRv⟩ := T8.out.got
      have dv := Boxed.cell bvv
      obtain ⟨A0, c0, rfl⟩ := Kd.R_slice hRv
      have hr0 := Kd.R_reads' hRv
      have hr1 := Kd.R_reads' T8.out.want
      have q16 := Lib.hid (decklebook_SameSteps.calls (LL.length + 1) A0 c0 LL A9 c9 LL true w11 hr0.2.2 hr0.2.1 hr1.2.2 hr1.2.1 (same_ok LL (by have := hL9.out; omega)))
      clear hr0 hr1 hRv bvv
      gi_wp2_with fail
      refine ⟨trivial, (callsIn_wide.2 q16.out).mono ?_⟩
      rintro e w12 ⟨rfl, ⟨⟨m9, rfl⟩⟩⟩
      have T9 := Aside0.mk (T8.out.below (W' := w11.drewN m9) ⟨rfl, rfl, rfl, Nat.le_refl _, fun _ _ => rfl⟩)
      have y0 : (w11.drewN m9).cell? ⟨w6.heap.size, 0, none⟩ = some (.int .i64 va) := blk_cell x11.out 0
      have y1 : (w11.drewN m9).cell? ⟨w6.heap.size, 1, none⟩ = some (.bool vb) := blk_cell x11.out 1
      have y2 : (w11.drewN m9).cell? ⟨w7.heap.size, 0, none⟩ = some (.int .i64 va) := blk_cell x13.out 0
      have y3 : (w11.drewN m9).cell? ⟨w7.heap.size, 1, none⟩ = some (.bool vb) := blk_cell x13.out 1
      clear d0 d1 d2 q16 T8 dv
      generalize w11.drewN m9 = W12 at *
      gi_wp2_with fail
      refine ⟨trivial, (callsIn_wide.2 (q7.out _)).mono ?_⟩
      rintro e w13 ⟨rfl, hb⟩
      have T10 := Aside0.mk (T9.out.below hb)
      clear hb y0 y1 y2 y3
      gi_wp2
      refine ⟨by simp, .inl ⟨_, _, rfl, run_takeDeferred T10.out.dK, ?_⟩⟩
      exact ⟨_, results_tmp rfl _ _ _, rfl, T10.out.end_ hDD⟩
    · have z1 : decide (0 ≤ kk) = false := decide_eq_false h0
      generalize hLL : Ls n = LL at *
      gi_wp2_with fail
      refine ⟨trivial, (callsIn_wide.2 (q8.out _)).mono ?_⟩
      rintro e w6 ⟨rfl, hb⟩
      have T1 := Aside0.mk (T0.out.below hb)
      clear hb d0 d1 d2 q8
      obtain ⟨d0, d1, d2⟩ := T1.out.cells
      clear T0
      have x11 := Aside0.mk (blk_new w6 (.cells #[.int .i64 va, .bool vb] 24))
      have T2 := Aside0.mk (T1.out.alloc (.cells #[.int .i64 va, .bool vb] 24))
      clear d0 d1 d2
      obtain ⟨d0, d1, d2⟩ := T2.out.cells
      clear T1
      gi_wp2_with fail
      refine ⟨trivial, (callsIn_wide.2 (q13.out _)).mono ?_⟩
      rintro e w7 ⟨rfl, hb⟩
      have T3 := Aside0.mk (T2.out.below hb)
      replace x11 := Aside0.mk (blk_below x11.out hb)
      clear hb d0 d1 d2 q13
      obtain ⟨d0, d1, d2⟩ := T3.out.cells
      clear T2
      have x13 := Aside0.mk (blk_new w7 (.cells #[.int .i64 va, .bool vb] 24))
      have T4 := Aside0.mk (T3.out.alloc (.cells #[.int .i64 va, .bool vb] 24))
      replace x11 := Aside0.mk (blk_alloc x11.out (.cells #[.int .i64 va, .bool vb] 24))
      clear d0 d1 d2
      obtain ⟨d0, d1, d2⟩ := T4.out.cells
      clear T3
      gi_wp2_with fail
      refine ⟨trivial, (callsIn_wide.2 (q9.out _)).mono ?_⟩
      rintro e w8 ⟨rfl, hb⟩
      have T5 := Aside0.mk (T4.out.below hb)
      replace x11 := Aside0.mk (blk_below x11.out hb)
      replace x13 := Aside0.mk (blk_below x13.out hb)
      clear hb d0 d1 d2 q9
      obtain ⟨d0, d1, d2⟩ := T5.out.cells
      clear T4
      gi_wp2_with fail
      refine ⟨trivial, (callsIn_wide.2 (q14.out _)).mono ?_⟩
      rintro e w9 ⟨rfl, hb⟩
      have T6 := Aside0.mk (T5.out.below hb)
      replace x11 := Aside0.mk (blk_below x11.out hb)
      replace x13 := Aside0.mk (blk_below x13.out hb)
      clear hb d0 d1 d2 q14
      obtain ⟨d0, d1, d2⟩ := T6.out.cells
      clear T5
      gi_wp2_with fail
      refine ⟨trivial, (callsIn_wide.2 (q10.out _)).mono ?_⟩
      rintro e w10 ⟨rfl, hb⟩
      have T7 := Aside0.mk (T6.out.below hb)
      replace x11 := Aside0.mk (blk_below x11.out hb)
      replace x13 := Aside0.mk (blk_below x13.out hb)
      clear hb d0 d1 d2 q10
      obtain ⟨d0, d1, d2⟩ := T7.out.cells
      clear T6
      gi_wp2_with fail
      refine ⟨trivial, (callsIn_wide.2 (q15.out _)).mono ?_⟩
      rintro e w11 ⟨rfl, hb⟩
      have T8 := Aside0.mk (T7.out.below hb)
      replace x11 := Aside0.mk (blk_below x11.out hb)
      replace x13 := Aside0.mk (blk_below x13.out hb)
      clear hb d0 d1 d2 q15
      obtain ⟨d0, d1, d2⟩ := T8.out.cells
      clear T7
      obtain ⟨vv, bvv, hRv⟩ := T8.out.got
      have dv := Boxed.cell bvv
      obtain ⟨A0, c0, rfl⟩ := Kd.R_slice hRv
      have hr0 := Kd.R_reads' hRv
      have hr1 := Kd.R_reads' T8.out.want
      have q16 := Lib.hid (decklebook_SameSteps.calls (LL.length + 1) A0 c0 LL A9 c9 LL true w11 hr0.2.2 hr0.2.1 hr1.2.2 hr1.2.1 (same_ok LL (by have := hL9.out; omega)))
      clear hr0 hr1 hRv bvv
      gi_wp2_with fail
      refine ⟨trivial, (callsIn_wide.2 q16.out).mono ?_⟩
      rintro e w12 ⟨rfl, ⟨⟨m9, rfl⟩⟩⟩
      have T9 := Aside0.mk (T8.out.below (W' := w11.drewN m9) ⟨rfl, rfl, rfl, Nat.le_refl _, fun _ _ => rfl⟩)
      have y0 : (w11.drewN m9).cell? ⟨w6.heap.size, 0, none⟩ = some (.int .i64 va) := blk_cell x11.out 0
      have y1 : (w11.drewN m9).cell? ⟨w6.heap.size, 1, none⟩ = some (.bool vb) := blk_cell x11.out 1
      have y2 : (w11.drewN m9).cell? ⟨w7.heap.size, 0, none⟩ = some (.int .i64 va) := blk_cell x13.out 0
      have y3 : (w11.drewN m9).cell? ⟨w7.heap.size, 1, none⟩ = some (.bool vb) := blk_cell x13.out 1
      clear d0 d1 d2 q16 T8 dv
      generalize w11.drewN m9 = W12 at *
      gi_wp2_with fail
      refine ⟨trivial, (callsIn_wide.2 (q7.out _)).mono ?_⟩
      rintro e w13 ⟨rfl, hb⟩
      have T10 := Aside0.mk (T9.out.below hb)
      clear hb y0 y1 y2 y3
      gi_wp2
      refine ⟨by simp, .inl ⟨_, _, rfl, run_takeDeferred T10.out.dK, ?_⟩⟩
      exact ⟨_, results_tmp rfl _ _ _, rfl, T10.out.end_ hDD⟩
  case stop =>
    rintro D c pre1 W hD hpre ⟨⟨rfl, pre, x, rfl, rfl, hS⟩, hC⟩ hK
    have hlt : pre.length < (Ls n).length := by have := hpre.length_le; rw [List.length_append, List.length_singleton] at this; omega
    have hpp : (Ls n).take pre.length = pre := by
      obtain ⟨t, ht⟩ := hpre
      rw [← ht, List.append_assoc, List.take_left']
      rfl
    have hR8 := Kd.R_take hR9' (Nat.le_of_lt hlt)
    rw [hpp] at hR8
    have T0 := Aside0.mk (TT.of (s0 := s0) (s1 := s1) hC hB5 (by omega) c4 c5 hS hR8 hK)
    obtain ⟨d0, d1, d2⟩ := T0.out.cells
    have hDD : w.heap.size ≤ D := by omega
    have hcap := (Kd.R_reads' hR9').2.1
    clear hS hC hK c4 c5 c6 c8 hR9' hR8 hpre hpp
    have z1 : decide (0 ≤ (pre.length : Int)) = true := decide_eq_true (by omega)
    have z2 : decide ((pre.length : Int) < ((Ls n).length : Int)) = true := decide_eq_true (by omega)
    skip
    gi_wp2_with fail
    refine ⟨trivial, (callsIn_wide.2 (q8.out _)).mono ?_⟩
    rintro e w6 ⟨rfl, hb⟩
    have T1 := Aside0.mk (T0.out.below hb)
    clear hb d0 d1 d2 q8
    obtain ⟨d0, d1, d2⟩ := T1.out.cells
    clear T0
    have x11 := Aside0.mk (blk_new w6 (.cells #[.int .i64 va, .bool vb] 24))
    have T2 := Aside0.mk (T1.out.alloc (.cells #[.int .i64 va, .bool vb] 24))
    clear d0 d1 d2
    obtain ⟨d0, d1, d2⟩ := T2.out.cells
    clear T1
    gi_wp2_with fail
    refine ⟨trivial, (callsIn_wide.2 (q13.out _)).mono ?_⟩
    rintro e w7 ⟨rfl, hb⟩
    have T3 := Aside0.mk (T2.out.below hb)
    replace x11 := Aside0.mk (blk_below x11.out hb)
    clear hb d0 d1 d2 q13
    obtain ⟨d0, d1, d2⟩ := T3.out.cells
    clear T2
    have x13 := Aside0.mk (blk_new w7 (.cells #[.int .i64 va, .bool vb] 24))
    have T4 := Aside0.mk (T3.out.alloc (.cells #[.int .i64 va, .bool vb] 24))
    replace x11 := Aside0.mk (blk_alloc x11.out (.cells #[.int .i64 va, .bool vb] 24))
    clear d0 d1 d2
    obtain ⟨d0, d1, d2⟩ := T4.out.cells
    clear T3
    gi_wp2_with fail
    refine ⟨trivial, (callsIn_wide.2 (q9.out _)).mono ?_⟩
    rintro e w8 ⟨rfl, hb⟩
    have T5 := Aside0.mk (T4.out.below hb)
    replace x11 := Aside0.mk (blk_below x11.out hb)
    replace x13 := Aside0.mk (blk_below x13.out hb)
    clear hb d0 d1 d2 q9
    obtain ⟨d0, d1, d2⟩ := T5.out.cells
    clear T4
    gi_wp2_with fail
    refine ⟨trivial, (callsIn_wide.2 (q14.out _)).mono ?_⟩
    rintro e w9 ⟨rfl, hb⟩
    have T6 := Aside0.mk (T5.out.below hb)
    replace x11 := Aside0.mk (blk_below x11.out hb)
    replace x13 := Aside0.mk (blk_below x13.out hb)
    clear hb d0 d1 d2 q14
    obtain ⟨d0, d1, d2⟩ := T6.out.cells
    clear T5
    gi_wp2_with fail
    refine ⟨trivial, (callsIn_wide.2 (q10.out _)).mono ?_⟩
    rintro e w10 ⟨rfl, hb⟩
    have T7 := Aside0.mk (T6.out.below hb)
    replace x11 := Aside0.mk (blk_below x11.out hb)
    replace x13 := Aside0.mk (blk_below x13.out hb)
    clear hb d0 d1 d2 q10
    obtain ⟨d0, d1, d2⟩ := T7.out.cells
    clear T6
    gi_wp2_with fail
    refine ⟨trivial, (callsIn_wide.2 (q15.out _)).mono ?_⟩
    rintro e w11 ⟨rfl, hb⟩
    have T8 := Aside0.mk (T7.out.below hb)
    replace x11 := Aside0.mk (blk_below x11.out hb)
    replace x13 := Aside0.mk (blk_below x13.out hb)
    clear hb d0 d1 d2 q15
    obtain ⟨d0, d1, d2⟩ := T8.out.cells
    clear T7
    obtain ⟨vv, bvv, hRv⟩ := T8.out.got
    have dv := Boxed.cell bvv
    obtain ⟨A0, c0, rfl⟩ := Kd.R_slice hRv
    have hr0 := Kd.R_reads' hRv
    have hr1 := Kd.R_reads' T8.out.want
    have q16 := Lib.hid (decklebook_SameSteps.calls (pre.length + 1) A0 c0 pre A9 c9 pre true w11 hr0.2.2 hr0.2.1 hr1.2.2 hr1.2.1 (same_ok pre (by have := hL9.out; omega)))
    clear hr0 hr1 hRv bvv
    gi_wp2_with fail
    refine ⟨trivial, (callsIn_wide.2 q16.out).mono ?_⟩
    rintro e w12 ⟨rfl, ⟨⟨m9, rfl⟩⟩⟩
    have T9 := Aside0.mk (T8.out.below (W' := w11.drewN m9) ⟨rfl, rfl, rfl, Nat.le_refl _, fun _ _ => rfl⟩)
    have y0 : (w11.drewN m9).cell? ⟨w6.heap.size, 0, none⟩ = some (.int .i64 va) := blk_cell x11.out 0
    have y1 : (w11.drewN m9).cell? ⟨w6.heap.size, 1, none⟩ = some (.bool vb) := blk_cell x11.out 1
    have y2 : (w11.drewN m9).cell? ⟨w7.heap.size, 0, none⟩ = some (.int .i64 va) := blk_cell x13.out 0
    have y3 : (w11.drewN m9).cell? ⟨w7.heap.size, 1, none⟩ = some (.bool vb) := blk_cell x13.out 1
    clear d0 d1 d2 q16 T8 dv
    generalize w11.drewN m9 = W12 at *
    gi_wp2_with fail
    refine ⟨trivial, (callsIn_wide.2 (q7.out _)).mono ?_⟩
    rintro e w13 ⟨rfl, hb⟩
    have T10 := Aside0.mk (T9.out.below hb)
    clear hb y0 y1 y2 y3
    gi_wp2
    refine ⟨by simp, .inl ⟨_, _, rfl, run_takeDeferred T10.out.dK, ?_⟩⟩
    exact ⟨_, results_tmp rfl _ _ _, rfl, T10.out.end_ hDD⟩
theorem orderSteps_walk (a0 a1 a2_0 : Int) (a2_1 : Bool) (W : World) (w0 : (Lit.int .i64 a0).wf = true) (w1 : (Lit.int .i64 a1).wf = true) (w2 : (Lit.int .i64 a2_0).wf = true) :
    Calls Try.prog 6 #[.int .i64 a0, .int .i64 a1, .agg #[.int .i64 a2_0, .bool a2_1]] W fun e w' => e = .returned (.bool true) ∧ Below W.heap.size W w' :=
  steps_core a0 a1 a2_0 a2_1 W
end Go.Proofs.Yteoleeanmhmdfaa.PS
