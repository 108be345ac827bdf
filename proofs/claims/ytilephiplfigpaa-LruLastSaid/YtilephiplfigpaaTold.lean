/- told, walked. -/
import Derived.RangeFuncNested
import Derived.RangeFuncBound
import Derived.RangeFuncCalls
import Derived.RangeFuncLeaves
import Derived.RangeFuncBox
import Derived.Shelf.Abstract
import Derived.Shelf.RegionOpen
import Derived.WalkKit
import Derived.OwnWalkIn
import Derived.TacticsInMore
import Derived.LoopNIn
import Derived.LoopIn
import Derived.Maps.AppendAt
import Derived.Test.YtilephiplfigpaaAct
namespace Go.Proofs.Ytilephiplfigpaa.PQ
open Go.RowKit Go.Proofs.YtilephiplfigpaaW.PrintWords Go.Proofs.YtilephiplfigpaaW.PrintLast Go.Proofs.YtilephiplfigpaaW.PrintMore Go.Shelf
set_option linter.unusedVariables false
set_option linter.unusedSimpArgs false
attribute [local go_sem] Oper.semAt_some
theorem bne_same (s : ByteArray) : (s != s) = false := by
  unfold bne
  rw [(Go.MapKept.bytes_beq s s).2 rfl]
  rfl
theorem bne_diff {s u : ByteArray} (h : s ≠ u) : (s != u) = true := by
  unfold bne
  cases hb : (s == u) with
  | false => rfl
  | true => exact absurd ((Go.MapKept.bytes_beq s u).1 hb) h
theorem bytes_ne {x y : ByteArray} (h : x ≠ y) : (x.toList == y.toList) = false := by
  rw [beq_eq_false_iff_ne]
  intro h2
  apply h
  rw [ByteArray.toList_eq, ByteArray.toList_eq] at h2
  exact ByteArray.ext (Array.toList_inj.mp h2)
theorem run_equalIn_fn_nil (w : World) (d : Nat) (t : TypeId) (f : Fn) (r g : Array Value) (pr rs : Array TypeId) (vd : Bool) (h : Try.prog.underlying t = some (.func pr rs vd)) : (Op.equalIn (d + 1) t (.func f r g) .nilFunc).run Try.prog w = .ok false w := by
  simp [Op.equalIn, run_underlying h]
theorem run_fn_nil (w : World) (t : TypeId) (f : Fn) (r g : Array Value) (pr rs : Array TypeId) (vd : Bool) (h : Try.prog.underlying t = some (.func pr rs vd)) : (binOp .eql t (.func f r g) .nilFunc).run Try.prog w = .ok (.bool false) w := by
  simp only [binOp]
  simp [Op.equal, Op.maxDepth, run_equalIn_fn_nil w 9999 t f r g pr rs vd h]
theorem results_box {fn : Func} {p : Tmp} {ty : TypeId} (h : fn.results = #[.cell p ty]) (tmps : Array Value) (w : World) (g : Nat) (b : Bool) (hp : tmps.getD p undef = .pointer (some ⟨g, 0, none⟩)) (ha : ∀ w, (isAgg ty).run Try.prog w = .ok false w) (hc : w.cell? ⟨g, 0, none⟩ = some (.bool b)) :
    (results fn tmps).run Try.prog w = .ok (.bool b) w := by
  have hp' : tmps[p]?.getD undef = .pointer (some ⟨g, 0, none⟩) := by simpa using hp
  simp only [results, h]
  simp [Sem.run_bind, Result.andThen, hp', asAddr]
  go_simp
theorem told_end (w W : World) (D : Nat) (tmps : Array Value) (hB : Below w.heap.size w W) (h6 : W.heap[w.heap.size + 1 + 1]? = some (.cells #[.bool false] 4 (0, 0))) (hK : W.heap[D]? = some (.deferred (some []))) (hD : w.heap.size + 3 ≤ D) (ht : tmps.getD 6 undef = .pointer (some ⟨w.heap.size + 1 + 1, 0, none⟩)) :
    bodyPostM Fence.wide 7 Try.prog Try.f26 (fun e w' => e = .returned (.bool true) ∧ Below w.heap.size w w') .ret { tmps := tmps, defers := [{ target := .collected D, args := #[] }] } (W.setCell ⟨w.heap.size + 1 + 1, 0, none⟩ (.bool true)) := by
  have hK1 : (W.setCell ⟨w.heap.size + 1 + 1, 0, none⟩ (.bool true)).heap[D]? = some (.deferred (some [])) := (Below.heap_setCell _ _ _ D (by dsimp only; omega)).trans hK
  have h61 := Boxed.set (.bool true) h6
  have hB1 : Below w.heap.size w (W.setCell ⟨w.heap.size + 1 + 1, 0, none⟩ (.bool true)) := hB.setCell (p := ⟨w.heap.size + 1 + 1, 0, none⟩) (by dsimp only; omega) _
  generalize W.setCell ⟨w.heap.size + 1 + 1, 0, none⟩ (.bool true) = W1 at *
  have h62 : (W1.putObj D (.deferred none)).heap[w.heap.size + 1 + 1]? = some (.cells #[.bool true] 4 (0, 0)) := ((grownBy_putObj' W1 D (.deferred none)).block _ (blk_lt h61) (fun e => by cases e; omega)).trans h61
  have hBD : Below w.heap.size W1 (W1.putObj D (.deferred none)) := belowK_b (w := w) (Nat.le_refl _) W1 D _ _ (by omega) hK1 rfl rfl
  refine ⟨by simp, .inl ⟨_, _, rfl, run_takeDeferred hK1, ?_⟩⟩
  exact ⟨_, results_box rfl _ _ _ true ht (fun _ => by rfl) (blk_cell h62 0), rfl, hB1.trans hBD⟩
theorem not_prefix {L pre : List S61} {x : S61} (hlt : pre.length < L.length) (hx : ¬ rd_T61 L (pre.length : Int) = x) : ¬ pre ++ [x] <+: L := by
  rintro ⟨t, ht⟩
  apply hx
  rw [← ht]
  unfold rd_T61
  rw [Int.toNat_natCast, List.append_assoc, List.getD_eq_getElem?_getD, List.getElem?_append_right (Nat.le_refl _), Nat.sub_self]
  rfl
/-- Where the loop was left. -/
def Left (L : List S61) (Y : Nat) (most : Int) (w5 : World) (c : Code) (pre1 : List S61) (W : World) : Prop :=
  (c = .exit 0 ∧ ∃ (pre : List S61) (x : S61), pre1 = pre ++ [x] ∧ most = (pre.length : Int) ∧ Boxed W Y 3 (.int .i64 (pre.length : Int)) ∧ Ch (fun k => k = Y) w5 W) ∨ (c = .ret ∧ ¬ pre1 <+: L)
theorem Left.own (L : List S61) (Y : Nat) (most : Int) (w5 : World) (c : Code) (B : Nat) (hB : w5.heap.size ≤ B) : OwnFrom B (Left L Y most w5 c) := by
  rintro s W W' row (⟨hc, pre, x, e, hk, h, hC⟩ | ⟨hc, h⟩) hg hr
  · exact .inl ⟨hc, pre, x, e, hk, h.kept hg (not_cells hr h), ch_own (β := Unit) _ w5 B hB () W W' row hC hg hr⟩
  · exact .inr ⟨hc, h⟩
theorem iter_stops' (b0 : Nat) (room hits misses : Int) (LE : List EL) (L : List S61) (P M : Nat) (D : DataW Value) (X : Nat) (w : World) (he : absL LE = L) (hl : LE.length = L.length) (hX : Boxed w X 25 (.pointer (some ⟨P, 0, none⟩))) (H : LAt b0 room hits misses LE P M D w) :
    SeqStopsK Fence.wide 6 Try.prog 21 #[.pointer (some ⟨X, 0, none⟩)] encS (Same (TB P M LE X)) (fun ys => ys = L) (fun pre => pre <+: L) L.length w := by
  subst he
  rw [← hl]
  exact iter_stops b0 room hits misses LE P M D X w hX H
set_option maxHeartbeats 8000000 in
set_option maxRecDepth 100000 in
theorem told_calls (b0 : Nat) (room hits misses : Int) (LE : List EL) (L : List S61) (P M : Nat) (D : DataW Value) (A0 : Option Addr) (c0 : Nat) (most : Int) (w : World) (hE : Aside0 (absL LE = L)) (hlE : LE.length = L.length) (hL : L.length ≤ 100000) (H : Aside0 (LAt b0 room hits misses LE P M D w)) (hd : Aside0 (Kd.C k61 w A0 L.length L)) (hc0 : L.length ≤ c0) :
    Calls Try.prog 26 #[.pointer (some ⟨P, 0, none⟩), .slice A0 L.length c0, .int .i64 most] w fun e w' => e = .returned (.bool true) ∧ Below w.heap.size w w' := by
  replace hlE := Lib.hid hlE
  refine (callsIn_wide (n := 7)).1 (callsIn_of_wp_marks Try.func26 rfl trivial ?_ rfl)
  simp only [Try.ntmps26, List.size_toArray, List.length_cons, List.length_nil, Nat.reduceAdd, Nat.reduceSub, Array.replicate_succ, Array.replicate_zero, List.push_toArray, List.append_toArray, List.nil_append, List.cons_append]
  have hall := Lib.hid fun w => all_calls P w
  have q34 : ∀ (w : World) (f : Fn) (r g : Array Value), (binOp .eql 40 (.func f r g) .nilFunc).run Try.prog w = .ok (.bool false) w := fun w f r g => run_fn_nil w 40 f r g #[55] #[] false (by kernel_rfl)
  gi_wp2_with fail
  refine ⟨trivial, (callsIn_wide.2 (hall.out _)).mono ?_⟩
  rintro e w3 ⟨rfl, rfl⟩
  clear hall
  gi_wp2_with fail
  have hB5 : Below w.heap.size w (((((w.alloc (.cells #[.slice A0 L.length c0] 56)).alloc (.cells #[.int .i64 most] 3)).alloc (.cells #[.bool false] 4)).alloc (.cells #[.pointer (some ⟨P, 0, none⟩)] 25)).alloc (.cells #[.int .i64 0] 3)) := (((((Below.refl _ w).alloc (Nat.le_refl _) _).alloc (by simp) _).alloc (by simp; omega) _).alloc (by simp; omega) _).alloc (by simp; omega) _
  have b4 := ((((Boxed.new w 56 (.slice A0 L.length c0)).alloc (.cells #[.int .i64 most] 3)).alloc (.cells #[.bool false] 4)).alloc (.cells #[.pointer (some ⟨P, 0, none⟩)] 25)).alloc (.cells #[.int .i64 0] 3)
  have b5 := (((Boxed.new (w.alloc (.cells #[.slice A0 L.length c0] 56)) 3 (.int .i64 most)).alloc (.cells #[.bool false] 4)).alloc (.cells #[.pointer (some ⟨P, 0, none⟩)] 25)).alloc (.cells #[.int .i64 0] 3)
  have b6 := ((Boxed.new ((w.alloc (.cells #[.slice A0 L.length c0] 56)).alloc (.cells #[.int .i64 most] 3)) 4 (.bool false)).alloc (.cells #[.pointer (some ⟨P, 0, none⟩)] 25)).alloc (.cells #[.int .i64 0] 3)
  have bX := (Boxed.new (((w.alloc (.cells #[.slice A0 L.length c0] 56)).alloc (.cells #[.int .i64 most] 3)).alloc (.cells #[.bool false] 4)) 25 (.pointer (some ⟨P, 0, none⟩))).alloc (.cells #[.int .i64 0] 3)
  have b8 := Boxed.new ((((w.alloc (.cells #[.slice A0 L.length c0] 56)).alloc (.cells #[.int .i64 most] 3)).alloc (.cells #[.bool false] 4)).alloc (.cells #[.pointer (some ⟨P, 0, none⟩)] 25)) 3 (.int .i64 0)
  have hs5 : (((((w.alloc (.cells #[.slice A0 L.length c0] 56)).alloc (.cells #[.int .i64 most] 3)).alloc (.cells #[.bool false] 4)).alloc (.cells #[.pointer (some ⟨P, 0, none⟩)] 25)).alloc (.cells #[.int .i64 0] 3)).heap.size = w.heap.size + 1 + 1 + 1 + 1 + 1 := by simp
  simp only [World.size_alloc] at b5 b6 bX b8
  generalize ((((w.alloc (.cells #[.slice A0 L.length c0] 56)).alloc (.cells #[.int .i64 most] 3)).alloc (.cells #[.bool false] 4)).alloc (.cells #[.pointer (some ⟨P, 0, none⟩)] 25)).alloc (.cells #[.int .i64 0] 3) = w5 at *
  have H5 := Aside0.mk (H.out.below hB5)
  have hd5 := Aside0.mk (Kd.C_below hd.out hB5)
  have hTB : ∀ k, TB P M LE (w.heap.size + 1 + 1 + 1) k → k < w.heap.size + 4 := fun k h => h.elim (fun h => by have := H.out.lt k h; omega) (fun e => by omega)
  replace b4 := Aside0.mk b4
  replace b5 := Aside0.mk b5
  replace b6 := Aside0.mk b6
  replace bX := Aside0.mk bX
  replace b8 := Aside0.mk b8
  replace hs5 := Lib.hid hs5
  replace hB5 := Aside0.mk hB5
  refine wpIn_rangeFunc_ownH rfl (by decide) (gf := 21) (lb := #[.pointer (some ⟨w.heap.size + 1 + 1 + 1, 0, none⟩)]) rfl trivial (enters_of Try.func21 (by kernel_rfl) rfl)
    (iter_stops' b0 room hits misses LE L P M D (w.heap.size + 1 + 1 + 1) w5 hE.out hlE.out bX.out H5.out) same_t (same_b (fun k h => by have := hTB k h; have := hs5.out; omega)) (Below.refl _ _) (fun _ => rfl)
    (fun pre W => (Boxed W (w.heap.size + 1 + 1 + 1 + 1) 3 (.int .i64 (pre.length : Int)) ∧ Ch (fun k => k = w.heap.size + 1 + 1 + 1 + 1) w5 W) ∧ (0 ≤ most → (pre.length : Int) ≤ most))
    (Left L (w.heap.size + 1 + 1 + 1 + 1) most w5)
    (OwnFrom.and (OwnFrom.and (box_own _ _ _ (fun pre : List S61 => .int .i64 (pre.length : Int))) (ch_own _ _ _ (Nat.le_refl _))) (ownFrom_pure _ _))
    (fun c => Left.own L _ most w5 c _ (Nat.le_refl _))
    ⟨⟨b8.out, Ch.refl _ _⟩, fun h => h⟩
    (fun x a' W => a' = { tmps := #[.pointer (some ⟨P, 0, none⟩), .slice A0 L.length c0, .int .i64 most, undef, .pointer (some ⟨w.heap.size, 0, none⟩), .pointer (some ⟨w.heap.size + 1, 0, none⟩), .pointer (some ⟨w.heap.size + 1 + 1, 0, none⟩), .func (.func 21) #[] #[.pointer (some ⟨w.heap.size + 1 + 1 + 1, 0, none⟩)], .pointer (some ⟨w.heap.size + 1 + 1 + 1 + 1, 0, none⟩), .int .i64 x.f0, .string x.f1, .pointer (some ⟨P, 0, none⟩), .func (.func 21) #[] #[.pointer (some ⟨w.heap.size + 1 + 1 + 1, 0, none⟩)], .func (.func 21) #[] #[.pointer (some ⟨w.heap.size + 1 + 1 + 1, 0, none⟩)], .bool false, .func (.func 21) #[] #[.pointer (some ⟨w.heap.size + 1 + 1 + 1, 0, none⟩)], .int .i64 x.f0, .string x.f1, undef, undef, undef, undef, undef, undef, undef, undef, undef, undef, undef, undef, undef, undef, undef, undef, undef, undef, undef, undef, undef, undef, undef, undef, undef, undef, undef, undef, undef, undef, undef, undef, undef, undef, undef, undef], defers := [] })
    (fun x a' _ W W' row hs hg hr => hs)
    ?assign ?body ?done ?stop
  case assign =>
    rintro l pre x W K ⟨⟨hS, hC⟩, hk⟩ hK
    unfold encS
    gi_wp2
    exact hK _ _ (KeepsFrom.refl _ _) (fun _ _ => rfl) ⟨⟨hS, hC⟩, hk⟩ rfl
  case body =>
    rintro l pre x a' W hl ⟨r, hr⟩ ⟨⟨bv, hC⟩, hk⟩ rfl hlt2
    have g4 : W.cell? ⟨w.heap.size, 0, none⟩ = some (.slice A0 L.length c0) := Boxed.cell ((hC.block _ (blk_lt b4.out) (by omega)).trans b4.out)
    have g5 : W.cell? ⟨w.heap.size + 1, 0, none⟩ = some (.int .i64 most) := Boxed.cell ((hC.block _ (blk_lt b5.out) (by omega)).trans b5.out)
    have g6b := (hC.block _ (blk_lt b6.out) (by omega)).trans b6.out
    have g6 : W.cell? ⟨w.heap.size + 1 + 1, 0, none⟩ = some (.bool false) := Boxed.cell g6b
    have f6 := Boxed.frozen g6b
    have g8 := Boxed.cell bv
    have f8 := Boxed.frozen bv
    have hBel : Below w.heap.size w W := hB5.out.trans (hC.below (by have := hs5.out; omega) (fun k e => by omega))
    obtain ⟨ad, rfl, y0, y1⟩ := at_T61 (Kd.C_below hd.out hBel) (pre.length : Int) (by omega) (by omega)
    rw [Int.toNat_natCast] at y0 y1
    replace bv := Aside0.mk bv
    replace hC := Aside0.mk hC
    replace hBel := Aside0.mk hBel
    replace hk := Lib.hid hk
    replace g6b := Aside0.mk g6b
    by_cases hkk : (pre.length : Int) = most
    · have z : ((pre.length : Int) == most) = true := beq_iff_eq.2 hkk
      replace hkk := Lib.hid hkk
      gi_wp2
      exact ⟨KeepsFrom.refl _ _, .inl ⟨rfl, pre, x, rfl, hkk.out.symm, bv.out, hC.out⟩⟩
    · have z : ((pre.length : Int) == most) = false := beq_eq_false_iff_ne.2 hkk
      have z2 : decide (L.length ≤ pre.length) = false := decide_eq_false (by omega)
      have z3 : ¬ L.length ≤ pre.length := by omega
      have zi : decide ((pre.length : Int) < (L.length : Int)) = true := decide_eq_true (by omega)
      have zi0 : decide ((0 : Int) ≤ (pre.length : Int)) = true := decide_eq_true (by omega)
      replace hkk := Lib.hid hkk
      have hnp := Lib.hid (not_prefix (x := x) hlt2)
      generalize hy : rd_T61 L (pre.length : Int) = y at *
      obtain ⟨x0', x1'⟩ := x
      obtain ⟨y0', y1'⟩ := y
      replace hy := Lib.hid hy
      dsimp only at *
      by_cases he : y0' = x0' ∧ y1' = x1'
      · obtain ⟨rfl, rfl⟩ := he
        have e1 : (y0' != y0') = false := by simp
        have e2 : (y1' != y1') = false := bne_same _
        have hw1 : wrap64 ((pre.length : Int) + 1) = ((pre.length + 1 : Nat) : Int) := by rw [Go.IntWalk.wrap64_in _ ⟨by omega, by omega⟩]; omega
        gi_wp2
        refine ⟨(KeepsOthers.setCell _ _ _).from _, Same.set _ (fun h => by have := hTB _ h; omega), ⟨?_, hC.out.grown (grownBy_setCell' W _ _) (fun j ej => .inl (by cases ej; rfl))⟩, ?_⟩
        · rw [List.length_append, List.length_singleton]
          exact bv.out.set _
        · intro h
          have := hk.out h
          have := hkk.out
          rw [List.length_append, List.length_singleton]
          omega
      · have hno : ¬ (⟨y0', y1'⟩ : S61) = ⟨x0', x1'⟩ := fun h => he (by injection h with h1 h2; exact ⟨h1, h2⟩)
        have F := Aside0.mk (hnp.out hno)
        by_cases h0 : x0' = y0'
        · have e1 : (x0' != y0') = false := by simp [h0]
          have h1 : ¬ x1' = y1' := fun h => he ⟨h0.symm, h.symm⟩
          have e2 : (x1'.toList == y1'.toList) = false := bytes_ne h1
          clear he hno h0 h1
          gi_wp2
          exact ⟨(KeepsOthers.setCell _ _ _).from _, .inr ⟨rfl, F.out⟩⟩
        · have e1 : (x0' != y0') = true := by simpa using h0
          clear he hno h0
          gi_wp2
          exact ⟨(KeepsOthers.setCell _ _ _).from _, .inr ⟨rfl, F.out⟩⟩
  case done =>
    rintro D xs W hD rfl ⟨⟨bv, hC⟩, hk⟩ hK
    have g4 : W.cell? ⟨w.heap.size, 0, none⟩ = some (.slice A0 xs.length c0) := Boxed.cell ((hC.block _ (blk_lt b4.out) (by omega)).trans b4.out)
    have g5 : W.cell? ⟨w.heap.size + 1, 0, none⟩ = some (.int .i64 most) := Boxed.cell ((hC.block _ (blk_lt b5.out) (by omega)).trans b5.out)
    have g6b := (hC.block _ (blk_lt b6.out) (by omega)).trans b6.out
    have g6 : W.cell? ⟨w.heap.size + 1 + 1, 0, none⟩ = some (.bool false) := Boxed.cell g6b
    have f6 := Boxed.frozen g6b
    have g8 := Boxed.cell bv
    have hBW := Aside0.mk (hB5.out.trans (hC.below (by have := hs5.out; omega) (fun k e => by omega) : Below w.heap.size w5 W))
    have z : ((xs.length : Int) == (xs.length : Int)) = true := beq_self_eq_true _
    have hK' := Lib.hid hK
    have hDs := Lib.hid hD
    replace g6b := Aside0.mk g6b
    clear bv hC hK hD hk
    gi_wp2
    exact told_end w W D _ hBW.out g6b.out hK'.out (by have := hs5.out; have := hDs.out; omega) rfl
  case stop =>
    rintro D c pre1 W hD hpre (⟨rfl, pre, x, rfl, rfl, bv, hC⟩ | ⟨_, h⟩) hK
    · have g4 : W.cell? ⟨w.heap.size, 0, none⟩ = some (.slice A0 L.length c0) := Boxed.cell ((hC.block _ (blk_lt b4.out) (by omega)).trans b4.out)
      have g5 : W.cell? ⟨w.heap.size + 1, 0, none⟩ = some (.int .i64 (pre.length : Int)) := Boxed.cell ((hC.block _ (blk_lt b5.out) (by omega)).trans b5.out)
      have g6b := (hC.block _ (blk_lt b6.out) (by omega)).trans b6.out
      have g6 : W.cell? ⟨w.heap.size + 1 + 1, 0, none⟩ = some (.bool false) := Boxed.cell g6b
      have f6 := Boxed.frozen g6b
      have g8 := Boxed.cell bv
      have hBW := Aside0.mk (hB5.out.trans (hC.below (by have := hs5.out; omega) (fun k e => by omega) : Below w.heap.size w5 W))
      have hlt : pre.length < L.length := by have := hpre.length_le; rw [List.length_append, List.length_singleton] at this; omega
      have z : ((pre.length : Int) == (L.length : Int)) = false := beq_eq_false_iff_ne.2 (by omega)
      have z2 : ((pre.length : Int) == (pre.length : Int)) = true := beq_self_eq_true _
      have hK' := Lib.hid hK
      have hDs := Lib.hid hD
      replace g6b := Aside0.mk g6b
      clear bv hC hK hD hpre
      gi_wp2
      exact told_end w W D _ hBW.out g6b.out hK'.out (by have := hs5.out; have := hDs.out; omega) rfl
    · exact absurd hpre h
end Go.Proofs.Ytilephiplfigpaa.PQ
