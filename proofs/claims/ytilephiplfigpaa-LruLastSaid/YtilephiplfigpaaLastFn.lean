/- last, walked. -/
import Derived.RangeFuncNested
import Derived.RangeFuncBound
import Derived.RangeFuncCalls
import Derived.RangeFuncLeaves
import Derived.RangeFuncBox
import Derived.Shelf.Abstract
import Derived.Shelf.RegionOpen
import Derived.WalkKit
import Derived.OwnWalkIn
import Derived.TacticsInMore
import Derived.LoopNIn
import Derived.LoopIn
import Derived.Maps.AppendAt
import Derived.Test.YtilephiplfigpaaLastPure
import Derived.Test.YtilephiplfigpaaAppendIn
import Derived.Sort.CutIn
namespace Go.Proofs.Ytilephiplfigpaa.PQ
open Go.RowKit Go.Proofs.YtilephiplfigpaaW.PrintWords Go.Proofs.YtilephiplfigpaaW.PrintLast Go.Proofs.YtilephiplfigpaaW.PrintMore Go.Shelf
set_option linter.unusedVariables false
set_option linter.unusedSimpArgs false
attribute [local go_sem] Oper.semAt_some
theorem not_pre {L pre : List S61} {x : S61} {p : S61 → Prop} (hp : ∀ y ∈ L, p y) (hx : ¬ p x) : ¬ pre ++ [x] <+: L := by
  rintro ⟨t, ht⟩
  exact hx (hp x (by rw [← ht]; simp))
theorem lastP_down {l : List S30} {b : Int} {j : Nat} (hj : j < l.length) : lastP (l.take (j + 1)) b = if (l[j]).f0 = 0 ∧ bOf l[j] = b then some (l[j]).f2 else lastP (l.take j) b := by
  rw [List.take_succ_eq_append_getElem hj, lastP_snoc]
  rfl
theorem last_end (w W : World) (D : Nat) (tmps : Array Value) (hB : Below w.heap.size w W) (h6 : W.heap[w.heap.size + 1]? = some (.cells #[.bool false] 4 (0, 0))) (hK : W.heap[D]? = some (.deferred (some []))) (hD : w.heap.size + 2 ≤ D) (ht : tmps.getD 6 undef = .pointer (some ⟨w.heap.size + 1, 0, none⟩)) :
    bodyPostM Fence.wide 7 Try.prog Try.f13 (fun e w' => e = .returned (.bool true) ∧ Below w.heap.size w w') .ret { tmps := tmps, defers := [{ target := .collected D, args := #[] }] } (W.setCell ⟨w.heap.size + 1, 0, none⟩ (.bool true)) := by
  have hK1 : (W.setCell ⟨w.heap.size + 1, 0, none⟩ (.bool true)).heap[D]? = some (.deferred (some [])) := (Below.heap_setCell _ _ _ D (by dsimp only; omega)).trans hK
  have h61 := Boxed.set (.bool true) h6
  have hB1 : Below w.heap.size w (W.setCell ⟨w.heap.size + 1, 0, none⟩ (.bool true)) := hB.setCell (p := ⟨w.heap.size + 1, 0, none⟩) (by dsimp only; omega) _
  generalize W.setCell ⟨w.heap.size + 1, 0, none⟩ (.bool true) = W1 at *
  have h62 : (W1.putObj D (.deferred none)).heap[w.heap.size + 1]? = some (.cells #[.bool true] 4 (0, 0)) := ((grownBy_putObj' W1 D (.deferred none)).block _ (blk_lt h61) (fun e => by cases e; omega)).trans h61
  have hBD : Below w.heap.size W1 (W1.putObj D (.deferred none)) := belowK_b (w := w) (Nat.le_refl _) W1 D _ _ (by omega) hK1 rfl rfl
  refine ⟨by simp, .inl ⟨_, _, rfl, run_takeDeferred hK1, ?_⟩⟩
  exact ⟨_, results_box rfl _ _ _ true ht (fun _ => by rfl) (blk_cell h62 0), rfl, hB1.trans hBD⟩
attribute [local go_sem] max2_int min2_int
theorem u54 : Try.prog.underlying 54 = some (.map 3 3) := by kernel_rfl
theorem foldU_len (l : List S30) (U : List Int) : (l.foldl stepU U).length ≤ U.length + l.length := by
  induction l generalizing U with
  | nil => simp
  | cons x l ih =>
    rw [List.foldl_cons, List.length_cons]
    have h1 : (stepU U x).length ≤ U.length + 1 := by
      unfold stepU
      split
      · rw [List.length_append, List.length_singleton]; omega
      · omega
    have := ih (stepU U x)
    omega
theorem uOf_len (l : List S30) : (uOf l).length ≤ l.length := by
  have := foldU_len l []
  simpa [uOf] using this
theorem mapU_step {U : List Int} {y1 : Int} {y2 : ByteArray} {y0 : Int} (h0 : y0 = 0) {b : Nat} {D : DataW Value} {w : World} (H : MapZ Try.prog 3 (updZ (fun a => if a ∈ U then some (.int .i64 1) else none) (blw y1 16) (some (.int .i64 1))) (if ((fun a => if a ∈ U then some (Value.int .i64 1) else none) (blw y1 16)).isSome then U.length else U.length + 1) b D w) :
    MapZ Try.prog 3 (fun a => if a ∈ stepU U ⟨y0, y1, y2⟩ then some (.int .i64 1) else none) (stepU U ⟨y0, y1, y2⟩).length b D w := by
  have e : bOf ⟨y0, y1, y2⟩ = blw y1 16 := rfl
  by_cases hm : blw y1 16 ∈ U
  · have h1 : stepU U ⟨y0, y1, y2⟩ = U := by unfold stepU; rw [if_neg (fun h => h.2 (e ▸ hm))]
    rw [h1]
    have e1 : updZ (fun a => if a ∈ U then some (Value.int .i64 1) else none) (blw y1 16) (some (.int .i64 1)) = fun a => if a ∈ U then some (Value.int .i64 1) else none := by
      funext a; unfold updZ; by_cases ha : a = blw y1 16
      · rw [if_pos ha, ha, if_pos hm]
      · rw [if_neg ha]
    have e2 : (if ((fun a => if a ∈ U then some (Value.int .i64 1) else none) (blw y1 16)).isSome then U.length else U.length + 1) = U.length := by simp [hm]
    rw [e1, e2] at H
    exact H
  · have h1 : stepU U ⟨y0, y1, y2⟩ = U ++ [blw y1 16] := by unfold stepU; rw [if_pos ⟨h0, by rw [e]; exact hm⟩, e]
    rw [h1]
    have e1 : updZ (fun a => if a ∈ U then some (Value.int .i64 1) else none) (blw y1 16) (some (.int .i64 1)) = fun a => if a ∈ U ++ [blw y1 16] then some (Value.int .i64 1) else none := by
      funext a; unfold updZ; by_cases ha : a = blw y1 16 <;> simp [ha]
    have e2 : (if ((fun a => if a ∈ U then some (Value.int .i64 1) else none) (blw y1 16)).isSome then U.length else U.length + 1) = (U ++ [blw y1 16]).length := by simp [hm]
    rw [e1, e2] at H
    exact H
set_option maxHeartbeats 8000000 in
set_option maxRecDepth 100000 in
theorem last_calls (b0 : Nat) (room hits misses : Int) (LE : List EL) (d : List S61) (l : List S30) (P M : Nat) (D : DataW Value) (A0 : Option Addr) (c0 : Nat) (w : World) (hE : Aside0 (absL LE = d)) (hlE : LE.length = d.length) (hl : l.length ≤ 100) (hI : Aside0 (InvL room l d)) (hroom : 1 ≤ room ∧ room ≤ 100) (H : Aside0 (LAt b0 room hits misses LE P M D w)) (hd : Aside0 (Kd.C k30 w A0 l.length l)) (hc0 : l.length ≤ c0) :
    Calls Try.prog 13 #[.pointer (some ⟨P, 0, none⟩), .slice A0 l.length c0, .int .i64 room] w fun e w' => e = .returned (.bool true) ∧ Below w.heap.size w w' := by
  replace hlE := Lib.hid hlE
  refine (callsIn_wide (n := 7)).1 (callsIn_of_wp_marks Try.func13 rfl trivial ?_ rfl)
  simp only [Try.ntmps13, List.size_toArray, List.length_cons, List.length_nil, Nat.reduceAdd, Nat.reduceSub, Array.replicate_succ, Array.replicate_zero, List.push_toArray, List.append_toArray, List.nil_append, List.cons_append]
  have hall := Lib.hid fun w => all_calls P w
  gi_wp2_with fail
  refine ⟨trivial, (callsIn_wide.2 (hall.out _)).mono ?_⟩
  rintro e w3 ⟨rfl, rfl⟩
  clear hall
  have hB5 : Below w.heap.size w ((((w.alloc (.cells #[.slice A0 l.length c0] 22)).alloc (.cells #[.bool false] 4)).alloc (.cells #[.int .i64 0] 3)).alloc (.cells #[.pointer (some ⟨P, 0, none⟩)] 25)) := ((((Below.refl _ w).alloc (Nat.le_refl _) _).alloc (by simp) _).alloc (by simp; omega) _).alloc (by simp; omega) _
  have b4 := (((Boxed.new w 22 (.slice A0 l.length c0)).alloc (.cells #[.bool false] 4)).alloc (.cells #[.int .i64 0] 3)).alloc (.cells #[.pointer (some ⟨P, 0, none⟩)] 25)
  have b6 := ((Boxed.new (w.alloc (.cells #[.slice A0 l.length c0] 22)) 4 (.bool false)).alloc (.cells #[.int .i64 0] 3)).alloc (.cells #[.pointer (some ⟨P, 0, none⟩)] 25)
  have b7 := (Boxed.new ((w.alloc (.cells #[.slice A0 l.length c0] 22)).alloc (.cells #[.bool false] 4)) 3 (.int .i64 0)).alloc (.cells #[.pointer (some ⟨P, 0, none⟩)] 25)
  have bX := Boxed.new (((w.alloc (.cells #[.slice A0 l.length c0] 22)).alloc (.cells #[.bool false] 4)).alloc (.cells #[.int .i64 0] 3)) 25 (.pointer (some ⟨P, 0, none⟩))
  have hs5 : ((((w.alloc (.cells #[.slice A0 l.length c0] 22)).alloc (.cells #[.bool false] 4)).alloc (.cells #[.int .i64 0] 3)).alloc (.cells #[.pointer (some ⟨P, 0, none⟩)] 25)).heap.size = w.heap.size + 1 + 1 + 1 + 1 := by simp
  have hs4 : (((w.alloc (.cells #[.slice A0 l.length c0] 22)).alloc (.cells #[.bool false] 4)).alloc (.cells #[.int .i64 0] 3)).heap.size = w.heap.size + 1 + 1 + 1 := by simp
  simp only [World.size_alloc] at b6 b7 bX
  rw [hs4]
  generalize (((w.alloc (.cells #[.slice A0 l.length c0] 22)).alloc (.cells #[.bool false] 4)).alloc (.cells #[.int .i64 0] 3)).alloc (.cells #[.pointer (some ⟨P, 0, none⟩)] 25) = w5 at *
  clear hs4
  have H5 := Aside0.mk (H.out.below hB5)
  have hd5 := Aside0.mk (Kd.C_below hd.out hB5)
  have hTB : ∀ k, TB P M LE (w.heap.size + 1 + 1 + 1) k → k < w.heap.size + 4 := fun k h => h.elim (fun h => by have := H.out.lt k h; omega) (fun e => by omega)
  have hTB2 : ∀ k, TB P M LE (w.heap.size + 1 + 1 + 1) k → k ≠ w.heap.size + 1 ∧ k ≠ w.heap.size + 1 + 1 := fun k h => h.elim (fun h => by have := H.out.lt k h; omega) (fun e => by omega)
  replace b4 := Aside0.mk b4
  replace b6 := Aside0.mk b6
  replace b7 := Aside0.mk b7
  replace bX := Aside0.mk bX
  replace hs5 := Lib.hid hs5
  replace hB5 := Aside0.mk hB5
  gi_wp2_with fail
  refine wpIn_rangeFunc_ownH rfl (by decide) (gf := 21) (lb := #[.pointer (some ⟨w.heap.size + 1 + 1 + 1, 0, none⟩)]) rfl trivial (enters_of Try.func21 (by kernel_rfl) rfl)
    (iter_stops' b0 room hits misses LE d P M D (w.heap.size + 1 + 1 + 1) w5 hE.out hlE.out bX.out H5.out) same_t (same_b (fun k h => by have := hTB k h; have := hs5.out; omega)) (Below.refl _ _) (fun _ => rfl)
    (fun pre W => Boxed W (w.heap.size + 1 + 1) 3 (.int .i64 (pre.length : Int)) ∧ Ch (fun k => k = w.heap.size + 1 + 1) w5 W)
    (fun c pre1 W => c = .ret ∧ ¬ pre1 <+: d)
    (OwnFrom.and (box_own _ _ _ (fun pre : List S61 => .int .i64 (pre.length : Int))) (ch_own _ _ _ (Nat.le_refl _)))
    (fun c _ _ _ _ h _ _ => h)
    ⟨b7.out, Ch.refl _ _⟩
    (fun x a' W => a' = { tmps := #[.pointer (some ⟨P, 0, none⟩), .slice A0 l.length c0, .int .i64 room, undef, .pointer (some ⟨w.heap.size, 0, none⟩), undef, .pointer (some ⟨w.heap.size + 1, 0, none⟩), .pointer (some ⟨w.heap.size + 1 + 1, 0, none⟩), .int .i64 x.f0, .string x.f1, undef, undef, undef, undef, undef, .pointer (some ⟨P, 0, none⟩), .func (.func 21) #[] #[.pointer (some ⟨w.heap.size + 1 + 1 + 1, 0, none⟩)], .int .i64 x.f0, .string x.f1, undef, undef, undef, undef, undef, undef, undef, undef, undef, undef, undef, undef, undef, undef, undef, undef, undef, undef, undef, undef, undef, undef, undef, undef, undef, undef, undef, undef, undef, undef, undef, undef, undef, undef, undef, undef, undef, undef, undef, undef, undef, undef, undef, undef, undef, undef, undef, undef, undef, undef, undef, undef, undef, undef, undef, undef, undef, undef, undef], defers := [] })
    (fun x a' _ W W' row hs hg hr => hs)
    ?assign ?body ?done ?stop
  case assign =>
    rintro lo pre x W K ⟨hS, hC⟩ hK
    unfold encS
    gi_wp2
    exact hK _ _ (KeepsFrom.refl _ _) (fun _ _ => rfl) ⟨hS, hC⟩ rfl
  case body =>
    rintro lo pre x a' W hlo ⟨r, hr⟩ ⟨bv, hC⟩ rfl hlt2
    have g4 : W.cell? ⟨w.heap.size, 0, none⟩ = some (.slice A0 l.length c0) := Boxed.cell ((hC.block _ (blk_lt b4.out) (by omega)).trans b4.out)
    have g6b := (hC.block _ (blk_lt b6.out) (by omega)).trans b6.out
    have g6 : W.cell? ⟨w.heap.size + 1, 0, none⟩ = some (.bool false) := Boxed.cell g6b
    have f6 := Boxed.frozen g6b
    have g8 := Boxed.cell bv
    have f8 := Boxed.frozen bv
    have hBel : Below w.heap.size w W := hB5.out.trans (hC.below (by have := hs5.out; omega) (fun k e => by omega))
    have hdW := Aside0.mk (Kd.C_below hd.out hBel)
    have hlw : wrap64 ((l.length : Int) - 1) = (l.length : Int) - 1 := by rw [Go.IntWalk.wrap64_in _ ⟨by omega, by omega⟩]
    have hdl := Lib.hid (show d.length ≤ 100 by have := hI.out.cnt; omega)
    have hnp := Lib.hid (not_pre (x := x) (pre := pre) (p := fun y => lastP l y.f0 = some y.f1) hI.out.last)
    obtain ⟨x0, x1⟩ := x
    dsimp only at *
    replace bv := Aside0.mk bv
    replace hC := Aside0.mk hC
    replace hBel := Aside0.mk hBel
    replace g6b := Aside0.mk g6b
    gi_wp2
    gi_loopw [10, 11] (fun t i wr => ∃ (j n : Nat) (bb : Bool), j ≤ l.length ∧ i = .int .i64 ((j : Int) - 1) ∧ t = .bool bb ∧ wr = W.drewN n ∧ Aside0 ((bb = false ∧ lastP l x0 = lastP (l.take j) x0) ∨ (bb = true ∧ lastP l x0 = some x1))) (fun _ i _ => (intOf i + 1).toNat)
    case atStart => exact ⟨l.length, 0, false, Nat.le_refl _, rfl, rfl, rfl, ⟨.inl ⟨rfl, by rw [List.take_length]⟩⟩⟩
    case round =>
      obtain ⟨j, n, bb, hj, rfl, rfl, rfl, hP⟩ := hrel
      have gw4 : (W.drewN n).cell? ⟨w.heap.size, 0, none⟩ = some (.slice A0 l.length c0) := g4
      have gw6 : (W.drewN n).cell? ⟨w.heap.size + 1, 0, none⟩ = some (.bool false) := g6
      have fw6 : (W.drewN n).frozen? ⟨w.heap.size + 1, 0, none⟩ = false := f6
      have gw8 : (W.drewN n).cell? ⟨w.heap.size + 1 + 1, 0, none⟩ = some (.int .i64 (pre.length : Int)) := g8
      have fw8 : (W.drewN n).frozen? ⟨w.heap.size + 1 + 1, 0, none⟩ = false := f8
      have hK0 := Lib.hid (show KeepsFrom w5.heap.size W (W.drewN n) from ⟨Nat.le_refl _, fun _ _ _ h _ => h⟩)
      have hS0 := Lib.hid (show Same (TB P M LE (w.heap.size + 1 + 1 + 1)) W (W.drewN n) from fun _ _ => rfl)
      have bw := Aside0.mk (show Boxed (W.drewN n) (w.heap.size + 1 + 1) 3 (.int .i64 (pre.length : Int)) from bv.out)
      have hCw := Aside0.mk (hC.out.trans (Ch.of_below (pw_below_drewN (Below.refl _ _) n)))
      have hw1 : wrap64 ((pre.length : Int) + 1) = ((pre.length + 1 : Nat) : Int) := w64n _ (by have := hlt2; have := hlE.out; have := hdl.out; omega)
      have hwj : wrap64 ((j : Int) - 1 - 1) = (j : Int) - 1 - 1 := by rw [Go.IntWalk.wrap64_in _ ⟨by omega, by omega⟩]
      clear g4 g6 f6 g8 f8
      cases bb with
      | true =>
        clear hwj
        by_cases hj0 : j = 0
        · subst hj0
          gi_wp2
          refine ⟨hK0.out.trans ((KeepsOthers.setCell _ _ _).from _), hS0.out.trans (Same.set _ (fun h => (hTB2 _ h).2 rfl)), ?_, hCw.out.grown (grownBy_setCell' _ _ _) (fun j ej => .inl (by cases ej; rfl))⟩
          rw [List.length_append, List.length_singleton]
          exact bw.out.set _
        · have z1 : decide ((0 : Int) ≤ (j : Int) - 1) = true := decide_eq_true (by omega)
          gi_wp2
          refine ⟨hK0.out.trans ((KeepsOthers.setCell _ _ _).from _), hS0.out.trans (Same.set _ (fun h => (hTB2 _ h).2 rfl)), ?_, hCw.out.grown (grownBy_setCell' _ _ _) (fun j ej => .inl (by cases ej; rfl))⟩
          rw [List.length_append, List.length_singleton]
          exact bw.out.set _
      | false =>
        have hP1 : lastP l x0 = lastP (l.take j) x0 := by
          rcases hP.out with ⟨_, h⟩ | ⟨h, _⟩
          · exact h
          · cases h
        replace hP1 := Aside0.mk hP1
        clear hP
        cases j with
        | zero =>
          have F := Aside0.mk (hnp.out (by rw [hP1.out]; intro h; cases h))
          clear hP1 hwj
          gi_wp2
          exact ⟨hK0.out.trans ((KeepsOthers.setCell _ _ _).from _), rfl, F.out⟩
        | succ j =>
          have z2 : ((j + 1 : Nat) : Int) - 1 = (j : Int) := by omega
          rw [z2] at hwj ⊢
          clear z2
          have z1 : decide ((0 : Int) ≤ (j : Int)) = true := decide_eq_true (by omega)
          obtain ⟨ad, rfl, y0, y1, y2⟩ := at_T30 (Kd.C_below hdW.out (pw_below_drewN (Below.refl _ _) n)) (j : Int) (by omega) (by omega)
          rw [Int.toNat_natCast] at y0 y1 y2
          rw [rd_get30 l j (by omega)] at y0 y1 y2
          rw [lastP_down (by omega : j < l.length)] at hP1
          have hA := Aside0.mk (fun (h1 : (l[j]).f0 = 0) (h2 : blw (l[j]).f1 16 = x0) => (show lastP l x0 = some (l[j]).f2 from by rw [hP1.out]; exact if_pos ⟨h1, h2⟩))
          have hB := Aside0.mk (fun (h1 : ¬ ((l[j]).f0 = 0 ∧ blw (l[j]).f1 16 = x0)) => (show lastP l x0 = lastP (l.take j) x0 from by rw [hP1.out]; exact if_neg h1))
          clear hP1
          generalize l[j] = y at *
          obtain ⟨y0', y1', y2'⟩ := y
          dsimp only at *
          have zi : decide ((j : Int) < (l.length : Int)) = true := decide_eq_true (by omega)
          have zj : j < l.length := by omega
          by_cases h0 : y0' = 0
          · have e0 : (y0' == 0) = true := by simp [h0]
            have q7 := Lib.hid fun w' => decklebook_Below.calls y1' 16 _ w' (blw_f y1' 16 (by decide) (by decide)).1
            generalize blw y1' 16 = bb1 at *
            by_cases hb1 : bb1 = x0
            · have e1 : (bb1 == x0) = true := by simp [hb1]
              have hP1 := Aside0.mk (hA.out h0 hb1)
              clear h0 hb1
              by_cases hd1 : y2' = x1
              · have hQ : lastP l x0 = some x1 := by rw [hP1.out, hd1]
                have hQ' := Aside0.mk hQ
                have e2 : (y2'.toList == x1.toList) = true := by rw [hd1]; exact beq_self_eq_true _
                clear hd1 hQ hP1
                gi_wp2_with fail
                refine ⟨trivial, ?_⟩
                refine (CallsIn.inRound lo (callsIn_wide.2 (q7.out _))).mono ?_
                rintro e w7 ⟨rfl, ⟨⟨n2, rfl⟩⟩⟩
                have gx6 : (W.drewN (n + n2)).cell? ⟨w.heap.size + 1, 0, none⟩ = some (.bool false) := gw6
                have fx6 : (W.drewN (n + n2)).frozen? ⟨w.heap.size + 1, 0, none⟩ = false := fw6
                have gx4 : (W.drewN (n + n2)).cell? ⟨w.heap.size, 0, none⟩ = some (.slice (some ad) l.length c0) := gw4
                have gx8 : (W.drewN (n + n2)).cell? ⟨w.heap.size + 1 + 1, 0, none⟩ = some (.int .i64 (pre.length : Int)) := gw8
                have fx8 : (W.drewN (n + n2)).frozen? ⟨w.heap.size + 1 + 1, 0, none⟩ = false := fw8
                have y2x : (W.drewN (n + n2)).cell? ⟨(ad.add (j * 3)).block, (ad.add (j * 3)).off + 2, none⟩ = some (.string y2') := y2
                gi_wp2
                go_roundw
                case rel => exact ⟨j, n + n2, true, by omega, rfl, rfl, by simp, ⟨.inr ⟨rfl, hQ'.out⟩⟩⟩
                case measure => simp [intOf]
              · have F := Aside0.mk (hnp.out (by rw [hP1.out]; intro h; exact hd1 (Option.some.inj h)))
                have e2 : (y2'.toList == x1.toList) = false := bytes_ne hd1
                clear hd1 hP1
                gi_wp2_with fail
                refine ⟨trivial, ?_⟩
                refine (CallsIn.inRound lo (callsIn_wide.2 (q7.out _))).mono ?_
                rintro e w7 ⟨rfl, ⟨⟨n2, rfl⟩⟩⟩
                have gx6 : (W.drewN (n + n2)).cell? ⟨w.heap.size + 1, 0, none⟩ = some (.bool false) := gw6
                have fx6 : (W.drewN (n + n2)).frozen? ⟨w.heap.size + 1, 0, none⟩ = false := fw6
                have gx4 : (W.drewN (n + n2)).cell? ⟨w.heap.size, 0, none⟩ = some (.slice (some ad) l.length c0) := gw4
                have gx8 : (W.drewN (n + n2)).cell? ⟨w.heap.size + 1 + 1, 0, none⟩ = some (.int .i64 (pre.length : Int)) := gw8
                have fx8 : (W.drewN (n + n2)).frozen? ⟨w.heap.size + 1 + 1, 0, none⟩ = false := fw8
                have y2x : (W.drewN (n + n2)).cell? ⟨(ad.add (j * 3)).block, (ad.add (j * 3)).off + 2, none⟩ = some (.string y2') := y2
                gi_wp2
                exact ⟨(show KeepsFrom w5.heap.size W (W.drewN (n + n2)) from ⟨Nat.le_refl _, fun _ _ _ h _ => h⟩).trans ((KeepsOthers.setCell _ _ _).from _), rfl, F.out⟩
            · have e1 : (bb1 == x0) = false := by simpa using hb1
              have hP1 := Aside0.mk (hB.out (fun h => hb1 h.2))
              clear h0 hb1
              gi_wp2_with fail
              refine ⟨trivial, ?_⟩
              refine (CallsIn.inRound lo (callsIn_wide.2 (q7.out _))).mono ?_
              rintro e w7 ⟨rfl, ⟨⟨n2, rfl⟩⟩⟩
              gi_wp2
              go_roundw
              case rel => exact ⟨j, n + n2, false, by omega, rfl, rfl, rfl, ⟨.inl ⟨rfl, hP1.out⟩⟩⟩
              case measure => simp [intOf]
          · have e0 : (y0' == 0) = false := by simpa using h0
            have hP1 := Aside0.mk (hB.out (fun h => h0 h.1))
            clear h0
            gi_wp2
            refine ⟨trivial, ?_⟩
            gi_wp2
            go_roundw
            case rel => exact ⟨j, n, false, by omega, rfl, rfl, rfl, ⟨.inl ⟨rfl, hP1.out⟩⟩⟩
            case measure => simp [intOf]
  case done =>
    rintro D2 xs W hD hxs ⟨bv, hC⟩ hK
    rw [hxs] at bv
    clear hxs
    have hB0 := Aside0.mk (hB5.out.trans (hC.below (by have := hs5.out; omega) (fun k e => by omega) : Below w.heap.size w5 W))
    have b4W := Aside0.mk ((hC.block _ (blk_lt b4.out) (by omega)).trans b4.out)
    have b6W := Aside0.mk ((hC.block _ (blk_lt b6.out) (by omega)).trans b6.out)
    have bvW := Aside0.mk bv
    have hK' := Lib.hid hK
    have hDs := Lib.hid hD
    have hsW := Lib.hid (show w.heap.size + 3 ≤ W.heap.size from by have := blk_lt bv; omega)
    have g4 : (W.alloc (.map #[] 0)).cell? ⟨w.heap.size, 0, none⟩ = some (.slice A0 l.length c0) := Boxed.cell ((show Boxed W w.heap.size 22 (.slice A0 l.length c0) from b4W.out).alloc _)
    have hM0 := Aside0.mk (MapZ.made (P := Try.prog) (k := 3) W)
    have hBM := Aside0.mk ((Below.refl W.heap.size W).alloc (Nat.le_refl _) (.map #[] 0))
    clear bv hC hK hD
    have hmm := @run_makeMap Try.prog
    gi_wp2
    gi_loopw [60] (fun i wr => ∃ (j : Nat) (DD : DataW Value), j ≤ l.length ∧ i = .int .i64 (j : Int) ∧ Aside0 (Below W.heap.size W wr ∧ W.heap.size + 1 ≤ wr.heap.size ∧ MapZ Try.prog 3 (fun a => if a ∈ uOf (l.take j) then some (.int .i64 1) else none) (uOf (l.take j)).length W.heap.size DD wr)) (fun i _ => l.length - (intOf i).toNat)
    case atStart => exact ⟨0, _, Nat.zero_le _, rfl, ⟨hBM.out, by simp, hM0.out⟩⟩
    case round =>
      obtain ⟨j, DD, hj, rfl, hP⟩ := hrel
      by_cases hlt : j < l.length
      · have yk : decide ((j : Int) < (l.length : Int)) = true := decide_eq_true (by omega)
        obtain ⟨ad, rfl, d0, d1, d2⟩ := at_T30 (Kd.C_below hd.out (hB0.out.trans (hP.out.1.mono (by have := hsW.out; omega)))) (j : Int) (by omega) (by omega)
        rw [Int.toNat_natCast] at d0 d1 d2
        rw [rd_get30 l j hlt] at d0 d1 d2
        have hU : uOf (l.take (j + 1)) = stepU (uOf (l.take j)) l[j] := by rw [List.take_succ_eq_append_getElem hlt, uOf_snoc]
        have hUl := Lib.hid (show (uOf (l.take j)).length ≤ 100 from by have := uOf_len (l.take j); rw [List.length_take] at this; omega)
        replace hU := Aside0.mk hU
        generalize l[j] = y at *
        obtain ⟨y0, y1, y2⟩ := y
        dsimp only at *
        have hw1 : wrap64 ((j : Int) + 1) = ((j + 1 : Nat) : Int) := w64n _ (by omega)
        have g0 : (wr.alloc (.cells #[.int .i64 y0, .int .i64 y1, .string y2] 30)).cell? ⟨wr.heap.size, 0, none⟩ = some (.int .i64 y0) := blk_cell (heap_alloc_new wr (.cells #[.int .i64 y0, .int .i64 y1, .string y2] 30)) 0
        have g1 : (wr.alloc (.cells #[.int .i64 y0, .int .i64 y1, .string y2] 30)).cell? ⟨wr.heap.size, 1, none⟩ = some (.int .i64 y1) := blk_cell (heap_alloc_new wr (.cells #[.int .i64 y0, .int .i64 y1, .string y2] 30)) 1
        have hB1 := Aside0.mk (hP.out.1.alloc (by have := hP.out.2.1; omega) (.cells #[.int .i64 y0, .int .i64 y1, .string y2] 30))
        have hM1 := Aside0.mk (hP.out.2.2.kept (World.grownBy_alloc wr (.cells #[.int .i64 y0, .int .i64 y1, .string y2] 30) none) (by simp))
        have hS1 := Lib.hid (show W.heap.size + 1 ≤ (wr.alloc (.cells #[.int .i64 y0, .int .i64 y1, .string y2] 30)).heap.size from by have := hP.out.2.1; simp; omega)
        clear hP
        by_cases h0 : y0 = 0
        · subst h0
          have q7 := Lib.hid fun w' => decklebook_Below.calls y1 16 _ w' (blw_f y1 16 (by decide) (by decide)).1
          have hlt16 := Lib.hid (blw_wf y1 16 (by decide) (by decide))
          gi_wp2_with fail
          refine ⟨trivial, ?_⟩
          refine (callsIn_wide.2 (q7.out _)).mono ?_
          rintro e w7 ⟨rfl, ⟨⟨n2, rfl⟩⟩⟩
          generalize wr.heap.size = X at *
          generalize wr.alloc (.cells #[.int .i64 0, .int .i64 y1, .string y2] 30) = W1 at *
          obtain ⟨W2, D3, hrun, HM2, ht⟩ := (hM1.out.same (w' := W1.drewN n2) rfl).store (t := 54) u3 u54 (by have := hUl.out; unfold maxLen; omega) (blw y1 16) hlt16.out (.int .i64 1)
          replace HM2 := Aside0.mk HM2
          replace ht := Lib.hid ht
          gi_wp2
          go_roundw
          case rel => exact ⟨j + 1, D3, by omega, rfl, ⟨(pw_below_drewN hB1.out n2).grown ht.out.grown (Nat.le_of_succ_le hS1.out) (fun k e => by cases e; omega), Nat.le_trans hS1.out ht.out.grown.size, by
              rw [hU.out]; exact mapU_step rfl HM2.out⟩⟩
          case measure => simp [intOf]; omega
        · have e0 : (y0 == 0) = false := by simpa using h0
          have hU2 : uOf (l.take (j + 1)) = uOf (l.take j) := by rw [hU.out]; exact if_neg (fun h => h0 h.1)
          replace hU2 := Aside0.mk hU2
          gi_wp2
          go_roundw
          case rel => exact ⟨j + 1, DD, by omega, rfl, ⟨hB1.out, hS1.out, by rw [hU2.out]; exact hM1.out⟩⟩
          case measure => simp [intOf]; omega
      · obtain rfl : j = l.length := by omega
        have yk : decide ((l.length : Int) < (l.length : Int)) = false := decide_eq_false (by omega)
        have hBw := Aside0.mk (hP.out.1)
        have hlW := hsW.out
        have c7 : wr.cell? ⟨w.heap.size + 1 + 1, 0, none⟩ = some (.int .i64 (d.length : Int)) := (hBw.out.cell (by dsimp only; omega)).trans (Boxed.cell bvW.out)
        have b6w : Boxed wr (w.heap.size + 1) 4 (.bool false) := (hBw.out.block _ (by omega)).trans b6W.out
        have c6 : wr.cell? ⟨w.heap.size + 1, 0, none⟩ = some (.bool false) := Boxed.cell b6w
        have f6 : wr.frozen? ⟨w.heap.size + 1, 0, none⟩ = false := Boxed.frozen b6w
        rw [List.take_length] at hP
        have hlen := hP.out.2.2.len u54 3
        have hmin : ((d.length : Int) == min ((uOf l).length : Int) room) = true := by rw [invL_min hI.out]; exact beq_self_eq_true _
        have hDb := Lib.hid (show wr.heap[D2]? = some (.deferred (some [])) from (hBw.out.block _ (by exact blk_lt hK'.out)).trans hK'.out)
        have hBe := Aside0.mk (hB0.out.trans (hBw.out.mono (by omega)))
        replace b6w := Aside0.mk b6w
        clear hP hlW
        gi_wp2
        all_goals
          have hm := invL_min hI.out
          first
            | (rw [show ((d.length : Int) == room) = true from beq_iff_eq.2 (by omega)]; exact last_end w wr D2 _ hBe.out b6w.out hDb.out (by have := hs5.out; have := hDs.out; omega) rfl)
            | (rw [show ((d.length : Int) == ((uOf l).length : Int)) = true from beq_iff_eq.2 (by omega)]; exact last_end w wr D2 _ hBe.out b6w.out hDb.out (by have := hs5.out; have := hDs.out; omega) rfl)
  case stop =>
    rintro D2 c pre1 W hD hpre ⟨_, h⟩ hK
    exact absurd hpre h
end Go.Proofs.Ytilephiplfigpaa.PQ
