/- LruDrops walked. -/
import Derived.RangeFuncNested
import Derived.RangeFuncBound
import Derived.RangeFuncCalls
import Derived.RangeFuncLeaves
import Derived.RangeFuncBox
import Derived.Shelf.Abstract
import Derived.Shelf.RegionOpen
import Derived.WalkKit
import Derived.OwnWalkIn
import Derived.TacticsInMore
import Derived.LoopNIn
import Derived.LoopIn
import Derived.Maps.AppendAt
import Derived.Test.YtilephiplfigpaaAct
import Derived.Test.YtilephiplfigpaaAppendIn
namespace Go.Proofs.Ytilephiplfigpaa.PQ
open Go.RowKit Go.Proofs.YtilephiplfigpaaW.PrintWords Go.Proofs.YtilephiplfigpaaW.PrintLast Go.Proofs.YtilephiplfigpaaW.PrintMore Go.Shelf
set_option linter.unusedVariables false
set_option linter.unusedSimpArgs false
attribute [local go_sem] Oper.semAt_some
/-- Numbers that have come, in the box of block X. -/
def SomeI (X base : Nat) (l : List Int) (W : World) : Prop := ∃ v, Boxed W X 38 v ∧ Kd.R (Kd.int .i64) 3 W base (fun k => k ≠ X) v l
theorem SomeI.own {β : Type} (X base B : Nat) (f : β → List Int) : OwnFrom B (fun (s : β) W => SomeI X base (f s) W) := by
  rintro s W W' row ⟨v, hb, hR⟩ hg hr
  exact ⟨v, hb.kept hg (not_cells hr hb), R_own hR hg hr⟩
theorem row_cells {W : World} {base : Nat} {ok : Nat → Prop} {v : Value} {l : List Int} {j : Nat} (h : Kd.R (Kd.int .i64) 3 W base ok v l) (hj : v.ownBlock = some j) : base ≤ j ∧ ok j ∧ ∃ q cells, W.heap[j]? = some (.cells cells q (0, 0)) := by
  obtain ⟨h1, h2, _, q, _, cells, hc⟩ := (Kd.R_bound h).1 j hj
  exact ⟨h2, h1, q, cells, hc⟩
theorem SomeI.round {X : Nat} {pre : List Int} {x : Int} {W w1 w5 : World} {v v1 : Value} {T : Nat → Prop} (hT : ∀ k, T k → k < w5.heap.size ∧ k ≠ X) (hC : Ch (fun k => k = X) w5 W) (bv : Boxed W X 38 v) (hR : Kd.R (Kd.int .i64) 3 W w5.heap.size (fun k => k ≠ X) v pre)
    (hg : W.grownBy w1 v.ownBlock) (ho : Kd.R (Kd.int .i64) 3 w1 w5.heap.size (fun k => k ≠ X) v1 (pre ++ [x])) (hs : X + 1 ≤ w5.heap.size) :
    KeepsFrom w5.heap.size W (w1.setCell ⟨X, 0, none⟩ v1) ∧ Same T W (w1.setCell ⟨X, 0, none⟩ v1) ∧ SomeI X w5.heap.size (pre ++ [x]) (w1.setCell ⟨X, 0, none⟩ v1) ∧ Ch (fun k => k = X) w5 (w1.setCell ⟨X, 0, none⟩ v1) := by
  have hb1 : Boxed w1 X 38 v := bv.kept hg (fun e => (row_cells hR e.symm).2.1 rfl)
  have hsz := hC.size
  refine ⟨?_, ?_, ⟨v1, hb1.set v1, Kd.R_step ho (fun k hk _ => ?_)⟩, ?_⟩
  · refine ((KeepsOthers.of_grownBy hg fun j o ej hj => ?_).trans (KeepsOthers.setCell _ _ _)).from _
    obtain ⟨_, _, q, cells, hc⟩ := row_cells hR ej
    rw [hc] at hj
    cases hj
    rfl
  · refine Same.trans (fun k hk => hg.block k (by have := (hT k hk).1; omega) (fun e => ?_)) (Same.set _ (fun h => (hT X h).2 rfl))
    have := (row_cells hR e.symm).1
    have := (hT k hk).1
    omega
  · exact Below.heap_setCell _ _ _ _ hk
  · exact (hC.grown hg (fun j ej => .inr (row_cells hR ej).1)).grown (grownBy_setCell' w1 X v1) (fun j ej => .inl (by cases ej; rfl))
def filO (a : Int) (l : List S61) : List Int := (l.map (·.f0)).filter fun x => decide (x ≠ a)
theorem filO_snoc (a : Int) (l : List S61) (x : S61) : filO a (l ++ [x]) = if x.f0 = a then filO a l else filO a l ++ [x.f0] := by
  unfold filO
  rw [List.map_append, List.filter_append]
  by_cases h : x.f0 = a <;> simp [h]
theorem filO_len (a : Int) (l : List S61) : (filO a l).length ≤ l.length := Nat.le_trans (List.length_filter_le _ _) (by rw [List.length_map]; exact Nat.le_refl _)
theorem fil_out (d : List S61) (a : Int) : (d.map (·.f0)).filter (fun x => decide (x ≠ a)) = (outO (outO d a) a).map (·.f0) := by
  unfold outO
  rw [List.filter_filter, List.filter_map]
  congr 1
  apply List.filter_congr
  intro x _
  simp
theorem same_pure (l : List Int) (hl : l.length ≤ 100000) : decklebook_SameInts.f (l.length + 1) l l = some true := by
  have key : ∀ m k : Nat, m + k = l.length → decklebook_SameInts.l0 (m + 1) l l true (k : Int) = some true := by
    intro m
    induction m with
    | zero => intro k hk; unfold decklebook_SameInts.l0; rw [if_pos rfl, if_neg (by omega)]
    | succ m ih =>
      intro k hk
      unfold decklebook_SameInts.l0
      rw [if_pos rfl, if_pos (by omega), if_pos (by omega), if_pos (by omega), w64n k (by omega), beq_self_eq_true]
      exact ih (k + 1) (by omega)
  have h := key l.length 0 (by omega)
  unfold decklebook_SameInts.f
  rw [beq_self_eq_true]
  exact h
theorem same_calls3 {W : World} {b1 b2 n1 n2 c1 c2 : Nat} {ok1 ok2 : Nat → Prop} {A1 A2 : Option Addr} {l1 l2 : List Int} (h1 : (Kd.int .i64).R 3 W b1 ok1 (.slice A1 n1 c1) l1) (h2 : (Kd.int .i64).R 3 W b2 ok2 (.slice A2 n2 c2) l2) (he : l1 = l2) (hl : l2.length ≤ 100000) :
    Calls Try.prog 16 #[.slice A1 n1 c1, .slice A2 n2 c2] W fun e w' => e = .returned (.bool true) ∧ Drawn0 W w' := by
  subst he
  have r1 := Kd.R_reads' h1
  have r2 := Kd.R_reads' h2
  obtain ⟨_, _, e1⟩ := Kd.R_slice h1
  obtain ⟨_, _, e2⟩ := Kd.R_slice h2
  cases e1
  cases e2
  exact decklebook_SameInts.calls (l1.length + 1) A1 c1 l1 A2 c2 l1 true W r1.2.2 r1.2.1 r2.2.2 r2.2.1 (same_pure l1 hl)
/-- A statement that goes on, and no other way. -/
def GoesOn (Q : Exit → Act → World → Prop) : Exit → Act → World → Prop
  | .normal, a, w => Q .normal a w
  | _, _, _ => False
theorem wpIn_goesOn {F : Fence} {n : Nat} {P : Program} {c : Code} {Q : Exit → Act → World → Prop} {a : Act} {w : World} (h : c.wpIn F n P (GoesOn Q) a w) : c.wpIn F n P Q a w :=
  Code.wpIn_mono (fun e a w h => by cases e <;> first | exact h | exact h.elim) h
set_option maxHeartbeats 16000000 in
set_option maxRecDepth 100000 in
theorem drops_core (a0 : Option Addr) (c0 : Nat) (zs : List S30) (lb : Int) (w : World) (hr : Aside0 (Kd.C k30 w a0 zs.length zs)) :
    Calls Try.prog 4 #[.slice a0 zs.length c0, .int .i64 lb] w fun e w' => e = .returned (.bool true) ∧ Below w.heap.size w w' := by
  have hz := Lib.hid (Kd.C_max hr.out)
  refine (callsIn_wide (n := 7)).1 (callsIn_of_wp_marks Try.func4 rfl trivial ?_ rfl)
  simp only [Try.ntmps4, List.size_toArray, List.length_cons, List.length_nil, Nat.reduceAdd, Nat.reduceSub, Array.replicate_succ, Array.replicate_zero, List.push_toArray, List.append_toArray, List.nil_append, List.cons_append]
  have hW := Lib.hid fun w => works_calls w
  have hB1 := Aside0.mk ((Below.refl _ w).alloc (Nat.le_refl _) (.cells #[.int .i64 lb] 3))
  have hX1 := Aside0.mk (heap_alloc_new w (.cells #[.int .i64 lb] 3))
  gi_wp2_with fail
  generalize w.alloc (.cells #[.int .i64 lb] 3) = w1 at *
  refine ⟨trivial, (callsIn_wide.2 (hW.out _)).mono ?_⟩
  rintro e w2 ⟨rfl, hb2⟩
  have hB2 := Aside0.mk (hB1.out.trans (hb2.mono hB1.out.size))
  have hX2 := Aside0.mk (blk_below hX1.out hb2)
  clear hW hB1 hX1 hb2
  have hn := Lib.hid (JL.new 8 (by decide) w2)
  gi_wp2_with fail
  refine ⟨trivial, (callsIn_wide.2 hn.out).mono ?_⟩
  rintro e w3 ⟨rfl, J3⟩
  replace J3 := J3.out.boxed w.heap.size (.cells #[.int .i64 lb] 3 (0, 0)) (blk_below hX2.out J3.out.bel) (blk_lt hX2.out)
  replace J3 := Aside0.mk (J3.rebase hB2.out)
  clear hn
  obtain ⟨M, hM⟩ : ∃ M, Aside0 (w2.heap.size = M) := ⟨_, ⟨rfl⟩⟩
  rw [hM.out] at J3
  rw [hM.out]
  generalize M + 1 = P at *
  clear hM hX2 hB2
  have hzm := hz.out
  by_cases hl : zs.length ≤ 100
  · have z1 : decide ((zs.length : Int) > 100) = false := decide_eq_false (by omega)
    have z2 : decide (100 < zs.length) = false := decide_eq_false (by omega)
    have z3 : decide ((100 : Int) < (zs.length : Int)) = false := decide_eq_false (by omega)
    gi_wp2
    gi_loopw [32] (fun i wr => ∃ (k : Nat), k ≤ zs.length ∧ i = .int .i64 k ∧ Aside0 (∃ L, (L.length : Int) ≤ 8 ∧ JL 8 0 0 L [] P M (.slice none 0 0) [(w.heap.size, .cells #[.int .i64 lb] 3 (0, 0))] w wr)) (fun i _ => zs.length - (intOf i).toNat)
    case atStart => exact ⟨0, Nat.zero_le _, rfl, ⟨[], by simp, J3.out⟩⟩
    case round =>
      clear J3
      obtain ⟨k, hk, rfl, HL⟩ := hrel
      obtain ⟨L, hL, HJ⟩ := HL.out
      clear HL
      by_cases hlt : k < zs.length
      · have yk : decide ((k : Int) < (zs.length : Int)) = true := decide_eq_true (by omega)
        obtain ⟨ad, rfl, d0, d1, d2⟩ := at_T30 (Kd.C_below hr.out HJ.bel) (k : Int) (by omega) (by omega)
        rw [Int.toNat_natCast] at d0 d1 d2
        generalize (rd_T30 zs (k : Int)).f0 = y0 at *
        generalize (rd_T30 zs (k : Int)).f1 = y1 at *
        generalize (rd_T30 zs (k : Int)).f2 = y2 at *
        replace HJ := Aside0.mk (HJ.push (.cells #[.int .i64 y0, .int .i64 y1, .string y2] 30))
        have g1 : (wr.alloc (.cells #[.int .i64 y0, .int .i64 y1, .string y2] 30)).cell? ⟨wr.heap.size, 1, none⟩ = some (.int .i64 y1) := blk_cell HJ.out.head 1
        have g2 : (wr.alloc (.cells #[.int .i64 y0, .int .i64 y1, .string y2] 30)).cell? ⟨wr.heap.size, 2, none⟩ = some (.string y2) := blk_cell HJ.out.head 2
        have q7 := Lib.hid fun w' => decklebook_Below.calls y1 16 _ w' (blw_f y1 16 (by decide) (by decide)).1
        have q9 := Lib.hid fun n => JL.put ⟨HJ.out.drewN n⟩ (blw y1 16) y2 (blw_wf y1 16 (by decide) (by decide)) ⟨hL, by omega⟩
        have hL8 := Lib.hid hL
        clear hL
        gi_wp2_with fail
        generalize hW1 : wr.alloc (.cells #[.int .i64 y0, .int .i64 y1, .string y2] 30) = W1 at *
        generalize hXX : wr.heap.size = XX at *
        clear hW1 hXX d0 d1 d2
        refine wpIn_goesOn ?_
        gi_region_with (first | (refine ⟨trivial, (callsIn_wide.2 (q7.out _)).mono ?_⟩; rintro e w' ⟨rfl, ⟨⟨n, rfl⟩⟩⟩) | (refine ⟨trivial, (callsIn_wide.2 (q9.out _)).mono ?_⟩; rintro e w' ⟨rfl, hput⟩))
        all_goals
          obtain ⟨L', e', r', J'⟩ := hput.out
          replace J' := Aside0.mk J'.pop
          clear hput q7 q9 HJ g1 g2 e'
          dsimp only [GoesOn]
          gi_wp2
          go_roundw
          case rel => exact ⟨k + 1, by omega, by go_num, ⟨L', r', J'.out⟩⟩
          case measure => simp [intOf]; omega
      · obtain rfl : k = zs.length := by omega
        have yk : decide ((zs.length : Int) < (zs.length : Int)) = false := decide_eq_false (by omega)
        have g0 : wr.cell? ⟨w.heap.size, 0, none⟩ = some (.int .i64 lb) := blk_cell HJ.head 0
        have q7 := Lib.hid fun w' => blw_calls lb 16 (by decide) (by decide) w'
        have hwf := Lib.hid (blw_wf lb 16 (by decide) (by decide))
        generalize blw lb 16 = lb1 at *
        replace HJ := Aside0.mk HJ
        replace hL := Lib.hid hL
        gi_wp2_with fail
        refine ⟨trivial, (callsIn_wide.2 (q7.out _)).mono ?_⟩
        rintro e w4 ⟨rfl, hb4⟩
        have J4 := HJ.out.below hb4
        have g0 : w4.cell? ⟨w.heap.size, 0, none⟩ = some (.int .i64 lb) := blk_cell J4.head 0
        have f0 := blk_frozen J4.head 0
        have J5 : JL 8 0 0 L [] P M (.slice none 0 0) [(w.heap.size, .cells #[.int .i64 lb1] 3 (0, 0))] w (w4.setCell ⟨w.heap.size, 0, none⟩ (.int .i64 lb1)) := J4.set (i := 0) (fun q hq => absurd hq (by simp)) (Nat.le_refl _) (.int .i64 lb1)
        have J6 := Aside0.mk (J5.push (.cells #[.slice none 0 0] 38))
        replace J5 := Aside0.mk J5
        have hall := Lib.hid fun w' => all_calls P w'
        clear q7 HJ hb4 J4
        gi_wp2_with fail
        refine ⟨trivial, (callsIn_wide.2 (hall.out _)).mono ?_⟩
        rintro e w7 ⟨rfl, rfl⟩
        have hY : (w4.setCell ⟨w.heap.size, 0, none⟩ (.int .i64 lb1)).heap.size = w4.heap.size := by simp [World.setCell]
        have hY2 : ((w4.setCell ⟨w.heap.size, 0, none⟩ (.int .i64 lb1)).alloc (.cells #[.slice none 0 0] 38)).heap.size = w4.heap.size + 1 := by simp [World.setCell]
        rw [hY] at J6
        rw [hY2]
        have B9 := Boxed.new ((w4.setCell ⟨w.heap.size, 0, none⟩ (.int .i64 lb1)).alloc (.cells #[.slice none 0 0] 38)) 25 (.pointer (some ⟨P, 0, none⟩))
        rw [hY2] at B9
        have hs9 : (((w4.setCell ⟨w.heap.size, 0, none⟩ (.int .i64 lb1)).alloc (.cells #[.slice none 0 0] 38)).alloc (.cells #[.pointer (some ⟨P, 0, none⟩)] 25)).heap.size = w4.heap.size + 1 + 1 := by simp [World.setCell]
        have J9 := Aside0.mk (J6.out.alloc (.cells #[.pointer (some ⟨P, 0, none⟩)] 25))
        have hYw : w.heap.size < w4.heap.size := by have := blk_lt J5.out.head; rw [hY] at this; exact this
        replace B9 := Aside0.mk B9
        replace hs9 := Lib.hid hs9
        clear hall hY hY2 J6 J5 g0 f0
        generalize ((w4.setCell ⟨w.heap.size, 0, none⟩ (.int .i64 lb1)).alloc (.cells #[.slice none 0 0] 38)).alloc (.cells #[.pointer (some ⟨P, 0, none⟩)] 25) = w9 at *
        generalize w4.heap.size = Y at *
        gi_wp2_with fail
        have hTB : ∀ k, TB P M L (Y + 1) k → k < Y + 2 ∧ k ≠ Y := by
          obtain ⟨D9, hD9⟩ := J9.out.lat
          rintro k (h | h)
          · refine ⟨by have := hD9.lt k h; have := hs9.out; omega, fun e => J9.out.xb (Y, .cells #[.slice none 0 0] 38 (0, 0)) List.mem_cons_self (e ▸ h)⟩
          · omega
        obtain ⟨D9, hD9⟩ := J9.out.lat
        replace hD9 := Aside0.mk hD9
        refine wpIn_rangeFunc_ownH rfl (by decide) (gf := 21) (lb := #[.pointer (some ⟨Y + 1, 0, none⟩)]) rfl trivial (enters_of Try.func21 (by kernel_rfl) rfl)
          (iter_stops w.heap.size 8 0 0 L P M D9 (Y + 1) w9 B9.out hD9.out) same_t (same_b (fun k h => by have := (hTB k h).1; have := hs9.out; omega)) (Below.refl _ _) (fun _ => rfl)
          (fun pre W => SomeI Y w9.heap.size (filO lb1 pre) W ∧ Ch (fun k => k = Y) w9 W)
          (fun c pre1 W => False)
          (OwnFrom.and (SomeI.own _ _ _ (filO lb1)) (ch_own _ _ _ (Nat.le_refl _)))
          (fun c _ _ _ _ h _ _ => h)
          ⟨⟨_, J9.out.head, Kd.R_nil _ _ _ _ _⟩, Ch.refl _ _⟩
          (fun x a' W => a' = { tmps := #[.slice a0 zs.length c0, .int .i64 lb, undef, .pointer (some ⟨w.heap.size, 0, none⟩), .bool false, .pointer (some ⟨P, 0, none⟩), .int .i64 0, undef, u8, .pointer (some ⟨Y, 0, none⟩), .int .i64 x.f0, undef, undef, undef, undef, .bool true, .bool false, .tuple #[.pointer (some ⟨P, 0, none⟩), .int .i64 0], .tuple #[.pointer (some ⟨P, 0, none⟩), .int .i64 0], .pointer (some ⟨P, 0, none⟩), .int .i64 0, .pointer (some ⟨P, 0, none⟩), .bool false, .bool false, .slice a0 zs.length c0, .int .i64 zs.length, .bool false, .bool false, undef, undef, .slice a0 zs.length c0, .int .i64 zs.length, .int .i64 zs.length, .bool false, u34, u35, u36, u37, u38, u39, u40, u41, u42, u43, .int .i64 lb, .int .i64 lb1, .pointer (some ⟨P, 0, none⟩), .func (.func 21) #[] #[.pointer (some ⟨Y + 1, 0, none⟩)], .int .i64 x.f0, .string x.f1, undef, undef, undef, undef, undef, undef, undef, undef, undef, undef, undef, undef, undef, undef, undef, undef, undef, undef, undef, undef, undef, undef, undef, undef, undef, undef, undef, undef, undef, undef, undef, undef, undef, undef], defers := [] })
          (fun x a' _ W W' row hs hg hr => hs)
          ?assign ?body ?done ?stop
        case assign =>
          rintro l pre x W K ⟨hS, hC⟩ hK
          unfold encS
          gi_wp2
          exact hK _ _ (KeepsFrom.refl _ _) (fun _ _ => rfl) ⟨hS, hC⟩ rfl
        case body =>
          rintro l pre x a' W hl ⟨r, hr⟩ ⟨⟨v, bv, hR⟩, hC⟩ rfl hlt2
          have g0 : W.cell? ⟨w.heap.size, 0, none⟩ = some (.int .i64 lb1) := blk_cell ((hC.block _ (blk_lt (J9.out.box (w.heap.size, .cells #[.int .i64 lb1] 3 (0, 0)) (by simp))) (by omega)).trans (J9.out.box (w.heap.size, .cells #[.int .i64 lb1] 3 (0, 0)) (by simp))) 0
          have bvc := Boxed.cell bv
          have bvf := Boxed.frozen bv
          have hsn := filO_snoc lb1 pre x
          have hfl := filO_len lb1 pre
          have hss := Lib.hid hs9.out
          have hl9 : L.length ≤ 100 := by have := hL.out; omega
          obtain ⟨x0, x1⟩ := x
          dsimp only at *
          obtain ⟨A, c, rfl⟩ := Kd.R_slice hR
          by_cases hx : x0 = lb1
          · have z : (x0 != lb1) = false := by simp [hx]
            rw [if_pos hx] at hsn
            have hS2 : SomeI Y w9.heap.size (filO lb1 (pre ++ [⟨x0, x1⟩])) W := by rw [hsn]; exact ⟨_, bv, hR⟩
            replace hS2 := Aside0.mk hS2
            clear hx hsn
            gi_wp2
            exact ⟨KeepsFrom.refl _ _, fun _ _ => rfl, hS2.out, hC⟩
          · have z : (x0 != lb1) = true := by simpa using hx
            rw [if_neg hx] at hsn
            replace hsn := Lib.hid hsn
            clear hx
            gi_wp2_with (gi_at_builtin; refine R_append_in (P := Try.prog) (Kd.int .i64) w9.heap.size (by rfl) (.tmp 53) (.tmp 55) 38 3 (.int .i64 0) 8 (by rfl) (by kernel_rfl) (by kernel_rfl) rfl (by decide) (by decide) (.slice A (filO lb1 pre).length c) (filO lb1 pre) x0 [.int .i64 x0] (fun k => k ≠ Y) (fun _ => False) (by rfl) (by rfl) rfl (fun _ hk => hk.elim) (fun q hq => by have := hC.size; have := hss.out; omega) hR hC.size (by omega) ?_; intro v1 w1 ho hg hat; have hb1 : Boxed w1 Y 38 (.slice A (filO lb1 pre).length c) := bv.kept hg (fun e => (hR.1 _ e.symm) rfl); have hg1 := Aside0.mk hg; have ho1 := Aside0.mk ho; have e1 := Boxed.cell hb1; have f1 := Boxed.frozen hb1; clear ho hg hat; (obtain ⟨A1, c1, rfl⟩ := Kd.R_slice ho1.out))
            have ho2 := ho1.out
            rw [List.length_append, List.length_singleton] at ho2
            have hrd := SomeI.round (fun k h => ⟨by have := (hTB k h).1; have := hss.out; omega, (hTB k h).2⟩) hC bv hR hg1.out ho2 (by have := hss.out; omega)
            rw [← hsn.out] at hrd
            exact hrd
        case done =>
          rintro DD xs W hD rfl ⟨⟨v, bv, hR⟩, hC⟩ hK
          have J10 := Aside0.mk (J9.out.skip hC (fun x hx => by rw [List.mem_singleton.1 hx]; dsimp only; omega) (by dsimp only; omega))
          have hR10 := Aside0.mk hR
          have bv10 := Aside0.mk bv
          have hK10 := Lib.hid hK
          have hD10 := Lib.hid hD
          have hs10 := Lib.hid hC.size
          have g0 : W.cell? ⟨w.heap.size, 0, none⟩ = some (.int .i64 lb1) := blk_cell J10.out.head 0
          have hYn := Aside0.mk (J9.out.xb (Y, .cells #[.slice none 0 0] 38 (0, 0)) List.mem_cons_self)
          clear bv hR hC hK hD J9 hTB
          obtain ⟨A1, c1, rfl⟩ := Kd.R_slice hR10.out
          obtain ⟨bq, hbq1, hbq2⟩ := R_box hR10.out
          have hLs : ∀ k, LB P M L k → k < w9.heap.size := fun k hk => hD9.out.lt k hk
          have J10' := Aside0.mk (J10.out.more ((Y, .cells #[.slice A1 (filO lb1 (absL L)).length c1] 38 (0, 0)) :: (DD, .deferred (some [])) :: bq) (fun q hq => by
            rcases List.mem_cons.1 hq with rfl | hq
            · exact ⟨bv10.out, hYn.out, by simp [Value.ownBlock]⟩
            · rcases List.mem_cons.1 hq with rfl | hq
              · exact ⟨hK10.out, fun h => by have := hLs _ h; have := hD10.out; omega, by simp [Value.ownBlock]⟩
              · exact ⟨(hbq1 q hq).1, fun h => by have := hLs _ h; have := (hbq1 q hq).2.1; omega, by simp [Value.ownBlock]⟩))
          clear J10
          have hbq := Aside0.mk (And.intro hbq1 hbq2)
          clear hbq1 hbq2 hLs
          have q := Lib.hid (JL.peek_any J10' lb1 hwf.out)
          have hmb : ∀ q, q ∈ bq → q ∈ (((Y, Obj.cells #[.slice A1 (filO lb1 (absL L)).length c1] 38 (0, 0)) :: (DD, Obj.deferred (some [])) :: bq) ++ [(w.heap.size, Obj.cells #[.int .i64 lb1] 3 (0, 0))]) := fun q hq => by simp [hq]
          have hm1 : (w.heap.size, Obj.cells #[.int .i64 lb1] 3 (0, 0)) ∈ (((Y, Obj.cells #[.slice A1 (filO lb1 (absL L)).length c1] 38 (0, 0)) :: (DD, Obj.deferred (some [])) :: bq) ++ [(w.heap.size, Obj.cells #[.int .i64 lb1] 3 (0, 0))]) := by simp
          have hm2 : (Y, Obj.cells #[.slice A1 (filO lb1 (absL L)).length c1] 38 (0, 0)) ∈ (((Y, Obj.cells #[.slice A1 (filO lb1 (absL L)).length c1] 38 (0, 0)) :: (DD, Obj.deferred (some [])) :: bq) ++ [(w.heap.size, Obj.cells #[.int .i64 lb1] 3 (0, 0))]) := by simp
          have hm3 : (DD, Obj.deferred (some [])) ∈ (((Y, Obj.cells #[.slice A1 (filO lb1 (absL L)).length c1] 38 (0, 0)) :: (DD, Obj.deferred (some [])) :: bq) ++ [(w.heap.size, Obj.cells #[.int .i64 lb1] 3 (0, 0))]) := by simp
          replace hmb := Aside0.mk hmb
          replace hm1 := Aside0.mk hm1
          replace hm2 := Aside0.mk hm2
          replace hm3 := Aside0.mk hm3
          generalize (((Y, Obj.cells #[.slice A1 (filO lb1 (absL L)).length c1] 38 (0, 0)) :: (DD, Obj.deferred (some [])) :: bq) ++ [(w.heap.size, Obj.cells #[.int .i64 lb1] 3 (0, 0))]) = BX at *
          gi_wp2_with fail
          refine ⟨trivial, (callsIn_wide.2 q.out).mono ?_⟩
          rintro e w11 ⟨s11, rfl, J11⟩
          replace J11 := Aside0.mk J11
          clear q J10' g0
          have g0 : w11.cell? ⟨w.heap.size, 0, none⟩ = some (.int .i64 lb1) := blk_cell (show w11.heap[w.heap.size]? = some (.cells #[.int .i64 lb1] 3 (0, 0)) from J11.out.box (w.heap.size, .cells #[.int .i64 lb1] 3 (0, 0)) hm1.out) 0
          have q := Lib.hid (JL.drop_any J11 lb1 hwf.out)
          generalize hasE L lb1 = hb at *
          gi_wp2_with fail
          refine ⟨trivial, (callsIn_wide.2 q.out).mono ?_⟩
          rintro e w12 ⟨rfl, ⟨L2, hL2, hn2, hle2, J12⟩⟩
          replace J12 := Aside0.mk J12
          clear q J11 g0
          have g0 : w12.cell? ⟨w.heap.size, 0, none⟩ = some (.int .i64 lb1) := blk_cell (show w12.heap[w.heap.size]? = some (.cells #[.int .i64 lb1] 3 (0, 0)) from J12.out.box (w.heap.size, .cells #[.int .i64 lb1] 3 (0, 0)) hm1.out) 0
          have q := JL.drop_any J12 lb1 hwf.out
          rw [hn2] at q
          replace q := Lib.hid q
          have hLL := Lib.hid (And.intro hL2 hle2)
          clear hL2 hle2 hn2
          gi_wp2_with fail
          refine ⟨trivial, (callsIn_wide.2 q.out).mono ?_⟩
          rintro e w13 ⟨rfl, ⟨L3, hL3, hn3, hle3, J13⟩⟩
          replace J13 := Aside0.mk J13
          clear q J12 g0
          have hLs : ∀ q ∈ BX, q.1 < w13.heap.size := fun q hq => blk_lt (J13.out.box q hq)
          have J14 := J13.out.push (.cells #[.slice none 0 0] 38)
          have hs14 : (w13.alloc (.cells #[.slice none 0 0] 38)).heap.size = w13.heap.size + 1 := by simp
          have hs15 : ((w13.alloc (.cells #[.slice none 0 0] 38)).alloc (.cells #[.pointer (some ⟨P, 0, none⟩)] 25)).heap.size = w13.heap.size + 1 + 1 := by simp
          have B15 := Boxed.new (w13.alloc (.cells #[.slice none 0 0] 38)) 25 (.pointer (some ⟨P, 0, none⟩))
          rw [hs14] at B15
          have J15 := Aside0.mk (J14.alloc (.cells #[.pointer (some ⟨P, 0, none⟩)] 25))
          have hall := Lib.hid fun w' => all_calls P w'
          have hww := J13.out.bel.size
          replace hLs := Lib.hid hLs
          replace B15 := Aside0.mk B15
          replace hs15 := Lib.hid hs15
          clear J14 J13
          gi_wp2_with fail
          refine ⟨trivial, (callsIn_wide.2 (hall.out _)).mono ?_⟩
          rintro e w15 ⟨rfl, rfl⟩
          rw [hs14]
          clear hs14 hall
          generalize (w13.alloc (.cells #[.slice none 0 0] 38)).alloc (.cells #[.pointer (some ⟨P, 0, none⟩)] 25) = w15 at *
          generalize w13.heap.size = Y2 at *
          gi_wp2_with fail
          have hTB2 : ∀ k, TB P M L3 (Y2 + 1) k → k < Y2 + 2 ∧ k ≠ Y2 := by
            obtain ⟨D9, hD9⟩ := J15.out.lat
            rintro k (h | h)
            · refine ⟨by have := hD9.lt k h; have := hs15.out; omega, fun e => J15.out.xb (Y2, .cells #[.slice none 0 0] 38 (0, 0)) List.mem_cons_self (e ▸ h)⟩
            · omega
          obtain ⟨D15, hD15⟩ := J15.out.lat
          replace hD15 := Aside0.mk hD15
          have hl3 : L3.length ≤ 100 := by have := hL.out; have := hLL.out.2; omega
          refine wpIn_rangeFunc_ownH rfl (by decide) (gf := 21) (lb := #[.pointer (some ⟨Y2 + 1, 0, none⟩)]) rfl trivial (enters_of Try.func21 (by kernel_rfl) rfl)
            (iter_stops w.heap.size 8 0 0 L3 P M D15 (Y2 + 1) w15 B15.out hD15.out) same_t (same_b (fun k h => by have := (hTB2 k h).1; have := hs15.out; omega)) (Below.refl _ _) (fun _ => rfl)
            (fun pre W => SomeI Y2 w15.heap.size (pre.map (·.f0)) W ∧ Ch (fun k => k = Y2) w15 W)
            (fun c pre1 W => False)
            (OwnFrom.and (SomeI.own _ _ _ (fun pre : List S61 => pre.map (·.f0))) (ch_own _ _ _ (Nat.le_refl _)))
            (fun c _ _ _ _ h _ _ => h)
            ⟨⟨_, J15.out.head, Kd.R_nil _ _ _ _ _⟩, Ch.refl _ _⟩
            (fun x a' W => a' = { tmps := #[.slice a0 zs.length c0, .int .i64 lb, undef, .pointer (some ⟨w.heap.size, 0, none⟩), .bool false, .pointer (some ⟨P, 0, none⟩), .int .i64 0, undef, u8, .pointer (some ⟨Y, 0, none⟩), undef, .string s11, .bool hb, .pointer (some ⟨Y2, 0, none⟩), .int .i64 x.f0, .bool true, .bool false, .tuple #[.pointer (some ⟨P, 0, none⟩), .int .i64 0], .tuple #[.pointer (some ⟨P, 0, none⟩), .int .i64 0], .pointer (some ⟨P, 0, none⟩), .int .i64 0, .pointer (some ⟨P, 0, none⟩), .bool false, .bool false, .slice a0 zs.length c0, .int .i64 zs.length, .bool false, .bool false, undef, undef, .slice a0 zs.length c0, .int .i64 zs.length, .int .i64 zs.length, .bool false, u34, u35, u36, u37, u38, u39, u40, u41, u42, u43, .int .i64 lb, .int .i64 lb1, .pointer (some ⟨P, 0, none⟩), .func (.func 21) #[] #[.pointer (some ⟨Y + 1, 0, none⟩)], undef, undef, undef, undef, undef, undef, undef, undef, undef, .tuple #[.string s11, .bool hb], .pointer (some ⟨P, 0, none⟩), .int .i64 lb1, .tuple #[.string s11, .bool hb], .string s11, .bool hb, .pointer (some ⟨P, 0, none⟩), .int .i64 lb1, .bool hb, .bool hb, .bool false, .bool false, .pointer (some ⟨P, 0, none⟩), .int .i64 lb1, .bool false, .bool false, .pointer (some ⟨P, 0, none⟩), .func (.func 21) #[] #[.pointer (some ⟨Y2 + 1, 0, none⟩)], .int .i64 x.f0, .string x.f1, undef, undef, undef, undef, undef, undef, undef], defers := [] })
            (fun x a' _ W W' row hs hg hr => hs)
            ?assign2 ?body2 ?done2 ?stop2
          case assign2 =>
            rintro l pre x W K ⟨hS, hC⟩ hK
            unfold encS
            gi_wp2
            exact hK _ _ (KeepsFrom.refl _ _) (fun _ _ => rfl) ⟨hS, hC⟩ rfl
          case body2 =>
            rintro l pre x a' W hl ⟨r, hr⟩ ⟨⟨v, bv, hR⟩, hC⟩ rfl hlt2
            have bvc := Boxed.cell bv
            have bvf := Boxed.frozen bv
            have hss := Lib.hid hs15.out
            obtain ⟨x0, x1⟩ := x
            dsimp only at *
            obtain ⟨pm, hpm⟩ : ∃ pm, Aside0 (pre.map (·.f0) = pm) := ⟨_, ⟨rfl⟩⟩
            have hpl : pm.length = pre.length := by rw [← hpm.out, List.length_map]
            rw [hpm.out] at hR
            obtain ⟨A, c, rfl⟩ := Kd.R_slice hR
            replace hpl := Lib.hid hpl
            gi_wp2_with (gi_at_builtin; refine R_append_in (P := Try.prog) (Kd.int .i64) w15.heap.size (by rfl) (.tmp 77) (.tmp 79) 38 3 (.int .i64 0) 8 (by rfl) (by kernel_rfl) (by kernel_rfl) rfl (by decide) (by decide) (.slice A pm.length c) pm x0 [.int .i64 x0] (fun k => k ≠ Y2) (fun _ => False) (by rfl) (by rfl) rfl (fun _ hk => hk.elim) (fun q hq => by have := hC.size; have := hss.out; omega) hR hC.size (by have := hpl.out; omega) ?_; intro v1 w1 ho hg hat; have hb1 : Boxed w1 Y2 38 (.slice A pm.length c) := bv.kept hg (fun e => (hR.1 _ e.symm) rfl); have hg1 := Aside0.mk hg; have ho1 := Aside0.mk ho; have e1 := Boxed.cell hb1; have f1 := Boxed.frozen hb1; clear ho hg hat; (obtain ⟨A2, c2, rfl⟩ := Kd.R_slice ho1.out))
            have ho2 := ho1.out
            rw [List.length_append, List.length_singleton] at ho2
            have hrd := SomeI.round (fun k h => ⟨by have := (hTB2 k h).1; have := hss.out; omega, (hTB2 k h).2⟩) hC bv hR hg1.out ho2 (by have := hss.out; omega)
            have hpe : (pre ++ [(⟨x0, x1⟩ : S61)]).map (·.f0) = pm ++ [x0] := by rw [List.map_append, hpm.out]; rfl
            rw [← hpe] at hrd
            exact hrd
          case done2 =>
            rintro D2 xs W2 hD2 rfl ⟨⟨v2, bv2, hR2⟩, hC2⟩ hK2
            have J20 := Aside0.mk (J15.out.skip hC2 (fun x hx => by have := hLs.out x hx; dsimp only; omega) (by dsimp only; omega))
            have hR1 := R_unbox hR10.out (fun q hq => (hbq.out.1 q hq).1) hbq.out.2 (fun q hq => J20.out.box q (hmb.out q hq))
            have heq : filO lb1 (absL L) = (absL L3).map (·.f0) := by unfold filO; rw [hL3, hLL.out.1]; exact fil_out _ _
            have hll : ((absL L3).map (·.f0)).length ≤ 100000 := by rw [List.length_map, absL_len]; omega
            have hv0 : W2.cell? ⟨Y, 0, none⟩ = some (.slice A1 (filO lb1 (absL L)).length c1) := blk_cell (show W2.heap[Y]? = some (.cells #[.slice A1 (filO lb1 (absL L)).length c1] 38 (0, 0)) from J20.out.box (Y, .cells #[.slice A1 (filO lb1 (absL L)).length c1] 38 (0, 0)) hm2.out) 0
            generalize (absL L3).map (·.f0) = l2 at heq hR2 hll
            rw [heq] at hv0 hR1
            obtain ⟨A2, c2, rfl⟩ := Kd.R_slice hR2
            have hv1 : W2.cell? ⟨Y2, 0, none⟩ = some (.slice A2 l2.length c2) := Boxed.cell bv2
            have hsm := same_calls3 hR1 hR2 rfl hll
            clear heq hll
            have hKD2 := Lib.hid (show W2.heap[DD]? = some (.deferred (some [])) from J20.out.box (DD, .deferred (some [])) hm3.out)
            have hDs := Lib.hid (show DD < D2 by have := hLs.out (DD, .deferred (some [])) hm3.out; have := hs15.out; dsimp only at *; omega)
            replace hK2 := Lib.hid hK2
            replace hsm := Lib.hid hsm
            have hwd := Lib.hid (show w.heap.size ≤ DD by have := hD10.out; have := hs9.out; omega)
            clear bv2 hR2 hC2 hR1 J15 hD2
            gi_wp2_with fail
            refine ⟨trivial, ?_⟩
            with_reducible refine (callsIn_wide.2 hsm.out).mono ?_
            rintro e w20 ⟨rfl, ⟨⟨nn, rfl⟩⟩⟩
            have K2 : (W2.drewN nn).heap[D2]? = some (.deferred (some [])) := hK2.out
            have K1 : (W2.drewN nn).heap[DD]? = some (.deferred (some [])) := hKD2.out
            have hB20 : Below w.heap.size w (W2.drewN nn) := J20.out.bel.trans (pw_below_drewN (Below.refl _ _) nn)
            replace hB20 := Aside0.mk hB20
            replace K1 := Aside0.mk K1
            replace K2 := Aside0.mk K2
            clear hsm hv0 hv1
            generalize W2.drewN nn = W3 at *
            gi_wp2
            have K1' : (W3.putObj D2 (.deferred none)).heap[DD]? = some (.deferred (some [])) := ((grownBy_putObj' W3 D2 (.deferred none)).block DD (blk_lt K1.out) (fun e => by have := Option.some.inj e; have := hDs.out; omega)).trans K1.out
            have hBa : Below w.heap.size W3 (W3.putObj D2 (.deferred none)) := belowK_b (w := w) (Nat.le_refl _) W3 D2 _ _ (by have := hDs.out; have := hwd.out; omega) K2.out rfl rfl
            have hBb : Below w.heap.size (W3.putObj D2 (.deferred none)) ((W3.putObj D2 (.deferred none)).putObj DD (.deferred none)) := belowK_b (w := w) (Nat.le_refl _) _ DD _ _ hwd.out K1' rfl rfl
            refine ⟨by simp, .inl ⟨_, _, rfl, run_takeDeferred K2.out, ?_⟩⟩
            refine ⟨by simp, .inl ⟨_, _, rfl, run_takeDeferred K1', ?_⟩⟩
            exact ⟨_, results_tmp rfl _ _ _, rfl, (hB20.out.trans hBa).trans hBb⟩
          case stop2 =>
            rintro D c pre1 W hD hpre h hK
            exact h.elim
        case stop =>
          rintro D c pre1 W hD hpre h hK
          exact h.elim
  · have z1 : decide ((zs.length : Int) > 100) = true := decide_eq_true (by omega)
    have z2 : decide (100 < zs.length) = true := decide_eq_true (by omega)
    have z3 : decide ((100 : Int) < (zs.length : Int)) = true := decide_eq_true (by omega)
    gi_wp2
    exact ⟨_, results_tmp rfl _ _ _, rfl, J3.out.bel⟩
end Go.Proofs.Ytilephiplfigpaa.PQ
