/- The document's Cut, walked. -/
import Derived.Test.YtmpfadiehakcgaaRef2
namespace Go.Proofs.Ytmpfadiehakcgaa.PQ
open Go.RowKit Go.Proofs.YtmpfadiehakcgaaW.PrintWords Go.Proofs.YtmpfadiehakcgaaW.PrintLast Go.Proofs.YtmpfadiehakcgaaW.PrintMore
set_option linter.unusedVariables false
set_option linter.unusedSimpArgs false
section
variable {up : Nat} {v1 v2 : Value} {l1 : List ByteArray} {l2 : List S69} {g : G6} {w w' w0 : World}
theorem rmay (H : Aside0 (RAt up v1 v2 l1 l2 w)) (a : Int) (s : ByteArray) (hl2 : l2.length ≤ 100000) :
    Calls Try.prog 20 #[encD g v1 v2, .int .i64 a, .string s] w fun e w' => e = .returned (.bool (mayL l2 a s)) ∧ Below w.heap.size w w' := by
  obtain ⟨A1, c1, rfl⟩ := Kd.R_slice H.out.r1
  obtain ⟨A2, c2, rfl⟩ := Kd.R_slice H.out.r2
  exact deckleref32_May.calls (l2.length + 1) g.f0 g.f1 g.f2 g.f3 g.f4 g.f5 A1 c1 l1 A2 c2 l2 a s _ w (Kd.R_reads' H.out.r1).2.2 (Kd.R_reads' H.out.r1).2.1 (Kd.R_reads' H.out.r2).2.2 (Kd.R_reads' H.out.r2).2.1 (may_pure g l1 l2 a s hl2)
set_option maxHeartbeats 8000000 in
set_option maxRecDepth 100000 in
theorem rcut_len (H : Aside0 (RAt up v1 v2 l1 l2 w)) (A : Option Addr) (c : Nat) (l : List ByteArray) (hl : l.length ≠ l1.length) :
    Calls Try.prog 17 #[encD g v1 v2, .slice A l.length c] w fun e w' => e = .returned (.tuple #[encD g v1 v2, .int .i64 4]) ∧ Below w.heap.size w w' := by
  obtain ⟨A1, c1, rfl⟩ := Kd.R_slice H.out.r1
  obtain ⟨A2, c2, rfl⟩ := Kd.R_slice H.out.r2
  have hu32 := Try.underlying32
  have hB := Aside0.mk (((Below.refl w.heap.size w).alloc (Nat.le_refl _) (boxD g (.slice A1 l1.length c1) (.slice A2 l2.length c2))).alloc (by rw [World.size_alloc]; omega) zeroD)
  have hb3 := blk_alloc (heap_alloc_new w (boxD g (.slice A1 l1.length c1) (.slice A2 l2.length c2))) zeroD
  have hb6 := heap_alloc_new (w.alloc (boxD g (.slice A1 l1.length c1) (.slice A2 l2.length c2))) zeroD
  rw [World.size_alloc] at hb6
  have z : ((l.length : Int) != (l1.length : Int)) = true := by rw [bne_iff_ne]; omega
  clear H hl
  unfold encD
  unfold boxD zeroD at *
  go_enter Try.func17, Try.ntmps17
  go_upto_region 1 with (fail)
  obtain ⟨d0, d1, d2, d3, d4, d5, d6, d7⟩ := cells8 hb3
  obtain ⟨e0, e1, e2, e3, e4, e5, e6, e7⟩ := cells8 hb6
  obtain ⟨f0, f1, f2, f3, f4, f5, f6, f7⟩ := frozen8 hb6
  replace hb6 := Aside0.mk hb6
  replace hb3 := Aside0.mk hb3
  generalize (w.alloc (.cells #[.int .i64 g.f0, .int .i64 g.f1, .int .i64 g.f2, .int .i64 g.f3, .int .i64 g.f4, .int .i64 g.f5, .slice A1 l1.length c1, .slice A2 l2.length c2] 32)).alloc (.cells #[.int .i64 0, .int .i64 0, .int .i64 0, .int .i64 0, .int .i64 0, .int .i64 0, .slice none 0 0, .slice none 0 0] 32) = W2 at *
  go_wp2
  refine bodyPost_ret (v := .tuple #[.agg #[.int .i64 g.f0, .int .i64 g.f1, .int .i64 g.f2, .int .i64 g.f3, .int .i64 g.f4, .int .i64 g.f5, .slice A1 l1.length c1, .slice A2 l2.length c2], .int .i64 4]) ?_ rfl ?_
  · exact results_list (rs := [.cell 4 32, .tmp 5]) rfl (by simp) (.cell (w.heap.size + 1) 32 #[.int .i64 g.f0, .int .i64 g.f1, .int .i64 g.f2, .int .i64 g.f3, .int .i64 g.f4, .int .i64 g.f5, .slice A1 l1.length c1, .slice A2 l2.length c2] (0, 0) _ rfl (put8_at hb6.out) hu32 rfl (by kernel_rfl) (.tmp .nil))
  · exact ⟨rfl, put8_below hB.out (by omega)⟩
/-- What becomes of the document's cut. -/
def RCut (l1 l : List ByteArray) (l2 : List S69) (r : Int) (l1' : List ByteArray) (l2' : List S69) : Prop :=
  (r = 5 ∧ l1' = l1 ∧ l2' = l2 ∧ ∃ i : Nat, i < l.length ∧ mayL l2 (i : Int) (sd l i) = false) ∨ (r = 0 ∧ l1' = l ∧ l2' = evOf l l.length ∧ ∀ i : Nat, i < l.length → mayL l2 (i : Int) (sd l i) = true)
set_option maxHeartbeats 8000000 in
set_option maxRecDepth 100000 in
theorem rcut (hB0 : Aside0 (Below w0.heap.size w0 w)) (h0 : w0.heap.size ≤ up) (H : Aside0 (RAt up v1 v2 l1 l2 w)) (A : Option Addr) (c : Nat) (l : List ByteArray) (hl : l.length = l1.length) (hr : Aside0 (Kd.C Kd.string w A l.length l)) (hl1 : l1.length ≤ 5000) (hl2 : l2.length ≤ 100000) :
    Calls Try.prog 17 #[encD g v1 v2, .slice A l.length c] w fun e w' => ∃ (r : Int) (v1' v2' : Value) (l1' : List ByteArray) (l2' : List S69), e = .returned (.tuple #[encD g v1' v2', .int .i64 r]) ∧ Aside0 (RAt up v1' v2' l1' l2' w') ∧ Below w.heap.size w w' ∧ Aside0 (RCut l1 l l2 r l1' l2') := by
  obtain ⟨A1, c1, rfl⟩ := Kd.R_slice H.out.r1
  obtain ⟨A2, c2, rfl⟩ := Kd.R_slice H.out.r2
  have hu32 := Try.underlying32
  have hB := Aside0.mk (((Below.refl w.heap.size w).alloc (Nat.le_refl _) (boxD g (.slice A1 l1.length c1) (.slice A2 l2.length c2))).alloc (by rw [World.size_alloc]; omega) zeroD)
  have hb3 := blk_alloc (heap_alloc_new w (boxD g (.slice A1 l1.length c1) (.slice A2 l2.length c2))) zeroD
  have hb6 := heap_alloc_new (w.alloc (boxD g (.slice A1 l1.length c1) (.slice A2 l2.length c2))) zeroD
  rw [World.size_alloc] at hb6
  have hll : l.length ≤ 5000 := by omega
  have z : ((l.length : Int) != (l1.length : Int)) = false := by rw [bne_eq_false_iff_eq]; omega
  have q20 := Lib.hid (fun (i : Nat) (w' : World) (hb : Below w.heap.size w w') => rmay (g := g) (Aside0.mk (H.out.below hb)) (i : Int) (sd l i) hl2)
  have hRA := Lib.hid (fun (w' : World) (hb : Below w.heap.size w w') => H.out.below hb)
  clear H hl
  unfold encD
  unfold boxD zeroD at *
  go_enter Try.func17, Try.ntmps17
  go_upto_region 1 with (fail)
  obtain ⟨d0, d1, d2, d3, d4, d5, d6, d7⟩ := cells8 hb3
  obtain ⟨e0, e1, e2, e3, e4, e5, e6, e7⟩ := cells8 hb6
  obtain ⟨f0, f1, f2, f3, f4, f5, f6, f7⟩ := frozen8 hb6
  replace hb6 := Aside0.mk hb6
  replace hb3 := Aside0.mk hb3
  generalize (w.alloc (.cells #[.int .i64 g.f0, .int .i64 g.f1, .int .i64 g.f2, .int .i64 g.f3, .int .i64 g.f4, .int .i64 g.f5, .slice A1 l1.length c1, .slice A2 l2.length c2] 32)).alloc (.cells #[.int .i64 0, .int .i64 0, .int .i64 0, .int .i64 0, .int .i64 0, .int .i64 0, .slice none 0 0, .slice none 0 0] 32) = W2 at *
  have z' := z
  go_upto_region 3 with (fail)
  clear d0 d1 d2 d3 d4 d5 d6 d7 e0 e1 e2 e3 e4 e5 e6 e7 f0 f1 f2 f3 f4 f5 f6 f7
  go_wp2
  go_loopw [6] (fun y wr => ∃ k : Nat, k ≤ l.length ∧ y = .int .i64 (k : Int) ∧ Aside0 (Below w.heap.size w wr) ∧ Aside0 (Below W2.heap.size W2 wr) ∧ Aside0 (∀ i : Nat, i < k → mayL l2 (i : Int) (sd l i) = true)) (fun y _ => l.length - (intOf y).toNat)
  case atStart => exact ⟨0, Nat.zero_le _, rfl, hB, ⟨Below.refl _ _⟩, ⟨fun i hi => absurd hi (Nat.not_lt_zero i)⟩⟩
  case round =>
    obtain ⟨k, hk, rfl, HB, HB2, HJ⟩ := hrel
    have hx3 := blk_below hb3.out HB2.out
    have hx6 := blk_below hb6.out HB2.out
    by_cases hlt : k < l.length
    · have yk : decide ((k : Int) < (l.length : Int)) = true := decide_eq_true (by omega)
      obtain ⟨ad, rfl, dk⟩ := at_str (Kd.C_below hr.out HB.out) k hlt
      obtain ⟨d0, d1, d2, d3, d4, d5, d6, d7⟩ := cells8 hx3
      have q := Lib.hid (q20.out k wr.drew (below_drew HB.out))
      generalize hb : mayL l2 (k : Int) (sd l k) = b at *
      replace hb := Lib.hid hb
      generalize hsk : sd l k = sk at *
      replace hsk := Lib.hid hsk
      unfold encD at q
      replace hx3 := Aside0.mk hx3
      replace hx6 := Aside0.mk hx6
      go_upto_region 6 with (fail)
      go_cut [29] (fun y wx => y = .bool (!b) ∧ Aside0 (Below wr.heap.size wr wx))
      case first =>
        go_wp2_with fail
        go_region_with (go_at_call 20; refine q.out.mono ?_; rintro e w4 ⟨rfl, hb4⟩)
        all_goals
          go_wp2
          go_meet
          exact ⟨rfl, ⟨(below_drew (Below.refl _ _)).trans hb4⟩⟩
      case rest =>
        obtain ⟨rfl, hb4⟩ := hcut
        have hy3 := Aside0.mk (blk_below hx3.out hb4.out)
        have hy6 := Aside0.mk (blk_below hx6.out hb4.out)
        have HB4 := Aside0.mk (HB.out.trans (hb4.out.mono HB.out.size))
        have HB24 := Aside0.mk (HB2.out.trans (hb4.out.mono HB2.out.size))
        clear hx3 hx6 d0 d1 d2 d3 d4 d5 d6 d7 dk hb4 q
        cases b with
        | false =>
          obtain ⟨d0, d1, d2, d3, d4, d5, d6, d7⟩ := cells8 hy3.out
          obtain ⟨e0, e1, e2, e3, e4, e5, e6, e7⟩ := cells8 hy6.out
          obtain ⟨f0, f1, f2, f3, f4, f5, f6, f7⟩ := frozen8 hy6.out
          go_wp2
          refine bodyPost_ret (v := .tuple #[.agg #[.int .i64 g.f0, .int .i64 g.f1, .int .i64 g.f2, .int .i64 g.f3, .int .i64 g.f4, .int .i64 g.f5, .slice A1 l1.length c1, .slice A2 l2.length c2], .int .i64 5]) ?_ rfl ?_
          · exact results_list (rs := [.cell 4 32, .tmp 5]) rfl (by simp) (.cell (w.heap.size + 1) 32 #[.int .i64 g.f0, .int .i64 g.f1, .int .i64 g.f2, .int .i64 g.f3, .int .i64 g.f4, .int .i64 g.f5, .slice A1 l1.length c1, .slice A2 l2.length c2] (0, 0) _ rfl (put8_at hy6.out) hu32 rfl (by kernel_rfl) (.tmp .nil))
          · exact ⟨5, _, _, l1, l2, rfl, ⟨(hRA.out _ HB4.out).put8 hy6.out⟩, put8_below HB4.out (by omega), ⟨.inl ⟨rfl, rfl, rfl, k, hlt, by rw [hsk.out]; exact hb.out⟩⟩⟩
        | true =>
          go_wp2
          go_roundw
          case rel =>
            refine ⟨k + 1, by omega, rfl, HB4, HB24, ⟨fun i hi => ?_⟩⟩
            by_cases hik : i < k
            · exact HJ.out i hik
            · obtain rfl : i = k := by omega
              rw [hsk.out]
              exact hb.out
          case measure => (simp [intOf]; omega)
    · obtain rfl : k = l.length := by omega
      have yk : decide ((l.length : Int) < (l.length : Int)) = false := decide_eq_false (by omega)
      obtain ⟨d0, d1, d2, d3, d4, d5, d6, d7⟩ := cells8 hx3
      have hall := HJ
      clear HJ
      replace hx3 := Aside0.mk hx3
      replace hx6 := Aside0.mk hx6
      go_upto_region 9 with (fail)
      have hq7 := heap_alloc_new wr (.cells #[.int .i64 g.f0, .int .i64 g.f1, .int .i64 g.f2, .int .i64 g.f3, .int .i64 g.f4, .int .i64 g.f5, .slice A1 l1.length c1, .slice A2 l2.length c2] 32)
      have hq6 := Aside0.mk (blk_alloc hx6.out (.cells #[.int .i64 g.f0, .int .i64 g.f1, .int .i64 g.f2, .int .i64 g.f3, .int .i64 g.f4, .int .i64 g.f5, .slice A1 l1.length c1, .slice A2 l2.length c2] 32))
      have HB7 := Aside0.mk (HB.out.alloc HB.out.size (.cells #[.int .i64 g.f0, .int .i64 g.f1, .int .i64 g.f2, .int .i64 g.f3, .int .i64 g.f4, .int .i64 g.f5, .slice A1 l1.length c1, .slice A2 l2.length c2] 32))
      have hX := Lib.hid (show w.heap.size ≤ wr.heap.size ∧ w.heap.size + 1 < wr.heap.size from ⟨HB.out.size, blk_lt hx6.out⟩)
      clear hx3 hx6 d0 d1 d2 d3 d4 d5 d6 d7 HB HB2 hb3 hb6 hB
      generalize wr.alloc (.cells #[.int .i64 g.f0, .int .i64 g.f1, .int .i64 g.f2, .int .i64 g.f3, .int .i64 g.f4, .int .i64 g.f5, .slice A1 l1.length c1, .slice A2 l2.length c2] 32) = W7 at *
      generalize wr.heap.size = X7 at *
      have g6 : W7.cell? ⟨X7, 6, none⟩ = some (.slice A1 l1.length c1) := blk_cell hq7 6
      have k6 : W7.frozen? ⟨X7, 6, none⟩ = false := blk_frozen hq7 6
      replace hq7 := Aside0.mk hq7
      go_upto_region 10 with (fail)
      have hs7 := Aside0.mk (blk_put hq7.out 6 (.slice none 0 0) rfl)
      have hs6 := Aside0.mk ((Below.heap_setCell W7 ⟨X7, 6, none⟩ (.slice none 0 0) (w.heap.size + 1) (by show w.heap.size + 1 ≠ X7; have := hX.out; omega)).trans hq6.out)
      have HB8 := Aside0.mk (HB7.out.setCell (p := ⟨X7, 6, none⟩) hX.out.1 (.slice none 0 0))
      generalize W7.setCell ⟨X7, 6, none⟩ (.slice none 0 0) = W8 at *
      clear g6 k6 hq7 hq6 HB7
      go_wp2
      go_loopw [8] (fun y wr2 => ∃ (k : Nat) (v : Value), k ≤ l.length ∧ y = .int .i64 (k : Int) ∧ Aside0 (wr2.heap[X7]? = some (.cells #[.int .i64 g.f0, .int .i64 g.f1, .int .i64 g.f2, .int .i64 g.f3, .int .i64 g.f4, .int .i64 g.f5, v, .slice A2 l2.length c2] 32 (0, 0))) ∧ Aside0 (wr2.heap[w.heap.size + 1]? = some (.cells #[.int .i64 0, .int .i64 0, .int .i64 0, .int .i64 0, .int .i64 0, .int .i64 0, .slice none 0 0, .slice none 0 0] 32 (0, 0))) ∧ Aside0 (Kd.R Kd.string 9 wr2 w.heap.size (fun _ => True) v (l.take k)) ∧ Aside0 (Below w.heap.size w wr2)) (fun y _ => l.length - (intOf y).toNat)
      case atStart => exact ⟨0, _, Nat.zero_le _, rfl, hs7, hs6, ⟨Kd.R_nil _ _ _ _ _⟩, HB8⟩
      case round =>
        clear hs7 hs6 HB8
        obtain ⟨k, v, hk, rfl, hs7, hs6, HO, HB⟩ := hrel
        by_cases hlt : k < l.length
        · have yk2 : decide ((k : Int) < (l.length : Int)) = true := decide_eq_true (by omega)
          obtain ⟨ad, rfl, dk⟩ := at_str (Kd.C_below hr.out HB.out) k hlt
          have hsk : l.take (k + 1) = l.take k ++ [sd l k] := by rw [List.take_succ_eq_append_getElem hlt, sd_get hlt]
          replace hsk := Lib.hid hsk
          have hlen := Lib.hid (show ((l.take k).length + 1) * 16 ≤ 140737488355328 from by rw [List.length_take]; omega)
          have hlk := Lib.hid (show (l.take k).length = k from by rw [List.length_take]; omega)
          go_upto_block 3 with (fail)
          go_cut [8] (fun y wx => y = .int .i64 (k : Int) ∧ ∃ v' : Value, Aside0 (wx.heap[X7]? = some (.cells #[.int .i64 g.f0, .int .i64 g.f1, .int .i64 g.f2, .int .i64 g.f3, .int .i64 g.f4, .int .i64 g.f5, v', .slice A2 l2.length c2] 32 (0, 0))) ∧ Aside0 (wx.heap[w.heap.size + 1]? = some (.cells #[.int .i64 0, .int .i64 0, .int .i64 0, .int .i64 0, .int .i64 0, .int .i64 0, .slice none 0 0, .slice none 0 0] 32 (0, 0))) ∧ Aside0 (Kd.R Kd.string 9 wx w.heap.size (fun _ => True) v' (l.take (k + 1))) ∧ Aside0 (Below w.heap.size w wx))
          case first =>
            have g6 : wr.cell? ⟨X7, 6, none⟩ = some v := blk_cell hs7.out 6
            obtain ⟨sk, hse⟩ : ∃ s, sd l k = s := ⟨_, rfl⟩
            rw [hse] at dk
            replace hse := Lib.hid hse
            have g6a : (wr.alloc (.cells #[.string sk] 9)).cell? ⟨X7, 6, none⟩ = some v := blk_cell (blk_alloc hs7.out (.cells #[.string sk] 9)) 6
            have hRd := Aside0.mk (show Kd.R Kd.string 9 wr.drew w.heap.size (fun _ => True) v (l.take k) from HO.out)
            have hBd := Aside0.mk (below_drew HB.out)
            have hd7 := Aside0.mk (show wr.drew.heap[X7]? = some (.cells #[.int .i64 g.f0, .int .i64 g.f1, .int .i64 g.f2, .int .i64 g.f3, .int .i64 g.f4, .int .i64 g.f5, v, .slice A2 l2.length c2] 32 (0, 0)) from hs7.out)
            have hd6 := Aside0.mk (show wr.drew.heap[w.heap.size + 1]? = some (.cells #[.int .i64 0, .int .i64 0, .int .i64 0, .int .i64 0, .int .i64 0, .int .i64 0, .slice none 0 0, .slice none 0 0] 32 (0, 0)) from hs6.out)
            go_wp2_with fail
            go_region_law (first | (refine Kd.R_append_step (P := Try.prog) (w0 := w) (W := wr.drew) Kd.string w.heap.size (by rfl) (.tmp 40) (.tmp 45) 29 9 (.string ⟨#[]⟩) 16 (by rfl) Try.underlying29 info9 rfl (by decide) (by decide) v (l.take k) sk [.string sk] (fun _ => True) (fun _ => False) (by rfl) (by rfl) rfl (fun _ hk => hk.elim) (fun _ _ => trivial) hRd.out hBd.out hBd.out.size hlen.out ?_; intro v1 w1 ho hb hg hat; (obtain ⟨A9, c9, he⟩ := Kd.R_slice ho); rw [List.length_append, List.length_singleton, hlk.out] at he; subst he; have hy7 := blk_grown hd7.out hg (Kd.R_ne hRd.out hd7.out (by decide)); have hy6 := Aside0.mk (blk_grown hd6.out hg (Kd.R_ne hRd.out hd6.out (by decide))); have c6 : w1.cell? ⟨X7, 6, none⟩ = some v := blk_cell hy7 6; have f6 := blk_frozen hy7 6; replace hy7 := Aside0.mk hy7; replace ho := Aside0.mk ho; replace hb := Aside0.mk hb; clear hg hat))
            all_goals
              go_wp2
              go_meet
              refine ⟨rfl, .slice A9 (k + 1) c9, ⟨blk_put hy7.out 6 _ rfl⟩, ⟨(Below.heap_setCell _ _ _ _ (by show w.heap.size + 1 ≠ X7; have := hX.out; omega)).trans hy6.out⟩, ⟨?_⟩, ⟨hb.out.setCell (p := ⟨X7, 6, none⟩) hX.out.1 _⟩⟩
              rw [hsk.out, hse.out]
              exact Kd.R_set ho.out hy7.out (by decide) 6 _
          case rest =>
            obtain ⟨rfl, v', hs7, hs6, HO, HB⟩ := hcut
            go_wp2
            go_roundw
            case rel => exact ⟨k + 1, v', by omega, rfl, hs7, hs6, HO, HB⟩
            case measure => (simp [intOf]; omega)
        · obtain rfl : k = l.length := by omega
          have yk2 : decide ((l.length : Int) < (l.length : Int)) = false := decide_eq_false (by omega)
          rw [List.take_length] at HO
          obtain ⟨A9, c9, he⟩ := Kd.R_slice HO.out
          subst he
          have hlow := Lib.hid ((hRA.out w (Below.refl _ _)).hw)
          have HR := Aside0.mk (show RAt up (.slice A9 l.length c9) (.slice A2 l2.length c2) l l2 wr from ⟨Kd.R_lower HO.out hlow.out, (hRA.out wr HB.out).r2, Nat.le_trans hlow.out HB.out.size⟩)
          have q27 := Lib.hid (rflushed (g := g) (hB0.out.trans (HB.out.mono hB0.out.size)) h0 HR (by omega))
          have hne6 := Lib.hid (Kd.R_ne HO.out hs6.out (by decide))
          have hob := Lib.hid (fun b (hb : (Value.slice A9 l.length c9).ownBlock = some b) => (Kd.R_own HO.out).elim fun inner ho => own_base ho b hb)
          obtain ⟨d0, d1, d2, d3, d4, d5, d6, d7⟩ := cells8 hs7.out
          unfold encD at q27
          generalize hev : evOf l l.length = ev at *
          replace hev := Lib.hid hev
          clear HR HO
          go_wp2_with fail
          refine q27.out.mono ?_
          rintro e w4 ⟨v1', v2', rfl, HR4, hC4⟩
          obtain ⟨A5, c5, he⟩ := Kd.R_slice HR4.out.r1
          subst he
          obtain ⟨A6, c6, he⟩ := Kd.R_slice HR4.out.r2
          subst he
          have hz6 := (hC4.out.block _ (blk_lt hs6.out) (fun h => hne6.out h.symm)).trans hs6.out
          have HB9 := Aside0.mk (HB.out.trans (hC4.out.below HB.out.size (fun k hk => hob.out k hk)))
          clear d0 d1 d2 d3 d4 d5 d6 d7 hs7 hs6 HB q27 hC4 hob hne6
          obtain ⟨e0, e1, e2, e3, e4, e5, e6, e7⟩ := cells8 hz6
          obtain ⟨f0, f1, f2, f3, f4, f5, f6, f7⟩ := frozen8 hz6
          replace hz6 := Aside0.mk hz6
          go_wp2
          refine bodyPost_ret (v := .tuple #[.agg #[.int .i64 g.f0, .int .i64 g.f1, .int .i64 g.f2, .int .i64 g.f3, .int .i64 g.f4, .int .i64 g.f5, .slice A5 l.length c5, .slice A6 ev.length c6], .int .i64 0]) ?_ rfl ?_
          · exact results_list (rs := [.cell 4 32, .tmp 5]) rfl (by simp) (.cell (w.heap.size + 1) 32 #[.int .i64 g.f0, .int .i64 g.f1, .int .i64 g.f2, .int .i64 g.f3, .int .i64 g.f4, .int .i64 g.f5, .slice A5 l.length c5, .slice A6 ev.length c6] (0, 0) _ rfl (put8_at hz6.out) hu32 rfl (by kernel_rfl) (.tmp .nil))
          · exact ⟨0, _, _, l, ev, rfl, ⟨HR4.out.put8 hz6.out⟩, put8_below HB9.out (by omega), ⟨.inr ⟨rfl, rfl, hev.out.symm, fun i hi => hall.out i hi⟩⟩⟩
end
end Go.Proofs.Ytmpfadiehakcgaa.PQ
