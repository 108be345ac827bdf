/- The document's New, walked. -/
import Derived.Test.YtmpfadiehakcgaaRef3
namespace Go.Proofs.Ytmpfadiehakcgaa.PQ
open Go.RowKit Go.Proofs.YtmpfadiehakcgaaW.PrintWords Go.Proofs.YtmpfadiehakcgaaW.PrintLast Go.Proofs.YtmpfadiehakcgaaW.PrintMore
set_option linter.unusedVariables false
set_option linter.unusedSimpArgs false
section
variable {up : Nat} {g : G6} {w w' w0 : World}
def zG : G6 := ⟨0, 0, 0, 0, 0, 0⟩
set_option maxHeartbeats 8000000 in
set_option maxRecDepth 100000 in
theorem rnew_no (K : Nat) (hch : deckleref06_Check.f K g.f0 g.f1 g.f2 g.f3 g.f4 g.f5 = some 60) (w : World) :
    Calls Try.prog 6 #[encG g] w fun e w' => e = .returned (.tuple #[encD zG (.slice none 0 0) (.slice none 0 0), .int .i64 60]) ∧ Below w.heap.size w w' := by
  have hu32 := Try.underlying32
  have hu23 := Try.underlying23
  have hb1 := blk_alloc (heap_alloc_new w (.cells #[.int .i64 g.f0, .int .i64 g.f1, .int .i64 g.f2, .int .i64 g.f3, .int .i64 g.f4, .int .i64 g.f5] 23)) zeroD
  have hb2 := heap_alloc_new (w.alloc (.cells #[.int .i64 g.f0, .int .i64 g.f1, .int .i64 g.f2, .int .i64 g.f3, .int .i64 g.f4, .int .i64 g.f5] 23)) zeroD
  rw [World.size_alloc] at hb2
  have hB := Aside0.mk (((Below.refl w.heap.size w).alloc (Nat.le_refl _) (.cells #[.int .i64 g.f0, .int .i64 g.f1, .int .i64 g.f2, .int .i64 g.f3, .int .i64 g.f4, .int .i64 g.f5] 23)).alloc (by rw [World.size_alloc]; omega) zeroD)
  have q26 := Lib.hid (fun w' => deckleref06_Check.calls K g.f0 g.f1 g.f2 g.f3 g.f4 g.f5 60 w' hch)
  clear hch
  unfold encG
  unfold zeroD at *
  go_enter Try.func6, Try.ntmps6
  go_upto_region 1 with (fail)
  have d0 := blk_cell hb1 0
  have d1 := blk_cell hb1 1
  have d2 := blk_cell hb1 2
  have d3 := blk_cell hb1 3
  have d4 := blk_cell hb1 4
  have d5 := blk_cell hb1 5
  clear hb1
  generalize (w.alloc (.cells #[.int .i64 g.f0, .int .i64 g.f1, .int .i64 g.f2, .int .i64 g.f3, .int .i64 g.f4, .int .i64 g.f5] 23)).alloc (.cells #[.int .i64 0, .int .i64 0, .int .i64 0, .int .i64 0, .int .i64 0, .int .i64 0, .slice none 0 0, .slice none 0 0] 32) = W2 at *
  replace hb2 := Aside0.mk hb2
  go_wp2_with fail
  refine (q26.out _).mono ?_
  rintro e w3 ⟨rfl, hb3⟩
  have hx2 := blk_below hb2.out hb3
  have HB3 := Aside0.mk (hB.out.trans (hb3.mono hB.out.size))
  clear d0 d1 d2 d3 d4 d5 q26 hB hb2 hb3
  obtain ⟨e0, e1, e2, e3, e4, e5, e6, e7⟩ := cells8 hx2
  obtain ⟨f0, f1, f2, f3, f4, f5, f6, f7⟩ := frozen8 hx2
  replace hx2 := Aside0.mk hx2
  go_wp2
  refine bodyPost_ret (v := .tuple #[encD zG (.slice none 0 0) (.slice none 0 0), .int .i64 60]) ?_ rfl ?_
  · exact results_list (rs := [.cell 2 32, .tmp 3]) rfl (by simp) (.cell (w.heap.size + 1) 32 #[.int .i64 0, .int .i64 0, .int .i64 0, .int .i64 0, .int .i64 0, .int .i64 0, .slice none 0 0, .slice none 0 0] (0, 0) _ rfl (put8_at hx2.out) hu32 rfl (by kernel_rfl) (.tmp .nil))
  · exact ⟨rfl, put8_below HB3.out (by omega)⟩
theorem RAt.ofNew {v1 : Value} {l1 : List ByteArray} (h : Kd.R Kd.string 9 w up (fun _ => True) v1 l1) (hw : up ≤ w.heap.size) : RAt up v1 (.slice none 0 0) l1 [] w := ⟨h, Kd.R_nil _ _ _ _ _, hw⟩
set_option maxHeartbeats 8000000 in
set_option maxRecDepth 100000 in
theorem rnew_ok (hB0 : Aside0 (Below w0.heap.size w0 w)) (h0 : w0.heap.size ≤ up) (hup : up ≤ w.heap.size) (K : Nat) (hch : deckleref06_Check.f K g.f0 g.f1 g.f2 g.f3 g.f4 g.f5 = some 0) (L Bt : Nat) (h3 : g.f3 = L) (h2 : g.f2 = Bt) (hL : L ≤ 5000) (hB : Bt ≤ 1000) :
    Calls Try.prog 6 #[encG g] w fun e w' => ∃ v1 v2, e = .returned (.tuple #[encD g v1 v2, .int .i64 0]) ∧ Aside0 (RAt up v1 v2 (List.replicate L (repN 0 Bt)) (evOf (List.replicate L (repN 0 Bt)) L) w') ∧ Below w.heap.size w w' := by
  have hnp := Lib.hid (new_pure g L Bt (L + Bt + 2) h3 h2 hL hB (by omega))
  have hlr := Lib.hid (show (List.replicate L (repN 0 Bt)).length = L from List.length_replicate)
  clear h3 h2
  generalize hlz : List.replicate L (repN 0 Bt) = lz at *
  clear hlz
  rw [show evOf lz L = evOf lz lz.length from by rw [hlr.out]]
  have hu32 := Try.underlying32
  have hu23 := Try.underlying23
  have hb1 := blk_alloc (heap_alloc_new w (.cells #[.int .i64 g.f0, .int .i64 g.f1, .int .i64 g.f2, .int .i64 g.f3, .int .i64 g.f4, .int .i64 g.f5] 23)) zeroD
  have hb2 := heap_alloc_new (w.alloc (.cells #[.int .i64 g.f0, .int .i64 g.f1, .int .i64 g.f2, .int .i64 g.f3, .int .i64 g.f4, .int .i64 g.f5] 23)) zeroD
  rw [World.size_alloc] at hb2
  have hBx := Aside0.mk (((Below.refl w.heap.size w).alloc (Nat.le_refl _) (.cells #[.int .i64 g.f0, .int .i64 g.f1, .int .i64 g.f2, .int .i64 g.f3, .int .i64 g.f4, .int .i64 g.f5] 23)).alloc (by rw [World.size_alloc]; omega) zeroD)
  have q26 := Lib.hid (fun w' => deckleref06_Check.calls K g.f0 g.f1 g.f2 g.f3 g.f4 g.f5 0 w' hch)
  clear hch
  unfold encG
  unfold zeroD at *
  go_enter Try.func6, Try.ntmps6
  go_upto_region 1 with (fail)
  have d0 := blk_cell hb1 0
  have d1 := blk_cell hb1 1
  have d2 := blk_cell hb1 2
  have d3 := blk_cell hb1 3
  have d4 := blk_cell hb1 4
  have d5 := blk_cell hb1 5
  clear hb1
  generalize (w.alloc (.cells #[.int .i64 g.f0, .int .i64 g.f1, .int .i64 g.f2, .int .i64 g.f3, .int .i64 g.f4, .int .i64 g.f5] 23)).alloc (.cells #[.int .i64 0, .int .i64 0, .int .i64 0, .int .i64 0, .int .i64 0, .int .i64 0, .slice none 0 0, .slice none 0 0] 32) = W2 at *
  replace hb2 := Aside0.mk hb2
  go_wp2_with fail
  refine (q26.out _).mono ?_
  rintro e w3 ⟨rfl, hb3⟩
  have hx2 := blk_below hb2.out hb3
  have HB3 := Aside0.mk (hBx.out.trans (hb3.mono hBx.out.size))
  have y0 : w3.cell? ⟨w.heap.size, 0, none⟩ = some (.int .i64 g.f0) := pw_cell_below hb3 d0
  have y1 : w3.cell? ⟨w.heap.size, 1, none⟩ = some (.int .i64 g.f1) := pw_cell_below hb3 d1
  have y2 : w3.cell? ⟨w.heap.size, 2, none⟩ = some (.int .i64 g.f2) := pw_cell_below hb3 d2
  have y3 : w3.cell? ⟨w.heap.size, 3, none⟩ = some (.int .i64 g.f3) := pw_cell_below hb3 d3
  have y4 : w3.cell? ⟨w.heap.size, 4, none⟩ = some (.int .i64 g.f4) := pw_cell_below hb3 d4
  have y5 : w3.cell? ⟨w.heap.size, 5, none⟩ = some (.int .i64 g.f5) := pw_cell_below hb3 d5
  clear d0 d1 d2 d3 d4 d5 q26 hBx hb2 hb3
  replace hx2 := Aside0.mk hx2
  go_upto_region 3 with (fail)
  have q28 := Lib.hid (deckleref28_New.calls (L + Bt + 2) g.f0 g.f1 g.f2 g.f3 g.f4 g.f5 lz w3.drew hnp.out)
  have q27 := Lib.hid (fun (v0 : Value) (w4 : World) (hR : Kd.R Kd.string 9 w4 w3.drew.heap.size (fun _ => True) v0 lz) (hb : Below w3.drew.heap.size w3.drew w4) => rflushed (g := g) (hB0.out.trans (((below_drew HB3.out).trans (hb.mono HB3.out.size)).mono hB0.out.size)) h0 (Aside0.mk (RAt.ofNew (Kd.R_lower hR (Nat.le_trans hup HB3.out.size)) (Nat.le_trans (Nat.le_trans hup HB3.out.size) hb.size))) (by rw [hlr.out]; omega))
  have hx2d := Aside0.mk (show w3.drew.heap[w.heap.size + 1]? = some (.cells #[.int .i64 0, .int .i64 0, .int .i64 0, .int .i64 0, .int .i64 0, .int .i64 0, .slice none 0 0, .slice none 0 0] 32 (0, 0)) from hx2.out)
  have y0d := Aside0.mk (show w3.drew.cell? ⟨w.heap.size, 0, none⟩ = some (.int .i64 g.f0) from y0)
  have y1d := Aside0.mk (show w3.drew.cell? ⟨w.heap.size, 1, none⟩ = some (.int .i64 g.f1) from y1)
  have y2d := Aside0.mk (show w3.drew.cell? ⟨w.heap.size, 2, none⟩ = some (.int .i64 g.f2) from y2)
  have y3d := Aside0.mk (show w3.drew.cell? ⟨w.heap.size, 3, none⟩ = some (.int .i64 g.f3) from y3)
  have y4d := Aside0.mk (show w3.drew.cell? ⟨w.heap.size, 4, none⟩ = some (.int .i64 g.f4) from y4)
  have y5d := Aside0.mk (show w3.drew.cell? ⟨w.heap.size, 5, none⟩ = some (.int .i64 g.f5) from y5)
  generalize hev : evOf lz lz.length = ev at *
  replace hev := Lib.hid hev
  go_wp2_with fail
  go_region_with (first | (go_at_call 28; refine q28.out.mono ?_; rintro e w4 ⟨v0, rfl, hR, hb4⟩; have u0 : w4.cell? ⟨w.heap.size, 0, none⟩ = some (.int .i64 g.f0) := pw_cell_below hb4 y0d.out; have u1 : w4.cell? ⟨w.heap.size, 1, none⟩ = some (.int .i64 g.f1) := pw_cell_below hb4 y1d.out; have u2 : w4.cell? ⟨w.heap.size, 2, none⟩ = some (.int .i64 g.f2) := pw_cell_below hb4 y2d.out; have u3 : w4.cell? ⟨w.heap.size, 3, none⟩ = some (.int .i64 g.f3) := pw_cell_below hb4 y3d.out; have u4 : w4.cell? ⟨w.heap.size, 4, none⟩ = some (.int .i64 g.f4) := pw_cell_below hb4 y4d.out; have u5 : w4.cell? ⟨w.heap.size, 5, none⟩ = some (.int .i64 g.f5) := pw_cell_below hb4 y5d.out; have hx4 := Aside0.mk (blk_below hx2d.out hb4); have q27' := Lib.hid (q27.out v0 w4 hR hb4); have hn4 := Lib.hid (Kd.R_ne hR hx4.out (by decide)); have hg4 := Lib.hid (fun b (hb : v0.ownBlock = some b) => show w3.drew.heap.size ≤ b from (Kd.R_own hR).elim fun inner ho => own_base ho b hb); (obtain ⟨A1, c1, he⟩ := Kd.R_slice hR); subst he; unfold encD at q27'; replace hR := Aside0.mk hR; replace hb4 := Aside0.mk hb4) | (go_at_call 27; refine q27'.out.mono ?_; rintro e w5 ⟨v1', v2', rfl, HR4, hC4⟩; (obtain ⟨A5, c5, he⟩ := Kd.R_slice HR4.out.r1); subst he; (obtain ⟨A6, c6, he⟩ := Kd.R_slice HR4.out.r2); subst he; have hz2 := (hC4.out.block _ (blk_lt hx4.out) (fun h => hn4.out h.symm)).trans hx4.out; (obtain ⟨e0, e1, e2, e3, e4, e5, e6, e7⟩ := cells8 hz2); (obtain ⟨f0, f1, f2, f3, f4, f5, f6, f7⟩ := frozen8 hz2); replace hz2 := Aside0.mk hz2))
  all_goals
    have hbw4 : Below w.heap.size w w4 := (below_drew HB3.out).trans (hb4.out.mono HB3.out.size)
    have hbw5 := Aside0.mk (hbw4.trans (hC4.out.below (Nat.le_trans HB3.out.size hb4.out.size) (fun k hk => Nat.le_trans HB3.out.size (hg4.out k hk))))
    clear hbw4
    go_wp2
    refine bodyPost_ret (v := .tuple #[.agg #[.int .i64 g.f0, .int .i64 g.f1, .int .i64 g.f2, .int .i64 g.f3, .int .i64 g.f4, .int .i64 g.f5, .slice A5 lz.length c5, .slice A6 ev.length c6], .int .i64 0]) ?_ rfl ?_
    · exact results_list (rs := [.cell 2 32, .tmp 3]) rfl (by simp) (.cell (w.heap.size + 1) 32 #[.int .i64 g.f0, .int .i64 g.f1, .int .i64 g.f2, .int .i64 g.f3, .int .i64 g.f4, .int .i64 g.f5, .slice A5 lz.length c5, .slice A6 ev.length c6] (0, 0) _ rfl (put8_at hz2.out) hu32 rfl (by kernel_rfl) (.tmp .nil))
    · exact ⟨_, _, rfl, ⟨by rw [hev.out]; exact HR4.out.put8 hz2.out⟩, put8_below hbw5.out (by omega)⟩
end
end Go.Proofs.Ytmpfadiehakcgaa.PQ
