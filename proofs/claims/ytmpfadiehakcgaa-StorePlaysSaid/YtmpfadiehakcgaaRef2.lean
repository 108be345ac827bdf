/- The document's Flush, Cut and New, walked. -/
import Derived.Test.YtmpfadiehakcgaaRef
import Derived.Test.YtmpfadiehakcgaaGeo
import Derived.Deep.RegionLaw
import Derived.Deep.CutBlock
import Derived.Deep.RegionHeld3
namespace Go.Proofs.Ytmpfadiehakcgaa.PQ
open Go.RowKit Go.Proofs.YtmpfadiehakcgaaW.PrintWords Go.Proofs.YtmpfadiehakcgaaW.PrintLast Go.Proofs.YtmpfadiehakcgaaW.PrintMore
set_option linter.unusedVariables false
set_option linter.unusedSimpArgs false
section
variable {up : Nat} {v1 v2 : Value} {l1 : List ByteArray} {l2 : List S69} {g : G6} {w w' w0 : World}
theorem R_raiseS {e base : Nat} {ok : Nat → Prop} {v : Value} {xs : List ByteArray} (h : Kd.R Kd.string e w base ok v xs) (hge : ∀ k, ok k → up ≤ k) : Kd.R Kd.string e w up (fun _ => True) v xs := by
  obtain ⟨h0, inner, ⟨h1, h2⟩, hr⟩ := h
  refine ⟨fun _ _ => trivial, inner, ⟨h1, ?_⟩, hr.imp_ (fun _ _ hp => hp)⟩
  rcases h2 with h2 | ⟨b, cap, cur, rfl, hb, r⟩
  · exact .inl h2
  · exact .inr ⟨b, cap, cur, rfl, hge b (h0 b rfl), r⟩
theorem R_raise69 {e base : Nat} {ok : Nat → Prop} {v : Value} {xs : List S69} (h : Kd.R k69 e w base ok v xs) (hge : ∀ k, ok k → up ≤ k) : Kd.R k69 e w up (fun _ => True) v xs := by
  obtain ⟨h0, inner, ⟨h1, h2⟩, hr⟩ := h
  refine ⟨fun _ _ => trivial, inner, ⟨h1, ?_⟩, hr.imp_ (fun _ _ hp => hp)⟩
  rcases h2 with h2 | ⟨b, cap, cur, rfl, hb, r⟩
  · exact .inl h2
  · exact .inr ⟨b, cap, cur, rfl, hge b (h0 b rfl), r⟩
theorem rflushed (hB : Below w0.heap.size w0 w) (h0 : w0.heap.size ≤ up) (H : Aside0 (RAt up v1 v2 l1 l2 w)) (hl1 : l1.length ≤ 100000) :
    Calls Try.prog 27 #[encD g v1 v2] w fun e w' => ∃ v1' v2', e = .returned (encD g v1' v2') ∧ Aside0 (RAt up v1' v2' l1 (evOf l1 l1.length) w') ∧ Aside0 (Ch (fun k => v1.ownBlock = some k) w w') := by
  obtain ⟨A2, c2, rfl⟩ := Kd.R_slice H.out.r2
  have hge : ∀ k, v1.ownBlock = some k → up ≤ k := fun k hk => by
    obtain ⟨inner, ho⟩ := Kd.R_own H.out.r1
    exact own_base ho k hk
  have hne : ∀ k, v1.ownBlock = some k → (Value.slice A2 l2.length c2).ownBlock ≠ some k := fun k hk => by
    obtain ⟨inner, ho⟩ := Kd.R_own H.out.r1
    obtain ⟨cells, hc⟩ := own_typed ho k hk
    exact fun e => Kd.R_ne H.out.r2 hc (by decide) e.symm
  obtain ⟨hn2, hc2, hC2⟩ := Kd.R_reads' H.out.r2
  refine (deckleref32_flushed.calls (l1.length + 1) g.f0 g.f1 g.f2 g.f3 g.f4 g.f5 (fun k => v1.ownBlock = some k) v1 l1 A2 c2 l2 g.f0 g.f1 g.f2 g.f3 g.f4 g.f5 l1 (evOf l1 l1.length) w0 w hB (Kd.R_lower (R_self H.out.r1) h0) (fun W hW => ?_) hc2 (flushed_pure g l1 l2 hl1)).mono ?_
  · have h2 := Kd.R_bound H.out.r2
    have h3 : Kd.R k69 69 W up (fun _ => True) (.slice A2 l2.length c2) l2 := by
      refine Kd.R_mono (Kd.R_move (show Kd.R k69 69 w up (fun k => (Value.slice A2 l2.length c2).ownBlock = some k ∧ k < w.heap.size) (.slice A2 l2.length c2) l2 from ⟨fun k hk => ⟨hk, (h2.1 k hk).2.2.1⟩, h2.2.imp_ (fun _ _ hp => hp)⟩) (fun k hk => hW.2 k hk.2 (fun e => hne k e hk.1))) (fun _ _ => trivial)
    exact (Kd.R_reads' h3).2.2
  · rintro e w' ⟨v6, v7, rfl, h6, h7, hb, hk⟩
    have hok : ∀ k, (v1.ownBlock = some k ∨ w.heap.size ≤ k) → up ≤ k := fun k hk => hk.elim (hge k) (fun h => Nat.le_trans H.out.hw h)
    exact ⟨v6, v7, rfl, ⟨⟨R_raiseS h6 hok, R_raise69 h7 hok, Nat.le_trans H.out.hw hk.1⟩⟩, ⟨⟨hb.os.trans hB.os.symm, hb.tape.trans hB.tape.symm, hb.output.trans hB.output.symm, hk.1, fun k h1 h2 => hk.2 k h1 h2⟩⟩⟩
set_option maxHeartbeats 8000000 in
set_option maxRecDepth 100000 in
theorem rflush (hB0 : Below w0.heap.size w0 w) (h0 : w0.heap.size ≤ up) (H : Aside0 (RAt up v1 v2 l1 l2 w)) (hl1 : l1.length ≤ 100000) :
    Calls Try.prog 15 #[encD g v1 v2] w fun e w' => ∃ v1' v2', e = .returned (encD g v1' v2') ∧ Aside0 (RAt up v1' v2' l1 (evOf l1 l1.length) w') ∧ Aside0 (Ch (fun k => v1.ownBlock = some k) w w') := by
  obtain ⟨A1, c1, rfl⟩ := Kd.R_slice H.out.r1
  obtain ⟨A2, c2, rfl⟩ := Kd.R_slice H.out.r2
  have hu32 := Try.underlying32
  have hB := Aside0.mk (((Below.refl w.heap.size w).alloc (Nat.le_refl _) (boxD g (.slice A1 l1.length c1) (.slice A2 l2.length c2))).alloc (by rw [World.size_alloc]; omega) zeroD)
  have hb3 := blk_alloc (heap_alloc_new w (boxD g (.slice A1 l1.length c1) (.slice A2 l2.length c2))) zeroD
  have hb6 := heap_alloc_new (w.alloc (boxD g (.slice A1 l1.length c1) (.slice A2 l2.length c2))) zeroD
  rw [World.size_alloc] at hb6
  have q27 := Lib.hid (fun (w' : World) (hb : Below w.heap.size w w') => rflushed (g := g) (hB0.trans (hb.mono hB0.size)) h0 (Aside0.mk (H.out.below hb)) hl1)
  have hlt := Lib.hid (fun k (hk : (Value.slice A1 l1.length c1).ownBlock = some k) => show k < w.heap.size from (Kd.R_own H.out.r1).elim fun inner ho => own_lt ho k hk)
  clear H hB0 h0 hl1
  unfold encD
  unfold boxD zeroD at *
  go_enter Try.func15, Try.ntmps15
  go_upto_region 1 with (fail)
  obtain ⟨d0, d1, d2, d3, d4, d5, d6, d7⟩ := cells8 hb3
  obtain ⟨e0, e1, e2, e3, e4, e5, e6, e7⟩ := cells8 hb6
  obtain ⟨f0, f1, f2, f3, f4, f5, f6, f7⟩ := frozen8 hb6
  replace hb6 := Aside0.mk hb6
  replace hb3 := Aside0.mk hb3
  generalize (w.alloc (.cells #[.int .i64 g.f0, .int .i64 g.f1, .int .i64 g.f2, .int .i64 g.f3, .int .i64 g.f4, .int .i64 g.f5, .slice A1 l1.length c1, .slice A2 l2.length c2] 32)).alloc (.cells #[.int .i64 0, .int .i64 0, .int .i64 0, .int .i64 0, .int .i64 0, .int .i64 0, .slice none 0 0, .slice none 0 0] 32) = W2 at *
  go_wp2_with fail
  refine (q27.out _ hB.out).mono ?_
  rintro e w3 ⟨v1', v2', rfl, HR, hC⟩
  obtain ⟨A3, c3, he⟩ := Kd.R_slice HR.out.r1
  subst he
  obtain ⟨A4, c4, he⟩ := Kd.R_slice HR.out.r2
  subst he
  have hC3 := Aside0.mk ((Ch.of_below (S := fun k => (Value.slice A1 l1.length c1).ownBlock = some k) hB.out).trans hC.out)
  have hx6 := (hC.out.block _ (blk_lt hb6.out) (fun h => by have := hlt.out _ h; omega)).trans hb6.out
  unfold encD
  clear d0 d1 d2 d3 d4 d5 d6 d7 e0 e1 e2 e3 e4 e5 e6 e7 f0 f1 f2 f3 f4 f5 f6 f7 hB hb3 hb6 q27 hC
  obtain ⟨e0, e1, e2, e3, e4, e5, e6, e7⟩ := cells8 hx6
  obtain ⟨f0, f1, f2, f3, f4, f5, f6, f7⟩ := frozen8 hx6
  replace hx6 := Aside0.mk hx6
  generalize hev : evOf l1 l1.length = ev at *
  replace hev := Lib.hid hev
  go_wp2
  refine bodyPost_ret (v := .agg #[.int .i64 g.f0, .int .i64 g.f1, .int .i64 g.f2, .int .i64 g.f3, .int .i64 g.f4, .int .i64 g.f5, .slice A3 l1.length c3, .slice A4 ev.length c4]) ?_ rfl ?_
  · exact results_single (r := .cell 2 32) rfl (.cell (w.heap.size + 1) 32 #[.int .i64 g.f0, .int .i64 g.f1, .int .i64 g.f2, .int .i64 g.f3, .int .i64 g.f4, .int .i64 g.f5, .slice A3 l1.length c3, .slice A4 ev.length c4] (0, 0) _ rfl (put8_at hx6.out) hu32 rfl (by kernel_rfl) .nil)
  · refine ⟨_, _, rfl, ⟨by rw [hev.out]; exact HR.out.put8 hx6.out⟩, ⟨?_⟩⟩
    have h8 : Below w.heap.size w3 (put8 w3 (w.heap.size + 1) (.int .i64 g.f0) (.int .i64 g.f1) (.int .i64 g.f2) (.int .i64 g.f3) (.int .i64 g.f4) (.int .i64 g.f5) (.slice A3 l1.length c3) (.slice A4 ev.length c4)) := put8_below (Below.refl _ _) (by omega)
    exact ⟨h8.os.trans hC3.out.os, h8.tape.trans hC3.out.tape, h8.output.trans hC3.out.output, Nat.le_trans hC3.out.size h8.size, fun k hk hn => (h8.block k hk).trans (hC3.out.block k hk hn)⟩
end
end Go.Proofs.Ytmpfadiehakcgaa.PQ
