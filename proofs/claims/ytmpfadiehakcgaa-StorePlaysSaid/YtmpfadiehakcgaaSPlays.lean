/- StorePlays walked. -/
import Derived.Test.YtmpfadiehakcgaaSArms
import Derived.Deep.CutBlock
import Derived.Deep.DeepCutAuto
namespace Go.Proofs.Ytmpfadiehakcgaa.PQ
open Go.RowKit Go.Proofs.YtmpfadiehakcgaaW.PrintWords Go.Proofs.YtmpfadiehakcgaaW.PrintLast Go.Proofs.YtmpfadiehakcgaaW.PrintMore
set_option linter.unusedVariables false
set_option linter.unusedSimpArgs false
set_option maxHeartbeats 16000000 in
set_option maxRecDepth 100000 in
theorem splays_core (g : G6) (a1 : Option Addr) (c1 : Nat) (zs : List S37) (w : World) (hr : Aside0 (Kd.C k37 w a1 zs.length zs)) (hwf : Aside0 (∀ z ∈ zs, z.f2.size ≤ maxLen ∧ ∀ s ∈ z.f3, s.size ≤ maxLen)) :
    Calls Try.prog 3 #[encG g, .slice a1 zs.length c1] w fun e w' => e = .returned (.bool true) ∧ Below w.heap.size w w' := by
  obtain ⟨K1, K2, e, hk1, hk2, he, hge⟩ := check_same g.f0 g.f1 g.f2 g.f3 g.f4 g.f5
  have q7 := Lib.hid works_calls
  have hu23 := Try.underlying23
  have hx2 := heap_alloc_new w (.cells #[.int .i64 g.f0, .int .i64 g.f1, .int .i64 g.f2, .int .i64 g.f3, .int .i64 g.f4, .int .i64 g.f5] 23)
  have hB := Aside0.mk ((Below.refl w.heap.size w).alloc (Nat.le_refl _) (.cells #[.int .i64 g.f0, .int .i64 g.f1, .int .i64 g.f2, .int .i64 g.f3, .int .i64 g.f4, .int .i64 g.f5] 23))
  have hs1 := Lib.hid (show w.heap.size + 1 = (w.alloc (.cells #[.int .i64 g.f0, .int .i64 g.f1, .int .i64 g.f2, .int .i64 g.f3, .int .i64 g.f4, .int .i64 g.f5] 23)).heap.size from (World.size_alloc ..).symm)
  rcases he with rfl | rfl
  · obtain ⟨hy, hl⟩ := hge rfl
    have q5 := Lib.hid (new_ok g K1 hk1 ⟨by omega, by omega⟩ hl (w.alloc (.cells #[.int .i64 g.f0, .int .i64 g.f1, .int .i64 g.f2, .int .i64 g.f3, .int .i64 g.f4, .int .i64 g.f5] 23)))
    have q6 := Lib.hid (fun (W : World) (hW : Aside0 (Below w.heap.size w W)) (hup : w.heap.size ≤ W.heap.size) => rnew_ok (g := g) (w := W) (w0 := w) (up := W.heap.size) hW hup (Nat.le_refl _) K2 hk2 g.f3.toNat g.f2.toNat (Int.toNat_of_nonneg (by omega)).symm (Int.toNat_of_nonneg (by omega)).symm (by omega) (by omega))
    have hG := Lib.hid (show 0 ≤ g.f2 ∧ g.f2 ≤ 256 ∧ 1 ≤ g.f3 ∧ g.f3 ≤ 4096 from ⟨by omega, by omega, by omega, by omega⟩)
    clear hk1 hk2 hge hy hl
    unfold encG at *
    go_enter Try.func3, Try.ntmps3
    go_upto_region 1 with (fail)
    have d0 := blk_cell hx2 0
    have d1 := blk_cell hx2 1
    have d2 := blk_cell hx2 2
    have d3 := blk_cell hx2 3
    have d4 := blk_cell hx2 4
    have d5 := blk_cell hx2 5
    replace hx2 := Aside0.mk hx2
    generalize w.alloc (.cells #[.int .i64 g.f0, .int .i64 g.f1, .int .i64 g.f2, .int .i64 g.f3, .int .i64 g.f4, .int .i64 g.f5] 23) = W1 at *
    go_wp2_with fail
    refine q5.out.mono ?_
    rintro e w2 ⟨P, B, cap, mb, rfl, hb2, HS⟩
    have hx3 := blk_below hx2.out hb2
    have HB2 := Aside0.mk (hB.out.trans (hb2.mono hB.out.size))
    have hlo := Lib.hid (show w.heap.size < W1.heap.size from by have := hs1.out; omega)
    have q6' := Lib.hid (q6.out w2 HB2 HB2.out.size)
    clear d0 d1 d2 d3 d4 d5 q5 q6 hx2 hB
    have d0 := blk_cell hx3 0
    have d1 := blk_cell hx3 1
    have d2 := blk_cell hx3 2
    have d3 := blk_cell hx3 3
    have d4 := blk_cell hx3 4
    have d5 := blk_cell hx3 5
    replace hx3 := Aside0.mk hx3
    go_wp2_with fail
    refine q6'.out.mono ?_
    rintro e w3 ⟨v1, v2, rfl, HR, hb3⟩
    have hp0 := PRel.new g.f3.toNat (repN 0 g.f2.toNat) (by rw [repN_size]; have := hG.out; unfold maxLen; omega)
    have hlz : (evOf (List.replicate g.f3.toNat (repN 0 g.f2.toNat)) g.f3.toNat).length ≤ g.f3.toNat := Nat.le_of_eq (evOf_len _ _)
    obtain ⟨n, hn⟩ : ∃ n : Nat, g.f3.toNat = n := ⟨_, rfl⟩
    rw [hn] at hp0 HR HS hlz
    generalize List.replicate n (repN 0 g.f2.toNat) = l1 at *
    generalize evOf l1 n = l2 at *
    have hng := Lib.hid (show g.f3 = (n : Int) ∧ 1 ≤ n ∧ n ≤ 4096 from by have := hG.out; omega)
    clear hn
    obtain ⟨A1, k1, he⟩ := Kd.R_slice HR.out.r1
    obtain ⟨A2, k2, he2⟩ := Kd.R_slice HR.out.r2
    subst he he2
    have HS3 := Aside0.mk (HS.out.below hb3)
    have hx4 := blk_below hx3.out hb3
    have HB3 := Aside0.mk (HB2.out.trans (hb3.mono HB2.out.size))
    have d3' : w3.cell? ⟨w.heap.size, 3, none⟩ = some (.int .i64 g.f3) := blk_cell hx4 3
    have d3n : (w3.alloc (.cells #[.int .i64 g.f0, .int .i64 g.f1, .int .i64 g.f2, .int .i64 g.f3, .int .i64 g.f4, .int .i64 g.f5, .slice A1 l1.length k1, .slice A2 l2.length k2] 32)).cell? ⟨w.heap.size, 3, none⟩ = some (.int .i64 g.f3) := blk_cell (blk_alloc hx4 _) 3
    have HJ := Aside0.mk (show JAt W1.heap.size w2.heap.size g n 1 (fun _ => repN 0 g.f2.toNat) (fun _ => onlyS (repN 0 g.f2.toNat)) P B cap mb w.heap.size w3.heap.size (.slice A1 l1.length k1) (.slice A2 l2.length k2) l1 l2 w (w3.alloc (.cells #[.int .i64 g.f0, .int .i64 g.f1, .int .i64 g.f2, .int .i64 g.f3, .int .i64 g.f4, .int .i64 g.f5, .slice A1 l1.length k1, .slice A2 l2.length k2] 32)) from ⟨HS3.out.alloc _, HR.out.alloc _, heap_alloc_new w3 _, blk_alloc hx4 _, hlo.out, hb3.size, Nat.le_of_lt hlo.out, HB3.out.alloc HB3.out.size _⟩)
    replace hp0 := Aside0.mk hp0
    generalize (fun _ : Nat => repN 0 g.f2.toNat) = dd at *
    generalize (fun _ : Nat => onlyS (repN 0 g.f2.toNat)) = mm at *
    clear d0 d1 d2 d3 d3' hx3 hx4 HS3 HB2 hb2 hb3 HR HS q6'
    unfold encD
    generalize hW4 : w3.alloc (.cells #[.int .i64 g.f0, .int .i64 g.f1, .int .i64 g.f2, .int .i64 g.f3, .int .i64 g.f4, .int .i64 g.f5, .slice A1 l1.length k1, .slice A2 l2.length k2] 32) = W4 at HJ d3n
    generalize W1.heap.size = lo at *
    generalize w2.heap.size = up at *
    go_upto_region 3 with (fail)
    clear hW4 d4 d5
    generalize w3.heap.size = X7 at *
    by_cases h100 : g.f3 > 100
    · have z : decide (g.f3 > 100) = true := decide_eq_true h100
      have q := Lib.hid (q7.out W4)
      go_wp2_with fail
      refine q.out.mono ?_
      rintro e w5 ⟨rfl, hb5⟩
      go_wp2
      go_ret
      exact ⟨rfl, HJ.out.bel.trans (hb5.mono HJ.out.bel.size)⟩
    · have z : decide (g.f3 > 100) = false := decide_eq_false h100
      have hn100 : n ≤ 100 := by have := hng.out.1; omega
      go_upto_block 0 with (fail)
      clear d3n h100 z
      go_cut [9] (fun y wx => Aside0 (Below w.heap.size w wx))
      case first =>
        go_wp2
        go_loopw [9] (fun y wr => ∃ (i cx : Nat) (d : Nat → ByteArray) (m : Nat → ByteArray → Bool) (v1 v2 : Value) (l1 : List ByteArray) (l2 : List S69), i ≤ zs.length ∧ i ≤ 60 ∧ cx ≤ 1 + i * 101 ∧ y = .int .i64 (i : Int) ∧ Aside0 (l2.length ≤ n + i) ∧ Aside0 (JAt lo up g n cx d m P B cap mb w.heap.size X7 v1 v2 l1 l2 w wr) ∧ Aside0 (PRel n d m l1 l2)) (fun y _ => 60 - (intOf y).toNat)
        case atStart => exact ⟨0, 1, _, _, _, _, _, _, Nat.zero_le _, Nat.zero_le _, by omega, rfl, ⟨hlz⟩, HJ, hp0⟩
        case round =>
          clear HJ hp0 hlz
          obtain ⟨i, cx, d, m, v1, v2, l1, l2, hi, hi60, hcx, rfl, hl2, HJ, HP⟩ := hrel
          by_cases hlt : i < zs.length
          · have yk : decide ((i : Int) < (zs.length : Int)) = true := decide_eq_true (by omega)
            by_cases hlt2 : i < 60
            · have yk2 : decide ((i : Int) < 60) = true := decide_eq_true (by omega)
              obtain ⟨ad, A3, c3, rfl, d0', d1', d2', d3', _, hC3⟩ := at_T37 hr.out (i : Int) (by omega) (by omega)
              have d0 := pw_cell_below HJ.out.bel d0'
              have d1 := pw_cell_below HJ.out.bel d1'
              have d2 := pw_cell_below HJ.out.bel d2'
              have d3 := pw_cell_below HJ.out.bel d3'
              clear d0' d1' d2' d3'
              have hw3 : (rd_T37 zs (i : Int)).f2.size ≤ maxLen ∧ ∀ s ∈ (rd_T37 zs (i : Int)).f3, s.size ≤ maxLen := by
                rw [rd_get37 zs i hlt]
                exact hwf.out _ (List.getElem_mem hlt)
              rw [Int.toNat_natCast] at d0 d1 d2 d3
              generalize rd_T37 zs (i : Int) = q at *
              obtain ⟨y0, y1, y2, y3⟩ := q
              dsimp only at *
              obtain ⟨A1, k1, he⟩ := Kd.R_slice HJ.out.r.r1
              subst he
              obtain ⟨A2, k2, he⟩ := Kd.R_slice HJ.out.r.r2
              subst he
              replace hw3 := Aside0.mk hw3
              have HJ1 := Aside0.mk (HJ.out.alloc (.cells #[.int .i64 y0, .int .i64 y1, .string y2, .slice A3 y3.length c3] 37))
              have hX10 := Lib.hid HJ.out.s.hw
              have b10 := heap_alloc_new wr (.cells #[.int .i64 y0, .int .i64 y1, .string y2, .slice A3 y3.length c3] 37)
              replace hC3 := Aside0.mk hC3
              have g0 := blk_cell b10 0
              have g1 := blk_cell b10 1
              have g2 := blk_cell b10 2
              have g3 := blk_cell b10 3
              replace b10 := Aside0.mk b10
              generalize hW5 : wr.alloc (.cells #[.int .i64 y0, .int .i64 y1, .string y2, .slice A3 y3.length c3] 37) = W5 at HJ1 b10 g0 g1 g2 g3
              replace hW5 := Lib.hid hW5
              go_upto_region 11 with (fail)
              rw [hW5.out]
              clear d0 d1 d2 d3 HJ hW5
              generalize wr.heap.size = X10 at *
              by_cases hb : (y2.size : Int) > 300
              · have z1 : decide ((y2.size : Int) > 300) = true := decide_eq_true hb
                have q := Lib.hid (q7.out W5)
                go_wp2_with fail
                refine q.out.mono ?_
                rintro e w5 ⟨rfl, hb5⟩
                go_wp2
                go_ret
                exact ⟨rfl, HJ1.out.bel.trans (hb5.mono HJ1.out.bel.size)⟩
              have z1 : decide ((y2.size : Int) > 300) = false := decide_eq_false hb
              by_cases hh : (y3.length : Int) > 200
              · have z2 : decide ((y3.length : Int) > 200) = true := decide_eq_true hh
                have q := Lib.hid (q7.out W5)
                go_wp2_with fail
                refine q.out.mono ?_
                rintro e w5 ⟨rfl, hb5⟩
                go_wp2
                go_ret
                exact ⟨rfl, HJ1.out.bel.trans (hb5.mono HJ1.out.bel.size)⟩
              have z2 : decide ((y3.length : Int) > 200) = false := decide_eq_false hh
              clear hb hh
              go_upto_block 2 with (fail)
              clear z1 z2 yk yk2
              go_cut [11, 12] (fun x y wx => ∃ (r : Int) (cx' : Nat) (d' : Nat → ByteArray) (m' : Nat → ByteArray → Bool) (v1' v2' : Value) (l1' : List ByteArray) (l2' : List S69), x = .int .i64 r ∧ y = .int .i64 r ∧ cx' ≤ 1 + (i + 1) * 101 ∧ Aside0 (l2'.length ≤ n + (i + 1)) ∧ Aside0 (JAt lo up g n cx' d' m' P B cap mb w.heap.size X7 v1' v2' l1' l2' w wx) ∧ Aside0 (PRel n d' m' l1' l2'))
              case first =>
                clear g0 g1 g2 g3
                by_cases h0 : y0 = 0
                · exact splays_arm0 g w W5 P B cap mb n lo up X7 X10 i cx c3 k1 k2 d m l1 l2 y0 y1 y2 y3 A1 A2 A3 hG hng hn100 hs1 hlo hi60 hcx hl2 HP hw3 hC3 HJ1 hX10 b10 h0 _ _ _ _ _ _ _ _ _ _ _ _ _ _ _ _ _ _ _ _ _ _ _ _ _ _ _ _ _ _ _ _ _ _ _ _ _ _ _ _ _ _ _ _ _ _ _ _ _ _ _ _ _ _ _ _ _ _ _ _ _ _ _ _ _ _ _ _ _ _ _ _ _ _ _ _ _ _ _ _ _ _ _ _ _ _ _ _ _ _ _ _ _ _ _ _ _ _ _ _ _ _ _ _ _ _ _ _ _ _ _ _ _ _ _ _ _ _ _ _ _ _ _ _ _ _ _ _ _ _ _ _ _ _ _ _ _ _ _ _ _ _ _ _ _ _ _ _ _ _ _ _ _ _ _ _ _ _ _ _ _ _ _ _ _ _ _ _ _ _ _ _ _ _ _ _ _ _ _ _ _ _ _ (by assumption) (fun _ _ _ _ _ h => h) (by assumption)
                have zz0 : (y0 == 0) = false := by rw [beq_eq_false_iff_ne]; exact h0
                by_cases h1 : y0 = 1
                · exact splays_arm1 g w W5 P B cap mb n lo up X7 X10 i cx c3 k1 k2 d m l1 l2 y0 y1 y2 y3 A1 A2 A3 hG hng hn100 hs1 hlo hi60 hcx hl2 HP hw3 hC3 HJ1 hX10 b10 zz0 h1 _ _ _ _ _ _ _ _ _ _ _ _ _ _ _ _ _ _ _ _ _ _ _ _ _ _ _ _ _ _ _ _ _ _ _ _ _ _ _ _ _ _ _ _ _ _ _ _ _ _ _ _ _ _ _ _ _ _ _ _ _ _ _ _ _ _ _ _ _ _ _ _ _ _ _ _ _ _ _ _ _ _ _ _ _ _ _ _ _ _ _ _ _ _ _ _ _ _ _ _ _ _ _ _ _ _ _ _ _ _ _ _ _ _ _ _ _ _ _ _ _ _ _ _ _ _ _ _ _ _ _ _ _ _ _ _ _ _ _ _ _ _ _ _ _ _ _ _ _ _ _ _ _ _ _ _ _ _ _ _ _ _ _ _ _ _ _ _ _ _ _ _ _ _ _ _ _ _ _ _ _ _ _ (by assumption) (fun _ _ _ _ _ h => h) (by assumption)
                have zz1 : (y0 == 1) = false := by rw [beq_eq_false_iff_ne]; exact h1
                by_cases h2 : y0 = 2
                · exact splays_arm2 g w W5 P B cap mb n lo up X7 X10 i cx c3 k1 k2 d m l1 l2 y0 y1 y2 y3 A1 A2 A3 hG hng hn100 hs1 hlo hi60 hcx hl2 HP hw3 hC3 HJ1 hX10 b10 zz0 zz1 h2 _ _ _ _ _ _ _ _ _ _ _ _ _ _ _ _ _ _ _ _ _ _ _ _ _ _ _ _ _ _ _ _ _ _ _ _ _ _ _ _ _ _ _ _ _ _ _ _ _ _ _ _ _ _ _ _ _ _ _ _ _ _ _ _ _ _ _ _ _ _ _ _ _ _ _ _ _ _ _ _ _ _ _ _ _ _ _ _ _ _ _ _ _ _ _ _ _ _ _ _ _ _ _ _ _ _ _ _ _ _ _ _ _ _ _ _ _ _ _ _ _ _ _ _ _ _ _ _ _ _ _ _ _ _ _ _ _ _ _ _ _ _ _ _ _ _ _ _ _ _ _ _ _ _ _ _ _ _ _ _ _ _ _ _ _ _ _ _ _ _ _ _ _ _ _ _ _ _ _ _ _ _ _ (by assumption) (fun _ _ _ _ _ h => h) (by assumption)
                have zz2 : (y0 == 2) = false := by rw [beq_eq_false_iff_ne]; exact h2
                by_cases h3 : y0 = 3
                · exact splays_arm3 g w W5 P B cap mb n lo up X7 X10 i cx c3 k1 k2 d m l1 l2 y0 y1 y2 y3 A1 A2 A3 hG hng hn100 hs1 hlo hi60 hcx hl2 HP hw3 hC3 HJ1 hX10 b10 zz0 zz1 zz2 h3 _ _ _ _ _ _ _ _ _ _ _ _ _ _ _ _ _ _ _ _ _ _ _ _ _ _ _ _ _ _ _ _ _ _ _ _ _ _ _ _ _ _ _ _ _ _ _ _ _ _ _ _ _ _ _ _ _ _ _ _ _ _ _ _ _ _ _ _ _ _ _ _ _ _ _ _ _ _ _ _ _ _ _ _ _ _ _ _ _ _ _ _ _ _ _ _ _ _ _ _ _ _ _ _ _ _ _ _ _ _ _ _ _ _ _ _ _ _ _ _ _ _ _ _ _ _ _ _ _ _ _ _ _ _ _ _ _ _ _ _ _ _ _ _ _ _ _ _ _ _ _ _ _ _ _ _ _ _ _ _ _ _ _ _ _ _ _ _ _ _ _ _ _ _ _ _ _ _ _ _ _ _ _ (by assumption) (fun _ _ _ _ _ h => h) (by assumption)
                have zz3 : (y0 == 3) = false := by rw [beq_eq_false_iff_ne]; exact h3
                by_cases h4 : y0 = 4
                · exact splays_arm4 g w W5 P B cap mb n lo up X7 X10 i cx c3 k1 k2 d m l1 l2 y0 y1 y2 y3 A1 A2 A3 hG hng hn100 hs1 hlo hi60 hcx hl2 HP hw3 hC3 HJ1 hX10 b10 zz0 zz1 zz2 zz3 h4 _ _ _ _ _ _ _ _ _ _ _ _ _ _ _ _ _ _ _ _ _ _ _ _ _ _ _ _ _ _ _ _ _ _ _ _ _ _ _ _ _ _ _ _ _ _ _ _ _ _ _ _ _ _ _ _ _ _ _ _ _ _ _ _ _ _ _ _ _ _ _ _ _ _ _ _ _ _ _ _ _ _ _ _ _ _ _ _ _ _ _ _ _ _ _ _ _ _ _ _ _ _ _ _ _ _ _ _ _ _ _ _ _ _ _ _ _ _ _ _ _ _ _ _ _ _ _ _ _ _ _ _ _ _ _ _ _ _ _ _ _ _ _ _ _ _ _ _ _ _ _ _ _ _ _ _ _ _ _ _ _ _ _ _ _ _ _ _ _ _ _ _ _ _ _ _ _ _ _ _ _ _ _ (by assumption) (fun _ _ _ _ _ h => h) (by assumption)
                have zz4 : (y0 == 4) = false := by rw [beq_eq_false_iff_ne]; exact h4
                by_cases h5 : y0 = 5
                · exact splays_arm5 g w W5 P B cap mb n lo up X7 X10 i cx c3 k1 k2 d m l1 l2 y0 y1 y2 y3 A1 A2 A3 hG hng hn100 hs1 hlo hi60 hcx hl2 HP hw3 hC3 HJ1 hX10 b10 zz0 zz1 zz2 zz3 zz4 h5 _ _ _ _ _ _ _ _ _ _ _ _ _ _ _ _ _ _ _ _ _ _ _ _ _ _ _ _ _ _ _ _ _ _ _ _ _ _ _ _ _ _ _ _ _ _ _ _ _ _ _ _ _ _ _ _ _ _ _ _ _ _ _ _ _ _ _ _ _ _ _ _ _ _ _ _ _ _ _ _ _ _ _ _ _ _ _ _ _ _ _ _ _ _ _ _ _ _ _ _ _ _ _ _ _ _ _ _ _ _ _ _ _ _ _ _ _ _ _ _ _ _ _ _ _ _ _ _ _ _ _ _ _ _ _ _ _ _ _ _ _ _ _ _ _ _ _ _ _ _ _ _ _ _ _ _ _ _ _ _ _ _ _ _ _ _ _ _ _ _ _ _ _ _ _ _ _ _ _ _ _ _ _ (by assumption) (fun _ _ _ _ _ h => h) (by assumption)
                have zz5 : (y0 == 5) = false := by rw [beq_eq_false_iff_ne]; exact h5
                exact splays_arm6 g w W5 P B cap mb n lo up X7 X10 i cx c3 k1 k2 d m l1 l2 y0 y1 y2 y3 A1 A2 A3 hG hng hn100 hs1 hlo hi60 hcx hl2 HP hw3 hC3 HJ1 hX10 b10 zz0 zz1 zz2 zz3 zz4 zz5 _ _ _ _ _ _ _ _ _ _ _ _ _ _ _ _ _ _ _ _ _ _ _ _ _ _ _ _ _ _ _ _ _ _ _ _ _ _ _ _ _ _ _ _ _ _ _ _ _ _ _ _ _ _ _ _ _ _ _ _ _ _ _ _ _ _ _ _ _ _ _ _ _ _ _ _ _ _ _ _ _ _ _ _ _ _ _ _ _ _ _ _ _ _ _ _ _ _ _ _ _ _ _ _ _ _ _ _ _ _ _ _ _ _ _ _ _ _ _ _ _ _ _ _ _ _ _ _ _ _ _ _ _ _ _ _ _ _ _ _ _ _ _ _ _ _ _ _ _ _ _ _ _ _ _ _ _ _ _ _ _ _ _ _ _ _ _ _ _ _ _ _ _ _ _ _ _ _ _ _ _ _ _ (by assumption) (fun _ _ _ _ _ h => h) (by assumption)
              case rest =>
                obtain ⟨r, cx', d', m', v1', v2', l1', l2', rfl, rfl, hcx', hl2', HJ', HP'⟩ := hcut
                go_wp2
                go_roundw
                case rel => exact ⟨i + 1, cx', d', m', v1', v2', l1', l2', by omega, by omega, hcx', rfl, hl2', HJ', HP'⟩
                case measure => (simp [intOf]; omega)
            · have yk2 : decide ((i : Int) < 60) = false := decide_eq_false (by omega)
              go_wp2
              go_meet
              exact ⟨HJ.out.bel⟩
          · have yk : decide ((i : Int) < (zs.length : Int)) = false := decide_eq_false (by omega)
            go_wp2
            go_meet
            exact ⟨HJ.out.bel⟩
      case rest =>
        have q := Lib.hid (q7.out wc)
        go_wp2_with fail
        refine q.out.mono ?_
        rintro e w5 ⟨rfl, hb5⟩
        go_wp2
        go_ret
        exact ⟨rfl, hcut.out.trans (hb5.mono hcut.out.size)⟩
  · have q5 := Lib.hid (new_no g K1 60 (by decide) hk1 (w.alloc (.cells #[.int .i64 g.f0, .int .i64 g.f1, .int .i64 g.f2, .int .i64 g.f3, .int .i64 g.f4, .int .i64 g.f5] 23)))
    have q6 := Lib.hid (fun W => rnew_no (g := g) K2 hk2 W)
    clear hk1 hk2 hge
    unfold encG at *
    go_enter Try.func3, Try.ntmps3
    go_upto_region 1 with (fail)
    have d0 := blk_cell hx2 0
    have d1 := blk_cell hx2 1
    have d2 := blk_cell hx2 2
    have d3 := blk_cell hx2 3
    have d4 := blk_cell hx2 4
    have d5 := blk_cell hx2 5
    replace hx2 := Aside0.mk hx2
    generalize w.alloc (.cells #[.int .i64 g.f0, .int .i64 g.f1, .int .i64 g.f2, .int .i64 g.f3, .int .i64 g.f4, .int .i64 g.f5] 23) = W1 at *
    go_wp2_with fail
    refine q5.out.mono ?_
    rintro e w2 ⟨rfl, hb2⟩
    have hx3 := blk_below hx2.out hb2
    have HB2 := Aside0.mk (hB.out.trans (hb2.mono hB.out.size))
    have q6' := Lib.hid (q6.out w2)
    clear d0 d1 d2 d3 d4 d5 q5 q6 hx2 hB hb2
    have d0 := blk_cell hx3 0
    have d1 := blk_cell hx3 1
    have d2 := blk_cell hx3 2
    have d3 := blk_cell hx3 3
    have d4 := blk_cell hx3 4
    have d5 := blk_cell hx3 5
    clear hx3
    go_wp2_with fail
    refine q6'.out.mono ?_
    rintro e w3 ⟨rfl, hb3⟩
    have HB3 := Aside0.mk (HB2.out.trans (hb3.mono HB2.out.size))
    unfold encD zG
    clear d0 d1 d2 d3 d4 d5 q6'
    have q := Lib.hid (q7.out (w3.alloc (.cells #[.int .i64 0, .int .i64 0, .int .i64 0, .int .i64 0, .int .i64 0, .int .i64 0, .slice none 0 0, .slice none 0 0] 32)))
    have HB4 := Aside0.mk (HB3.out.alloc HB3.out.size (.cells #[.int .i64 0, .int .i64 0, .int .i64 0, .int .i64 0, .int .i64 0, .int .i64 0, .slice none 0 0, .slice none 0 0] 32))
    go_wp2_with fail
    refine q.out.mono ?_
    rintro e w5 ⟨rfl, hb5⟩
    go_wp2
    go_ret
    exact ⟨rfl, HB4.out.trans (hb5.mono HB4.out.size)⟩
end Go.Proofs.Ytmpfadiehakcgaa.PQ
