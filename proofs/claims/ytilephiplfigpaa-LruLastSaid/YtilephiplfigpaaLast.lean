/- LruLast walked. -/
import Derived.Test.YtilephiplfigpaaLastFn
import Derived.Deep.CutBlock
namespace Go.Proofs.Ytilephiplfigpaa.PQ
open Go.RowKit Go.Proofs.YtilephiplfigpaaW.PrintWords Go.Proofs.YtilephiplfigpaaW.PrintLast Go.Proofs.YtilephiplfigpaaW.PrintMore
set_option linter.unusedVariables false
set_option linter.unusedSimpArgs false
set_option maxHeartbeats 16000000 in
set_option maxRecDepth 100000 in
theorem last_core (a0 : Int) (a1 : Option Addr) (c1 : Nat) (zs : List S30) (w : World) (hr : Aside0 (Kd.C k30 w a1 zs.length zs)) (hc1 : zs.length ≤ c1) :
    Calls Try.prog 3 #[.int .i64 a0, .slice a1 zs.length c1] w fun e w' => e = .returned (.bool true) ∧ Below w.heap.size w w' := by
  have q := Lib.hid (works_calls w)
  obtain ⟨_, hlo, hhi⟩ := blw_f a0 10 (by decide) (by decide)
  have q7 := Lib.hid fun w' => blw_calls a0 10 (by decide) (by decide) w'
  generalize blw a0 10 = bb at *
  have hw : wrap64 (1 + bb) = 1 + bb := by rw [Go.IntWalk.wrap64_in _ ⟨by omega, by omega⟩]
  go_enter Try.func3, Try.ntmps3
  go_wp2_with fail
  refine q.out.mono ?_
  rintro e w1 ⟨rfl, hb1⟩
  go_wp2_with fail
  refine (q7.out _).mono ?_
  rintro e w2 ⟨rfl, hb2⟩
  generalize hroom : 1 + bb = room at *
  have qn := Lib.hid (JL.new room ⟨by omega, by omega⟩ w2)
  go_wp2_with fail
  refine qn.out.mono ?_
  rintro e w3 ⟨rfl, J0⟩
  have hB2 : Below w.heap.size w w2 := hb1.trans (hb2.mono hb1.size)
  have J1 := Aside0.mk (J0.out.rebase hB2)
  have hr' := Aside0.mk hr.out
  generalize w2.heap.size + 1 = P at *
  generalize w2.heap.size = M at *
  clear J0 q q7 qn hb1 hb2 hB2
  by_cases hl : 100 < zs.length
  · have z2 : decide ((100 : Int) < (zs.length : Int)) = true := decide_eq_true (by omega)
    go_wp2
    go_ret
    exact ⟨rfl, J1.out.bel⟩
  have z2 : decide ((100 : Int) < (zs.length : Int)) = false := decide_eq_false (by omega)
  have hz := Lib.hid (Kd.C_max hr.out)
  go_wp2
  go_loopw [34] (fun y wr => ∃ (k hh mm : Nat) (L : List EL), k ≤ zs.length ∧ hh ≤ k ∧ mm ≤ k ∧ y = .int .i64 (k : Int) ∧ Aside0 (JL room hh mm L [] P M (.slice none 0 0) [] w wr ∧ absL L = dOf room (zs.take k))) (fun y _ => zs.length - (intOf y).toNat)
  case atStart => exact ⟨0, 0, 0, [], Nat.zero_le _, Nat.le_refl _, Nat.le_refl _, rfl, ⟨J1.out, rfl⟩⟩
  case round =>
    obtain ⟨k, hh, mm, L, hk, hhk, hmk, rfl, HJ⟩ := hrel
    by_cases hlt : k < zs.length
    · have yk : decide ((k : Int) < (zs.length : Int)) = true := decide_eq_true (by omega)
      have hTk : zs.take (k + 1) = zs.take k ++ [zs[k]] := List.take_succ_eq_append_getElem hlt
      have hI := Aside0.mk (invL_all (room := room) (by omega) zs (k + 1) (by omega))
      have hI0 := Aside0.mk (invL_all (room := room) (by omega) zs k (by omega))
      have hd1 := Aside0.mk (show dOf room (zs.take (k + 1)) = stepD room (dOf room (zs.take k)) zs[k] by rw [hTk, dOf_snoc])
      clear hTk
      obtain ⟨ad, rfl, d0, d1, d2⟩ := at_T30 (Kd.C_below hr.out HJ.out.1.bel) (k : Int) (by omega) (by omega)
      rw [Int.toNat_natCast] at d0 d1 d2
      rw [rd_get30 zs k hlt] at d0 d1 d2
      generalize zs[k] = y at *
      obtain ⟨y0, y1, y2⟩ := y
      dsimp only at *
      have hL := Aside0.mk HJ.out.2
      have hX := Lib.hid HJ.out.1.bel.size
      replace HJ := Aside0.mk (HJ.out.1.push (.cells #[.int .i64 y0, .int .i64 y1, .string y2] 30))
      have g1 : (wr.alloc (.cells #[.int .i64 y0, .int .i64 y1, .string y2] 30)).cell? ⟨wr.heap.size, 1, none⟩ = some (.int .i64 y1) := blk_cell HJ.out.head 1
      have q7 := Lib.hid fun w' => blw_calls y1 16 (by decide) (by decide) w'
      go_wp2_with fail
      generalize wr.heap.size = X at *
      generalize wr.alloc (.cells #[.int .i64 y0, .int .i64 y1, .string y2] 30) = W1 at *
      refine (q7.out _).mono ?_
      rintro e w7 ⟨rfl, hb7⟩
      have hbwf := Lib.hid (blw_wf y1 16 (by decide) (by decide))
      have hbO : bOf ⟨y0, y1, y2⟩ = blw y1 16 := rfl
      replace hbO := Aside0.mk hbO
      generalize blw y1 16 = b at *
      have J3 := Aside0.mk ((HJ.out.below hb7).set (i := 1) (fun q hq => absurd hq List.not_mem_nil) hX.out (.int .i64 b))
      have c1' : w7.cell? ⟨X, 1, none⟩ = some (.int .i64 y1) := blk_cell (HJ.out.below hb7).head 1
      have f1' : w7.frozen? ⟨X, 1, none⟩ = false := blk_frozen (HJ.out.below hb7).head 1
      have e0 : (w7.setCell ⟨X, 1, none⟩ (.int .i64 b)).cell? ⟨X, 0, none⟩ = some (.int .i64 y0) := blk_cell J3.out.head 0
      have e1 : (w7.setCell ⟨X, 1, none⟩ (.int .i64 b)).cell? ⟨X, 1, none⟩ = some (.int .i64 b) := blk_cell J3.out.head 1
      have e2 : (w7.setCell ⟨X, 1, none⟩ (.int .i64 b)).cell? ⟨X, 2, none⟩ = some (.string y2) := blk_cell J3.out.head 2
      go_upto_if 45 with (fail)
      clear c1' f1' d0 d1 d2 HJ hb7 g1
      generalize w7.setCell ⟨X, 1, none⟩ (.int .i64 b) = W8 at *
      go_cut [5] (fun p wx => p = .pointer (some ⟨P, 0, none⟩) ∧ ∃ (hh' mm' : Nat) (L' : List EL), hh' ≤ k + 1 ∧ mm' ≤ k + 1 ∧ Aside0 (JL room hh' mm' L' [] P M (.slice none 0 0) [] w wx ∧ absL L' = dOf room (zs.take (k + 1))))
      case first =>
        by_cases h0 : y0 = 0
        · subst h0
          have hLl := Lib.hid (show (L.length : Int) ≤ room ∧ L.length ≤ 100000 from by have h1 := hI0.out.cnt; rw [← hL.out, absL_len] at h1; omega)
          have q9 := Lib.hid (JL.put J3 b y2 hbwf.out hLl.out)
          have hs : (putO (absL L) room ⟨b, y2⟩).1 = dOf room (zs.take (k + 1)) := by
            rw [hd1.out, ← hL.out]
            unfold stepD
            rw [if_pos rfl, hbO.out]
          replace hs := Aside0.mk hs
          generalize (putO (absL L) room ⟨b, y2⟩) = pr at *
          obtain ⟨pr1, pr2, pr3⟩ := pr
          dsimp only at *
          go_wp2_with fail
          refine q9.out.mono ?_
          rintro e w9 ⟨rfl, hA⟩
          obtain ⟨L', hL', hlL, J4⟩ := hA.out
          replace hL' := Aside0.mk hL'
          replace hlL := Aside0.mk hlL
          replace J4 := Aside0.mk J4
          clear hA
          go_wp2
          go_meet
          exact ⟨rfl, hh, mm, L', by omega, by omega, ⟨J4.out.pop, hL'.out.trans hs.out⟩⟩
        · have z0 : (y0 == 0) = false := by rw [beq_eq_false_iff_ne]; exact h0
          cases hO : isO (absL L) b with
          | none =>
            have hs : absL L = dOf room (zs.take (k + 1)) := by
              rw [hd1.out, ← hL.out]
              unfold stepD
              rw [if_neg h0, hbO.out, hO]
            replace hs := Aside0.mk hs
            have q10 := Lib.hid (JL.peek_no J3 hbwf.out (isO_no hO))
            clear hO
            go_wp2_with fail
            refine q10.out.mono ?_
            rintro e w9 ⟨rfl, J4⟩
            go_wp2
            go_meet
            exact ⟨rfl, hh, mm, L, by omega, by omega, ⟨J4.out.pop, hs.out⟩⟩
          | some s =>
            obtain ⟨D, hD⟩ := J3.out.lat
            obtain ⟨i, e, he, rfl, rfl⟩ := isO_at hD hO
            clear hD D
            have hs : firstO (absL L) ⟨e.lba, e.data⟩ = dOf room (zs.take (k + 1)) := by
              rw [hd1.out, ← hL.out]
              unfold stepD
              rw [if_neg h0, hbO.out, hO]
            replace hs := Aside0.mk hs
            have q10 := Lib.hid (JL.peek_at J3 he)
            clear hO
            go_wp2_with fail
            refine q10.out.mono ?_
            rintro e' w9 ⟨rfl, J4⟩
            have q11 := Lib.hid (JL.get_at J4 he ⟨by omega, by omega⟩)
            have f0 : w9.cell? ⟨X, 0, none⟩ = some (.int .i64 y0) := blk_cell J4.out.head 0
            have f1 : w9.cell? ⟨X, 1, none⟩ = some (.int .i64 e.lba) := blk_cell J4.out.head 1
            have f2 : w9.cell? ⟨X, 2, none⟩ = some (.string y2) := blk_cell J4.out.head 2
            replace he := Aside0.mk he
            go_wp2_with fail
            refine q11.out.mono ?_
            rintro e' w10 ⟨rfl, hA⟩
            obtain ⟨L', hL', hlL, J5⟩ := hA.out
            replace hL' := Aside0.mk hL'
            replace hlL := Aside0.mk hlL
            replace J5 := Aside0.mk J5
            clear hA
            go_wp2
            go_meet
            exact ⟨rfl, hh + 1, mm, L', by omega, by omega, ⟨J5.out.pop, hL'.out.trans hs.out⟩⟩
      case rest =>
        obtain ⟨rfl, hh', mm', L', hh1, hm1, HJ2⟩ := hcut
        clear J3 e0 e1 e2 hL
        have hIl := Lib.hid (show L'.length ≤ 10 ∧ (L'.length : Int) ≤ room from by have h1 := hI.out.cnt; rw [← HJ2.out.2, absL_len] at h1; omega)
        have q12 := Lib.hid (JL.len (Aside0.mk HJ2.out.1))
        have y1 : decide ((L'.length : Int) > room) = false := decide_eq_false (by have := hIl.out.2; omega)
        have y2 : decide (room < (L'.length : Int)) = false := decide_eq_false (by have := hIl.out.2; omega)
        go_wp2_with fail
        refine q12.out.mono ?_
        rintro e w9 ⟨rfl, rfl⟩
        go_wp2_with fail
        obtain ⟨D, hD⟩ := HJ2.out.1.lat
        have hlen : (zs.take (k + 1)).length = k + 1 := by rw [List.length_take]; omega
        have hKd : Kd.C k30 w9 (some ad) (zs.take (k + 1)).length (zs.take (k + 1)) := Kd.C_take (Kd.C_below hr.out HJ2.out.1.bel) (by omega)
        have q13 := last_calls w.heap.size room hh' mm' L' (dOf room (zs.take (k + 1))) (zs.take (k + 1)) P M D (some ad) c1 w9 ⟨HJ2.out.2⟩ (by rw [← HJ2.out.2, absL_len]) (by omega) hI ⟨by omega, by omega⟩ ⟨hD⟩ ⟨hKd⟩ (by omega)
        rw [hlen] at q13
        replace q13 := Lib.hid q13
        clear hlen hKd hD
        refine q13.out.mono ?_
        rintro e w10 ⟨rfl, hb10⟩
        go_wp2
        go_roundw
        case rel => exact ⟨k + 1, hh', mm', L', by omega, hh1, hm1, rfl, ⟨HJ2.out.1.below hb10, HJ2.out.2⟩⟩
        case measure => (simp [intOf]; omega)
    · obtain rfl : k = zs.length := by omega
      have yk : decide ((zs.length : Int) < (zs.length : Int)) = false := decide_eq_false (by omega)
      go_wp2
      go_ret
      exact ⟨rfl, HJ.out.1.bel⟩
end Go.Proofs.Ytilephiplfigpaa.PQ
