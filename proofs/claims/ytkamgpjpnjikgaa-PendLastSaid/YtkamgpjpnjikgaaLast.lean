/- PendLast walked. -/
import Derived.Test.YtkamgpjpnjikgaaWorks
import Derived.Test.YtkamgpjpnjikgaaLastPure
import Derived.Deep.CutBlock
import Derived.Deep.RegionHeld3
import Derived.Deep.DeepCutAuto
namespace Go.Proofs.Ytkamgpjpnjikgaa.PQ
open Go.RowKit Go.Proofs.YtkamgpjpnjikgaaW.PrintWords Go.Proofs.YtkamgpjpnjikgaaW.PrintLast Go.Proofs.YtkamgpjpnjikgaaW.PrintMore
set_option linter.unusedVariables false
set_option linter.unusedSimpArgs false
attribute [local go_sem high] eqA27
set_option maxHeartbeats 16000000 in
set_option maxRecDepth 100000 in
theorem last_core (a0 : Option Addr) (c0 : Nat) (zs : List S27) (w : World) (hc0 : zs.length ≤ c0) (hr : Aside0 (Kd.C k27 w a0 zs.length zs)) (hwf : Aside0 (∀ z ∈ zs, (Lit.int .i64 z.f1).wf = true)) :
    Calls Try.prog 4 #[.slice a0 zs.length c0] w fun e w' => e = .returned (.bool true) ∧ Below w.heap.size w w' := by
  have hz := Lib.hid (Kd.C_max hr.out)
  have hW := Lib.hid (works_calls w)
  go_enter Try.func4, Try.ntmps4
  go_wp2_with fail
  refine hW.out.mono ?_
  rintro e w9 ⟨rfl, hb9⟩
  have hr9 := Aside0.mk (Kd.C_below hr.out hb9)
  replace hb9 := Aside0.mk hb9
  clear hW
  have hn := Lib.hid (new_calls w9)
  go_wp2_with fail
  refine hn.out.mono ?_
  rintro e w1 ⟨rfl, hw1⟩
  have J1 := Aside0.mk (JJ.new w9)
  rw [← hw1] at J1
  clear hw1 hn
  generalize w9.heap.size + 1 = P at *
  obtain ⟨M, hM⟩ : ∃ M, Aside0 (w9.heap.size = M) := ⟨_, ⟨rfl⟩⟩
  rw [show JJ [] [] P w9.heap.size (.slice none 0 0) (.slice none 0 0) [] w9 w1 = JJ [] [] P M (.slice none 0 0) (.slice none 0 0) [] w9 w1 by rw [hM.out]] at J1
  have hzm := hz.out
  by_cases hl : zs.length ≤ 100
  · have z1 : decide ((zs.length : Int) > 100) = false := decide_eq_false (by omega)
    have z2 : decide (100 < zs.length) = false := decide_eq_false (by omega)
    have z3 : decide ((100 : Int) < (zs.length : Int)) = false := decide_eq_false (by omega)
    go_wp2
    go_loopw [34] (fun i wr => ∃ (k : Nat), k ≤ zs.length ∧ i = .int .i64 k ∧ Aside0 (∃ ov, JJ (notesL (zs.take k)) [] P M ov (.slice none 0 0) [] w9 wr)) (fun i _ => zs.length - (intOf i).toNat)
    case atStart => exact ⟨0, Nat.zero_le _, rfl, ⟨_, J1.out⟩⟩
    case round =>
      clear J1
      obtain ⟨k, hk, rfl, ⟨ov, HJ⟩⟩ := hrel
      by_cases hlt : k < zs.length
      · have yk : decide ((k : Int) < (zs.length : Int)) = true := decide_eq_true (by omega)
        obtain ⟨ad, rfl, d0, d1, d2⟩ := at_T27 (Kd.C_below hr9.out HJ.bel) (k : Int) (by omega) (by omega)
        rw [Int.toNat_natCast] at d0 d1 d2
        rw [rd_get zs k hlt] at d0 d1 d2
        have hst := Lib.hid (notesL_step zs k hlt)
        have hwy : (Lit.int .i64 (zs[k]).f1).wf = true := hwf.out _ (List.getElem_mem hlt)
        have hln := notesL_len (zs.take k)
        rw [List.length_take] at hln
        generalize zs[k] = y at *
        obtain ⟨y0, y1, y2⟩ := y
        dsimp only at *
        replace HJ := Aside0.mk (HJ.push (.cells #[.int .i64 y0, .int .i64 y1, .int .i64 y2] 27))
        have q := Lib.hid (JJ.note HJ ⟨y0, y1, y2⟩ hwy (by omega))
        dsimp only at q
        clear hln hwy
        go_wp2_with fail
        generalize hW1 : wr.alloc (.cells #[.int .i64 y0, .int .i64 y1, .int .i64 y2] 27) = W1 at *
        generalize hXx : wr.heap.size = X at *
        clear hXx
        refine q.out.mono ?_
        rintro e w2 ⟨rfl, ⟨ov2, J2⟩⟩
        replace J2 := Aside0.mk J2
        clear q HJ d0 d1 d2 hW1
        have g0 : w2.cell? ⟨X, 0, none⟩ = some (.int .i64 y0) := blk_cell J2.out.head 0
        obtain ⟨cd, hcd⟩ : ∃ cd, Aside0 (codeL ⟨y0, y1, y2⟩ = cd) := ⟨_, ⟨rfl⟩⟩
        rw [hcd.out]
        go_upto_region 10 with (fail)
        go_cut [51] (fun b wx => b = .bool false ∧ wx = w2)
        case first =>
          by_cases h1 : y0 = 1
          · subst h1
            have z4 : (cd == 0) = true := by rw [← hcd.out]; unfold codeL; rw [if_pos (.inl rfl)]; rfl
            go_wp2
            go_meet
            exact ⟨rfl, rfl⟩
          · by_cases h2 : y0 = 2
            · subst h2
              have z4 : (cd == 0) = true := by rw [← hcd.out]; unfold codeL; rw [if_pos (.inr rfl)]; rfl
              go_wp2
              go_meet
              exact ⟨rfl, rfl⟩
            · have z4 : (cd == 0) = false := by rw [← hcd.out]; unfold codeL; rw [if_neg (fun h => h.elim h1 h2)]; rfl
              have z5 : (y0 == 1) = false := by simpa using h1
              have z6 : (y0 == 2) = false := by simpa using h2
              clear h1 h2
              go_wp2
              go_meet
              exact ⟨rfl, rfl⟩
        case rest =>
          obtain ⟨rfl, rfl⟩ := hcut
          clear g0
          go_wp2
          go_roundw
          case rel => exact ⟨k + 1, by omega, by go_num, ⟨_, by rw [hst.out]; exact J2.out.pop⟩⟩
          case measure => simp [intOf]; omega
      · obtain rfl : k = zs.length := by omega
        rw [List.take_length] at HJ
        have yk : decide ((zs.length : Int) < (zs.length : Int)) = false := decide_eq_false (by omega)
        obtain ⟨hF1, hF2, hF3⟩ := notesL_facts zs
        have hFl := notesL_len zs
        generalize hFe : notesL zs = F at *
        replace hFe := Lib.hid hFe
        have q := Lib.hid (JJ.take ⟨HJ⟩)
        replace hF1 := Lib.hid hF1
        replace hF2 := Lib.hid hF2
        replace hF3 := Lib.hid hF3
        go_wp2_with fail
        refine q.out.mono ?_
        rintro e w6 ⟨u, rfl, J6, hu⟩
        clear q HJ
        obtain ⟨A6, c6, rfl⟩ := Kd.R_slice hu
        have hCF := Aside0.mk (Kd.R_reads' hu).2.2
        have hcF := Lib.hid (Kd.R_reads' hu).2.1
        have hr6 := Aside0.mk (Kd.C_below hr9.out J6.bel)
        replace J6 := Aside0.mk J6
        clear hu hr9
        go_wp2
        go_loopw [57] (fun i wq => ∃ (j : Nat), j ≤ F.length ∧ i = .int .i64 j ∧ Aside0 (Below w6.heap.size w6 wq)) (fun i _ => F.length - (intOf i).toNat)
        case atStart => exact ⟨0, Nat.zero_le _, rfl, ⟨Below.refl _ _⟩⟩
        case round =>
          obtain ⟨j, hj, rfl, hb⟩ := hrel
          by_cases hlt : j < F.length
          · have yj : decide ((j : Int) < (F.length : Int)) = true := decide_eq_true (by omega)
            obtain ⟨ad, rfl, d0, d1, d2⟩ := at_T27 (Kd.C_below hCF.out hb.out) (j : Int) (by omega) (by omega)
            rw [Int.toNat_natCast] at d0 d1 d2
            rw [rd_get F j hlt] at d0 d1 d2
            have hla := Lib.hid (hF2.out _ (List.getElem_mem hlt))
            have hne := Lib.hid fun (i : Nat) (hi : i < j) => nodup_ne hF1.out hlt hi
            have hwr : (Lit.int .i64 (F[j]).f1).wf = true := hwf.out _ (notesL_mem zs _ (by rw [hFe.out]; exact List.getElem_mem hlt))
            generalize F[j] = r at *
            obtain ⟨r0, r1, r2⟩ := r
            dsimp only at *
            have b1 := hb.out.alloc hb.out.size (.cells #[.int .i64 r0, .int .i64 r1, .int .i64 r2] 27)
            have b2 := Aside0.mk (b1.alloc b1.size (.cells #[.int .i64 0, .int .i64 0, .int .i64 0] 27))
            have k1 := Aside0.mk (blk_alloc (blk_new wr (.cells #[.int .i64 r0, .int .i64 r1, .int .i64 r2] 27)) (.cells #[.int .i64 0, .int .i64 0, .int .i64 0] 27))
            have k2 := blk_new (wr.alloc (.cells #[.int .i64 r0, .int .i64 r1, .int .i64 r2] 27)) (.cells #[.int .i64 0, .int .i64 0, .int .i64 0] 27)
            rw [show (wr.alloc (.cells #[.int .i64 r0, .int .i64 r1, .int .i64 r2] 27)).heap.size = wr.heap.size + 1 by simp] at k2
            replace k2 := Aside0.mk k2
            have hX9 := Lib.hid hb.out.size
            clear b1
            go_wp2_with fail
            generalize hW2 : (wr.alloc (.cells #[.int .i64 r0, .int .i64 r1, .int .i64 r2] 27)).alloc (.cells #[.int .i64 0, .int .i64 0, .int .i64 0] 27) = W2 at *
            clear hW2 d0 d1 d2
            generalize wr.heap.size = X9 at *
            go_loopw [65] (fun i wr => ∃ (m : Nat), m ≤ zs.length ∧ i = .int .i64 m ∧ Aside0 (Below w6.heap.size w6 wr) ∧ Aside0 (wr.heap[X9]? = some (.cells #[.int .i64 r0, .int .i64 r1, .int .i64 r2] 27 (0, 0))) ∧ Aside0 (wr.heap[X9 + 1]? = some (.cells #[.int .i64 (lastL (zs.take m) r1).f0, .int .i64 (lastL (zs.take m) r1).f1, .int .i64 (lastL (zs.take m) r1).f2] 27 (0, 0)))) (fun i _ => zs.length - (intOf i).toNat)
            case atStart => exact ⟨0, Nat.zero_le _, rfl, b2, k1, k2⟩
            case round =>
              clear b2 k1 k2 hb
              obtain ⟨m, hm, rfl, hb, k1, k2⟩ := hrel
              by_cases hltm : m < zs.length
              · have ym : decide ((m : Int) < (zs.length : Int)) = true := decide_eq_true (by omega)
                obtain ⟨ad2, rfl, d0, d1, d2⟩ := at_T27 (Kd.C_below hr6.out hb.out) (m : Int) (by omega) (by omega)
                rw [Int.toNat_natCast] at d0 d1 d2
                rw [rd_get zs m hltm] at d0 d1 d2
                have hst := Lib.hid (lastL_step zs r1 m hltm)
                generalize lastL (zs.take m) r1 = z at *
                generalize zs[m] = x at *
                obtain ⟨x0, x1, x2⟩ := x
                obtain ⟨z0', z1', z2'⟩ := z
                dsimp only at *
                have b3 := Aside0.mk (hb.out.alloc hb.out.size (.cells #[.int .i64 x0, .int .i64 x1, .int .i64 x2] 27))
                have k3 := Aside0.mk (blk_new wr (.cells #[.int .i64 x0, .int .i64 x1, .int .i64 x2] 27))
                have k1' := Aside0.mk (blk_alloc k1.out (.cells #[.int .i64 x0, .int .i64 x1, .int .i64 x2] 27))
                have k2' := Aside0.mk (blk_alloc k2.out (.cells #[.int .i64 x0, .int .i64 x1, .int .i64 x2] 27))
                go_upto_region 21 with (fail)
                generalize hW3 : wr.alloc (.cells #[.int .i64 x0, .int .i64 x1, .int .i64 x2] 27) = W3 at *
                generalize hX3 : wr.heap.size = X3 at *
                clear hW3 hX3 d0 d1 d2 hb k1 k2
                have d0 : W3.cell? ⟨X3, 0, none⟩ = some (.int .i64 x0) := blk_cell k3.out 0
                have d1 : W3.cell? ⟨X3, 1, none⟩ = some (.int .i64 x1) := blk_cell k3.out 1
                have d2 : W3.cell? ⟨X3, 2, none⟩ = some (.int .i64 x2) := blk_cell k3.out 2
                have e1 : W3.cell? ⟨X9, 1, none⟩ = some (.int .i64 r1) := blk_cell k1'.out 1
                obtain ⟨gg, hgg⟩ : ∃ gg : Bool, Aside0 (gg = decide (x1 = r1 ∧ goodR ⟨x0, x1, x2⟩ = true)) := ⟨_, ⟨rfl⟩⟩
                go_cut [83] (fun b wx => b = .bool gg ∧ wx = W3)
                case first =>
                  by_cases h1 : x1 = r1
                  · have y1 : (x1 == r1) = true := by simpa using h1
                    by_cases h2 : x0 = 1
                    · have y2 : (x0 == 1) = true := by simpa using h2
                      have y3 : gg = true := hgg.out.trans (decide_eq_true ⟨h1, decide_eq_true (.inl h2)⟩)
                      subst y3
                      clear h1 h2 hgg
                      go_wp2
                      go_meet
                      exact ⟨rfl, rfl⟩
                    · have y2 : (x0 == 1) = false := by simpa using h2
                      by_cases h3 : x0 = 2
                      · have y4 : (x0 == 2) = true := by simpa using h3
                        have y3 : gg = true := hgg.out.trans (decide_eq_true ⟨h1, decide_eq_true (.inr h3)⟩)
                        subst y3
                        clear h1 h2 h3 hgg
                        go_wp2
                        go_meet
                        exact ⟨rfl, rfl⟩
                      · have y4 : (x0 == 2) = false := by simpa using h3
                        have y3 : gg = false := hgg.out.trans (decide_eq_false (fun h => (of_decide_eq_true h.2).elim h2 h3))
                        subst y3
                        clear h1 h2 h3 hgg
                        go_wp2
                        go_meet
                        exact ⟨rfl, rfl⟩
                  · have y1 : (x1 == r1) = false := by simpa using h1
                    have y3 : gg = false := hgg.out.trans (decide_eq_false (fun h => h1 h.1))
                    subst y3
                    clear h1 hgg
                    go_wp2
                    go_meet
                    exact ⟨rfl, rfl⟩
                case rest =>
                  obtain ⟨rfl, rfl⟩ := hcut
                  have c0 : wc.cell? ⟨X9 + 1, 0, none⟩ = some (.int .i64 z0') := blk_cell k2'.out 0
                  have c1 : wc.cell? ⟨X9 + 1, 1, none⟩ = some (.int .i64 z1') := blk_cell k2'.out 1
                  have c2 : wc.cell? ⟨X9 + 1, 2, none⟩ = some (.int .i64 z2') := blk_cell k2'.out 2
                  have f0 := blk_frozen k2'.out 0
                  have f1 := blk_frozen k2'.out 1
                  have f2 := blk_frozen k2'.out 2
                  cases gg with
                  | true =>
                    have hs : lastL (zs.take (m + 1)) r1 = ⟨x0, x1, x2⟩ := by rw [hst.out]; unfold stepL; rw [if_pos (of_decide_eq_true hgg.out.symm)]
                    replace hs := Lib.hid hs
                    have hXs := hX9.out
                    have b4 := Aside0.mk (((b3.out.setCell (p := ⟨X9 + 1, 0, none⟩) (by dsimp only; omega) (.int .i64 x0)).setCell (p := ⟨X9 + 1, 1, none⟩) (by dsimp only; omega) (.int .i64 x1)).setCell (p := ⟨X9 + 1, 2, none⟩) (by dsimp only; omega) (.int .i64 x2))
                    have k4 := Aside0.mk (blk_set (blk_set (blk_set k2'.out 0 (.int .i64 x0)) 1 (.int .i64 x1)) 2 (.int .i64 x2))
                    have k5 := Aside0.mk (blk_far (blk_far (blk_far k1'.out (p := ⟨X9 + 1, 0, none⟩) (by dsimp only; omega) (.int .i64 x0)) (p := ⟨X9 + 1, 1, none⟩) (by dsimp only; omega) (.int .i64 x1)) (p := ⟨X9 + 1, 2, none⟩) (by dsimp only; omega) (.int .i64 x2))
                    clear hXs
                    go_wp2
                    go_roundw
                    case rel => exact ⟨m + 1, by omega, by go_num, b4, k5, ⟨by rw [hs.out]; exact k4.out⟩⟩
                    case measure => simp [intOf]; omega
                  | false =>
                    have hs : lastL (zs.take (m + 1)) r1 = ⟨z0', z1', z2'⟩ := by rw [hst.out]; unfold stepL; rw [if_neg (of_decide_eq_false hgg.out.symm)]
                    replace hs := Lib.hid hs
                    go_wp2
                    go_roundw
                    case rel => exact ⟨m + 1, by omega, by go_num, b3, k1', ⟨by rw [hs.out]; exact k2'.out⟩⟩
                    case measure => simp [intOf]; omega
              · obtain rfl : m = zs.length := by omega
                have ym : decide ((zs.length : Int) < (zs.length : Int)) = false := decide_eq_false (by omega)
                rw [List.take_length, hla.out] at k2
                have e0 : wr.cell? ⟨X9, 0, none⟩ = some (.int .i64 r0) := blk_cell k1.out 0
                have e1 : wr.cell? ⟨X9, 1, none⟩ = some (.int .i64 r1) := blk_cell k1.out 1
                have e2 : wr.cell? ⟨X9, 2, none⟩ = some (.int .i64 r2) := blk_cell k1.out 2
                have g0 : wr.cell? ⟨X9 + 1, 0, none⟩ = some (.int .i64 r0) := blk_cell k2.out 0
                have g1 : wr.cell? ⟨X9 + 1, 1, none⟩ = some (.int .i64 r1) := blk_cell k2.out 1
                have g2 : wr.cell? ⟨X9 + 1, 2, none⟩ = some (.int .i64 r2) := blk_cell k2.out 2
                have q := Lib.hid (JJ.has (⟨J6.out.below hb.out⟩ : Aside0 (JJ [] [] P M (.slice none 0 0) (.slice none 0 0) [] w9 wr)) r1 hwr)
                rw [show hasL [] r1 = false from rfl] at q
                go_wp2_with fail
                refine q.out.mono ?_
                rintro e w7 ⟨rfl, hb7⟩
                replace k1 := Aside0.mk (blk_below k1.out hb7)
                replace hb := Aside0.mk (hb.out.trans (hb7.mono hb.out.size))
                clear q e0 e1 e2 g0 g1 g2 k2 hb7
                have hcF2 := hcF.out
                have s1 : j ≤ c6 := by omega
                have s2 : decide ((j : Int) ≤ (F.length : Int)) = true := decide_eq_true (by omega)
                go_wp2
                go_loopw [99] (fun i wr => ∃ (m : Nat), m ≤ j ∧ i = .int .i64 m ∧ Aside0 (Below w6.heap.size w6 wr) ∧ Aside0 (wr.heap[X9]? = some (.cells #[.int .i64 r0, .int .i64 r1, .int .i64 r2] 27 (0, 0)))) (fun i _ => j - (intOf i).toNat)
                case atStart => exact ⟨0, Nat.zero_le _, rfl, hb, k1⟩
                case round =>
                  clear hb k1
                  obtain ⟨m, hm, rfl, hb, k1⟩ := hrel
                  by_cases hltm : m < j
                  · have ym : decide ((m : Int) < (j : Int)) = true := decide_eq_true (by omega)
                    obtain ⟨ad2, e9, d0, d1, d2⟩ := at_T27 (Kd.C_below hCF.out hb.out) (m : Int) (by omega) (by omega)
                    cases e9
                    rw [Int.toNat_natCast] at d0 d1 d2
                    rw [rd_get F m (by omega)] at d0 d1 d2
                    have hnn := hne.out m hltm
                    generalize F[m] = x at *
                    obtain ⟨x0, x1, x2⟩ := x
                    dsimp only at *
                    have y5 : (x1 == r1) = false := beq_eq_false_iff_ne.2 hnn
                    have b3 := Aside0.mk (hb.out.alloc hb.out.size (.cells #[.int .i64 x0, .int .i64 x1, .int .i64 x2] 27))
                    have k1' := Aside0.mk (blk_alloc k1.out (.cells #[.int .i64 x0, .int .i64 x1, .int .i64 x2] 27))
                    have e1 : (wr.alloc (.cells #[.int .i64 x0, .int .i64 x1, .int .i64 x2] 27)).cell? ⟨X9, 1, none⟩ = some (.int .i64 r1) := blk_cell k1'.out 1
                    clear hb k1 hnn
                    go_wp2
                    go_roundw
                    case rel => exact ⟨m + 1, by omega, by go_num, b3, k1'⟩
                    case measure => simp [intOf]; omega
                  · obtain rfl : m = j := by omega
                    have ym : decide ((m : Int) < (m : Int)) = false := decide_eq_false (by omega)
                    go_wp2
                    go_roundw
                    case rel => exact ⟨m + 1, by omega, by go_num, hb⟩
                    case measure => simp [intOf]; omega
          · obtain rfl : j = F.length := by omega
            have yj : decide ((F.length : Int) < (F.length : Int)) = false := decide_eq_false (by omega)
            go_wp2
            go_loopw [112] (fun i wr => ∃ (m : Nat), m ≤ zs.length ∧ i = .int .i64 m ∧ Aside0 (Below w6.heap.size w6 wr)) (fun i _ => zs.length - (intOf i).toNat)
            case atStart => exact ⟨0, Nat.zero_le _, rfl, hb⟩
            case round =>
              clear hb
              obtain ⟨m, hm, rfl, hb⟩ := hrel
              by_cases hltm : m < zs.length
              · have ym : decide ((m : Int) < (zs.length : Int)) = true := decide_eq_true (by omega)
                obtain ⟨ad2, rfl, d0, d1, d2⟩ := at_T27 (Kd.C_below hr6.out hb.out) (m : Int) (by omega) (by omega)
                rw [Int.toNat_natCast] at d0 d1 d2
                rw [rd_get zs m hltm] at d0 d1 d2
                have hth := Lib.hid (hF3.out _ (List.getElem_mem hltm))
                generalize zs[m] = x at *
                obtain ⟨x0, x1, x2⟩ := x
                dsimp only at *
                have b3 := Aside0.mk (hb.out.alloc hb.out.size (.cells #[.int .i64 x0, .int .i64 x1, .int .i64 x2] 27))
                have k3 := Aside0.mk (blk_new wr (.cells #[.int .i64 x0, .int .i64 x1, .int .i64 x2] 27))
                go_wp2_with fail
                generalize hW3 : wr.alloc (.cells #[.int .i64 x0, .int .i64 x1, .int .i64 x2] 27) = W3 at *
                generalize hX3 : wr.heap.size = X3 at *
                clear hW3 hX3 d0 d1 d2 hb
                go_loopw [17, 118] (fun t i wr => ∃ (q : Nat), q ≤ F.length ∧ i = .int .i64 q ∧ t = .bool (hasL (F.take q) x1) ∧ Aside0 (Below w6.heap.size w6 wr) ∧ Aside0 (wr.heap[X3]? = some (.cells #[.int .i64 x0, .int .i64 x1, .int .i64 x2] 27 (0, 0)))) (fun _ i _ => F.length - (intOf i).toNat)
                case atStart => exact ⟨0, Nat.zero_le _, rfl, rfl, b3, k3⟩
                case round =>
                  clear b3 k3
                  obtain ⟨q, hq, rfl, rfl, hb, k3⟩ := hrel
                  by_cases hltq : q < F.length
                  · have yq : decide ((q : Int) < (F.length : Int)) = true := decide_eq_true (by omega)
                    obtain ⟨ad3, e9, d0, d1, d2⟩ := at_T27 (Kd.C_below hCF.out hb.out) (q : Int) (by omega) (by omega)
                    rw [Int.toNat_natCast] at d0 d1 d2
                    rw [rd_get F q hltq] at d0 d1 d2
                    have hst := Lib.hid (hasL_step F x1 q hltq)
                    subst e9
                    generalize F[q] = y at *
                    generalize hasL (F.take q) x1 = bq at *
                    obtain ⟨y0, y1, y2⟩ := y
                    dsimp only at *
                    have b4 := Aside0.mk (hb.out.alloc hb.out.size (.cells #[.int .i64 y0, .int .i64 y1, .int .i64 y2] 27))
                    have k3' := Aside0.mk (blk_alloc k3.out (.cells #[.int .i64 y0, .int .i64 y1, .int .i64 y2] 27))
                    have e1 : (wr.alloc (.cells #[.int .i64 y0, .int .i64 y1, .int .i64 y2] 27)).cell? ⟨X3, 1, none⟩ = some (.int .i64 x1) := blk_cell k3'.out 1
                    clear hb k3
                    cases bq with
                    | true =>
                      go_wp2
                      go_roundw
                      case rel => exact ⟨q + 1, by omega, by go_num, by rw [hst.out]; rfl, b4, k3'⟩
                      case measure => simp [intOf]; omega
                    | false =>
                      go_wp2
                      go_roundw
                      case rel => exact ⟨q + 1, by omega, by go_num, by rw [hst.out, Bool.false_or]; rfl, b4, k3'⟩
                      case measure => simp [intOf]; omega
                  · obtain rfl : q = F.length := by omega
                    have yq : decide ((F.length : Int) < (F.length : Int)) = false := decide_eq_false (by omega)
                    rw [List.take_length]
                    have e0 : wr.cell? ⟨X3, 0, none⟩ = some (.int .i64 x0) := blk_cell k3.out 0
                    generalize hasL F x1 = bq at *
                    cases bq with
                    | true =>
                      go_wp2
                      go_roundw
                      case rel => exact ⟨m + 1, by omega, by go_num, hb⟩
                      case measure => simp [intOf]; omega
                    | false =>
                      have y1 : (x0 == 1) = false := by
                        rw [beq_eq_false_iff_ne]
                        intro h
                        exact absurd (hth.out (decide_eq_true (.inl h))) (by decide)
                      have y2 : (x0 == 2) = false := by
                        rw [beq_eq_false_iff_ne]
                        intro h
                        exact absurd (hth.out (decide_eq_true (.inr h))) (by decide)
                      go_wp2
                      go_roundw
                      case rel => exact ⟨m + 1, by omega, by go_num, hb⟩
                      case measure => simp [intOf]; omega
              · obtain rfl : m = zs.length := by omega
                have ym : decide ((zs.length : Int) < (zs.length : Int)) = false := decide_eq_false (by omega)
                have J8 := Aside0.mk (J6.out.below hb.out)
                have q := Lib.hid (JJ.len J8)
                go_wp2_with fail
                refine q.out.mono ?_
                rintro e w10 ⟨rfl, rfl⟩
                clear q
                have q := Lib.hid (JJ.trims J8)
                rw [show trL [] = 0 from rfl] at q
                go_wp2_with fail
                refine q.out.mono ?_
                rintro e w11 ⟨rfl, hb11⟩
                have fin := Aside0.mk (hb9.out.trans ((J8.out.bel.trans (hb11.mono J8.out.bel.size)).mono hb9.out.size))
                clear q hb11
                go_wp2
                go_ret
                exact ⟨rfl, fin.out⟩
  · have z1 : decide ((zs.length : Int) > 100) = true := decide_eq_true (by omega)
    have z2 : decide (100 < zs.length) = true := decide_eq_true (by omega)
    have z3 : decide ((100 : Int) < (zs.length : Int)) = true := decide_eq_true (by omega)
    have fin := Aside0.mk (hb9.out.trans (J1.out.bel.mono hb9.out.size))
    go_wp2
    go_ret
    exact ⟨rfl, fin.out⟩
end Go.Proofs.Ytkamgpjpnjikgaa.PQ
