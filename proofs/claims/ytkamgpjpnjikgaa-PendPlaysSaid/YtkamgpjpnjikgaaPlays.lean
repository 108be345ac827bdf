/- PendPlays walked. -/
import Derived.Test.YtkamgpjpnjikgaaWorks
import Derived.Test.YtkamgpjpnjikgaaAct
import Derived.Deep.CutBlock
import Derived.Deep.RegionHeld3
import Derived.Deep.DeepCutAuto
namespace Go.Proofs.Ytkamgpjpnjikgaa.PQ
open Go.RowKit Go.Proofs.YtkamgpjpnjikgaaW.PrintWords Go.Proofs.YtkamgpjpnjikgaaW.PrintLast Go.Proofs.YtkamgpjpnjikgaaW.PrintMore
set_option linter.unusedVariables false
set_option linter.unusedSimpArgs false
theorem getJJ {p : Prop} {Lp Ld : List S27} {P M : Nat} {ov v : Value} {bx : List (Nat × Obj)} {w0 w : World} (h : p ∧ Aside0 (JJ Lp Ld P M ov v bx w0 w)) : JJ Lp Ld P M ov v bx w0 w := h.2.out
set_option maxHeartbeats 16000000 in
set_option maxRecDepth 100000 in
theorem plays_core (a0 : Option Addr) (c0 : Nat) (zs : List S29) (w : World) (hr : Aside0 (Kd.C k29 w a0 zs.length zs)) (hwf : Aside0 (∀ z ∈ zs, (Lit.int .i64 z.f2.f1).wf = true)) :
    Calls Try.prog 3 #[.slice a0 zs.length c0] w fun e w' => e = .returned (.bool true) ∧ Below w.heap.size w w' := by
  have hz := Lib.hid (Kd.C_max hr.out)
  have hn := Lib.hid (new_calls w)
  go_enter Try.func3, Try.ntmps3
  go_wp2_with fail
  refine hn.out.mono ?_
  rintro e w1 ⟨rfl, hw1⟩
  have J1 := Aside0.mk (JJ.new w)
  rw [← hw1] at J1
  have hPw : w.heap.size ≤ w.heap.size + 1 := by omega
  clear hw1 hn
  generalize w.heap.size + 1 = P at *
  obtain ⟨M, hM⟩ : ∃ M, Aside0 (w.heap.size = M) := ⟨_, ⟨rfl⟩⟩
  rw [show JJ [] [] P w.heap.size (.slice none 0 0) (.slice none 0 0) [] w w1 = JJ [] [] P M (.slice none 0 0) (.slice none 0 0) [] w w1 by rw [hM.out]] at J1
  replace hPw := Lib.hid hPw
  go_wp2
  go_loopw [4, 5] (fun d y wr => ∃ (k : Nat) (L : List S27), k ≤ zs.length ∧ k ≤ 100 ∧ y = .int .i64 k ∧ Aside0 (L.length ≤ k ∧ ∃ ov, JJ L L P M ov d [] w wr)) (fun _ y _ => zs.length - (intOf y).toNat)
  case atStart => exact ⟨0, [], Nat.zero_le _, by omega, rfl, ⟨Nat.le_refl _, _, J1.out⟩⟩
  case round =>
    clear J1
    obtain ⟨k, L, hk, hk1, rfl, HL⟩ := hrel
    obtain ⟨hLk, ov, HJ⟩ := HL.out
    clear HL
    have hzm := hz.out
    obtain ⟨A5, c5, rfl⟩ := Kd.R_slice HJ.row
    by_cases hc : k < zs.length ∧ k < 100
    · obtain ⟨hc1, hc2⟩ := hc
      have yk : decide ((k : Int) < (zs.length : Int)) = true := decide_eq_true (by omega)
      have yk2 : decide ((k : Int) < 100) = true := decide_eq_true (by omega)
      have i0 : decide ((0 : Int) ≤ (k : Int)) = true := decide_eq_true (by omega)
      obtain ⟨ad, rfl, d0, d1, d2, d3, d4⟩ := at_T29 (Kd.C_below hr.out HJ.bel) (k : Int) (by omega) (by omega)
      rw [Int.toNat_natCast] at d0 d1 d2 d3 d4
      have hwy : (Lit.int .i64 (rd_T29 zs (k : Int)).f2.f1).wf = true := hwf.out _ (by unfold rd_T29; rw [Int.toNat_natCast, List.getD_eq_getElem?_getD, List.getElem?_eq_getElem hc1]; exact List.getElem_mem hc1)
      generalize (rd_T29 zs (k : Int)).f0 = y0 at *
      generalize (rd_T29 zs (k : Int)).f1 = y1 at *
      generalize (rd_T29 zs (k : Int)).f2.f0 = y2 at *
      generalize (rd_T29 zs (k : Int)).f2.f1 = y3 at *
      generalize (rd_T29 zs (k : Int)).f2.f2 = y4 at *
      replace HJ := Aside0.mk (HJ.push (.cells #[.int .i64 y0, .int .i64 y1, .int .i64 y2, .int .i64 y3, .int .i64 y4] 29))
      replace hwy := Lib.hid hwy
      replace hLk := Lib.hid hLk
      go_upto_block 2 with (fail)
      generalize hX : wr.heap.size = X at *
      generalize hW1 : wr.alloc (.cells #[.int .i64 y0, .int .i64 y1, .int .i64 y2, .int .i64 y3, .int .i64 y4] 29) = W1 at *
      clear hX hW1 d0 d1 d2 d3 d4
      go_cut [4] (fun d wx => Aside0 (∃ L' ov', L'.length ≤ k + 1 ∧ JJ L' L' P M ov' d [(X, .cells #[.int .i64 y0, .int .i64 y1, .int .i64 y2, .int .i64 y3, .int .i64 y4] 29 (0, 0))] w wx))
      case first =>
        have g1 : W1.cell? ⟨X, 1, none⟩ = some (.int .i64 y1) := blk_cell HJ.out.head 1
        have g2 : W1.cell? ⟨X, 2, none⟩ = some (.int .i64 y2) := blk_cell HJ.out.head 2
        have g3 : W1.cell? ⟨X, 3, none⟩ = some (.int .i64 y3) := blk_cell HJ.out.head 3
        have g4 : W1.cell? ⟨X, 4, none⟩ = some (.int .i64 y4) := blk_cell HJ.out.head 4
        by_cases h0 : y0 = 0
        · subst h0
          have q := Lib.hid (JJ.note HJ ⟨y2, y3, y4⟩ hwy.out (by have := hLk.out; omega))
          dsimp only at q
          go_wp2_with fail
          refine q.out.mono ?_
          rintro e w2 ⟨rfl, ⟨ov2, J2⟩⟩
          replace J2 := Aside0.mk J2
          clear q HJ g1 g2 g3 g4
          have g2 : w2.cell? ⟨X, 2, none⟩ = some (.int .i64 y2) := blk_cell J2.out.head 2
          have g3 : w2.cell? ⟨X, 3, none⟩ = some (.int .i64 y3) := blk_cell J2.out.head 3
          have g4 : w2.cell? ⟨X, 4, none⟩ = some (.int .i64 y4) := blk_cell J2.out.head 4
          have q := Lib.hid (JJ.refNote J2 ⟨y2, y3, y4⟩ (by have := hLk.out; omega))
          dsimp only at q
          generalize codeL ⟨y2, y3, y4⟩ = cd at *
          go_wp2_with fail
          refine q.out.mono ?_
          rintro e w3 ⟨v3, rfl, J3⟩
          replace J3 := Aside0.mk J3
          clear q J2 g2 g3 g4
          go_wp2
          go_meet
          exact ⟨⟨_, _, by have := noteL_len L ⟨y2, y3, y4⟩; have := hLk.out; omega, J3.out⟩⟩
        · have z0 : (y0 == 0) = false := beq_eq_false_iff_ne.2 h0
          replace h0 := Lib.hid h0
          by_cases h1 : y0 = 1
          · subst h1
            have q := Lib.hid (JJ.take HJ)
            go_wp2_with fail
            refine q.out.mono ?_
            rintro e w2 ⟨u, rfl, J2, hu⟩
            have q2 := Lib.hid (J2.same hu)
            replace J2 := Aside0.mk J2
            replace hu := Aside0.mk hu
            clear q HJ g1 g2 g3 g4
            go_wp2_with fail
            refine q2.out.mono ?_
            rintro e w3 ⟨rfl, hd⟩
            have J3 := J2.out.below hd.below
            have q3 := Lib.hid (J3.spoil (by have := hLk.out; omega) (Kd.R_below hu.out hd.below))
            clear q2 J2 hu hd J3
            go_wp2_with fail
            refine q3.out.mono ?_
            rintro e w4 ⟨rfl, J4⟩
            clear q3
            go_wp2
            go_meet
            exact ⟨⟨[], _, by simp, J4.out⟩⟩
          · have z1 : (y0 == 1) = false := beq_eq_false_iff_ne.2 h1
            have q := Lib.hid (JJ.told HJ y1)
            clear h1
            go_wp2_with fail
            refine q.out.mono ?_
            rintro e w2 ⟨rfl, J2⟩
            clear q HJ g1 g2 g3 g4
            go_wp2
            go_meet
            exact ⟨⟨L, _, by have := hLk.out; omega, J2.out⟩⟩
      case rest =>
        obtain ⟨L', ov', hL', hk'⟩ := hcut.out
        clear hcut HJ hLk
        obtain ⟨A6, c6, rfl⟩ := Kd.R_slice hk'.row
        replace hL' := Lib.hid hL'
        have hk := Aside0.mk hk'
        clear hk'
        have q12 := Lib.hid fun w' (hj : JJ L' L' P M ov' (.slice A6 L'.length c6) [(X, .cells #[.int .i64 y0, .int .i64 y1, .int .i64 y2, .int .i64 y3, .int .i64 y4] 29 (0, 0))] w w') => (JJ.len ⟨hj⟩).mono fun e w2 (h : e = .returned (.int .i64 L'.length) ∧ w2 = w') => (⟨h.1, h.2 ▸ Below.refl _ _⟩ : e = .returned (.int .i64 L'.length) ∧ Below w'.heap.size w' w2)
        have q13 := Lib.hid fun w' (hj : JJ L' L' P M ov' (.slice A6 L'.length c6) [(X, .cells #[.int .i64 y0, .int .i64 y1, .int .i64 y2, .int .i64 y3, .int .i64 y4] 29 (0, 0))] w w') => JJ.trims ⟨hj⟩
        have q14 := Lib.hid fun w' (hj : JJ L' L' P M ov' (.slice A6 L'.length c6) [(X, .cells #[.int .i64 y0, .int .i64 y1, .int .i64 y2, .int .i64 y3, .int .i64 y4] 29 (0, 0))] w w') => JJ.refTrims ⟨hj⟩
        have q15 := Lib.hid fun w' (hj : JJ L' L' P M ov' (.slice A6 L'.length c6) [(X, .cells #[.int .i64 y0, .int .i64 y1, .int .i64 y2, .int .i64 y3, .int .i64 y4] 29 (0, 0))] w w') => JJ.has ⟨hj⟩ y3 hwy.out
        have q16 := Lib.hid fun w' (hj : JJ L' L' P M ov' (.slice A6 L'.length c6) [(X, .cells #[.int .i64 y0, .int .i64 y1, .int .i64 y2, .int .i64 y3, .int .i64 y4] 29 (0, 0))] w w') => JJ.refHas ⟨hj⟩ y3
        have hss := Lib.hid fun (w' : World) (hj : JJ L' L' P M ov' (.slice A6 L'.length c6) [(X, .cells #[.int .i64 y0, .int .i64 y1, .int .i64 y2, .int .i64 y3, .int .i64 y4] 29 (0, 0))] w w') => (show w'.cell? ⟨X, 3, none⟩ = some (.int .i64 y3) ∧ Aside0 (JJ L' L' P M ov' (.slice A6 L'.length c6) [(X, .cells #[.int .i64 y0, .int .i64 y1, .int .i64 y2, .int .i64 y3, .int .i64 y4] 29 (0, 0))] w w') from ⟨blk_cell hj.head 3, ⟨hj⟩⟩)
        generalize trL L' = tn at *
        generalize hasL L' y3 = hb at *
        generalize hn : L'.length = ln at *
        replace hn := Lib.hid hn
        go_upto_region 24 with (fail)
        refine wp_region_held_drew (S := (fun w' => w'.cell? ⟨X, 3, none⟩ = some (.int .i64 y3) ∧ Aside0 (JJ L' L' P M ov' (.slice A6 ln c6) [(X, .cells #[.int .i64 y0, .int .i64 y1, .int .i64 y2, .int .i64 y3, .int .i64 y4] 29 (0, 0))] w w'))) (by kernel_rfl) ?_ (fun hHeld => ?_)
        · ((refine hss.out _ ?_; (with_reducible repeat (first | exact Aside0.out (by assumption) | exact getJJ (by assumption) | refine JJ.drew ?_ | refine JJ.drewN ?_ _ | refine JJ.alloc ?_ _))))
        refine wpAnyH_take (i := 0) (oi := { dst := some 63, op := Op.move (Operand.tmp 3), type := 23, pos := "law.go:46", after := #[], guard := none }) (v := ?h1_0) rfl (by kernel_rfl) (by kernel_rfl) (by kernel_rfl) (fun _ _ _ h => h) (Or.inl ⟨by rfl, ?yh1_0⟩) (by assumption) ?rh1_0
        case yh1_0 => intro w hSw; (try dsimp only at hSw); go_simp; (try with_reducible rfl)
        simp only [Act.put, List.setIfInBounds_toArray, List.set_cons_zero, List.set_cons_succ]
        refine wpAnyH_take (i := 2) (oi := { dst := some 65, op := Op.move (Operand.tmp 4), type := 25, pos := "law.go:46", after := #[], guard := none }) (v := ?h1_2) rfl (by kernel_rfl) (by kernel_rfl) (by kernel_rfl) (fun _ _ _ h => h) (Or.inl ⟨by rfl, ?yh1_2⟩) (by assumption) ?rh1_2
        case yh1_2 => intro w hSw; (try dsimp only at hSw); go_simp; (try with_reducible rfl)
        simp only [Act.put, List.setIfInBounds_toArray, List.set_cons_zero, List.set_cons_succ]
        refine wpAnyH_take (i := 3) (oi := { dst := some 66, op := Op.call { callee := Callee.builtin Builtin.len, args := #[Operand.tmp 65], argTypes := #[25] }, type := 3, pos := "law.go:46", after := #[{ on := 2, ground := Ground.data }], guard := none }) (v := ?h1_3) rfl (by kernel_rfl) (by kernel_rfl) (by kernel_rfl) (fun _ _ _ h => h) (Or.inl ⟨by rfl, ?yh1_3⟩) (by assumption) ?rh1_3
        case yh1_3 => intro w hSw; (try dsimp only at hSw); go_simp; (try with_reducible rfl)
        simp only [Act.put, List.setIfInBounds_toArray, List.set_cons_zero, List.set_cons_succ]
        refine wpAnyH_ready (rs := [1]) (by kernel_rfl) (by simp) ?_
        refine AllReadyH.cons (o := { dst := some 64, op := Op.call { callee := Callee.value (Operand.func 12), args := #[Operand.tmp 63], argTypes := #[23] }, type := 3, pos := "law.go:46", after := #[{ on := 0, ground := Ground.data }], guard := none }) rfl (fun K hK => ?_) AllReadyH.nil
        go_simp
        (go_at_call 12; refine (q12.out _ ?sh1_1).mono ?_; (case sh1_1 => exact getJJ (by assumption)); rintro e w' ⟨rfl, hb⟩; have hk := Aside0.mk (JJ.below (getJJ (by assumption)) hb))
        refine hK.out _ _ ?_ (fun hHeld => ?_)
        · ((refine hss.out _ ?_; (with_reducible repeat (first | exact Aside0.out (by assumption) | exact getJJ (by assumption) | refine JJ.drew ?_ | refine JJ.drewN ?_ _ | refine JJ.alloc ?_ _))))
        clear hK K
        try simp only [Act.put, List.setIfInBounds_toArray, List.set_cons_zero, List.set_cons_succ]
        refine wpAnyH_take (i := 4) (oi := { dst := some 67, op := Op.binOp BinOp.neq 3 (Operand.tmp 64) (Operand.tmp 66) 3, type := 4, pos := "law.go:46", after := #[{ on := 1, ground := Ground.data }, { on := 3, ground := Ground.data }], guard := none }) (v := ?h1_4) rfl (by kernel_rfl) (by kernel_rfl) (by kernel_rfl) (fun _ _ _ h => h) (Or.inl ⟨by rfl, ?yh1_4⟩) (by assumption) ?rh1_4
        case yh1_4 => intro w hSw; (try dsimp only at hSw); go_simp; (try with_reducible rfl)
        simp only [Act.put, List.setIfInBounds_toArray, List.set_cons_zero, List.set_cons_succ]
        refine wpAnyH_take (i := 5) (oi := { dst := some 68, op := Op.move (Operand.tmp 67), type := 4, pos := "law.go:46", after := #[{ on := 4, ground := Ground.data }, { on := 1, ground := Ground.chain }], guard := none }) (v := ?h1_5) rfl (by kernel_rfl) (by kernel_rfl) (by kernel_rfl) (fun _ _ _ h => h) (Or.inl ⟨by rfl, ?yh1_5⟩) (by assumption) ?rh1_5
        case yh1_5 => intro w hSw; (try dsimp only at hSw); go_simp; (try with_reducible rfl)
        simp only [Act.put, List.setIfInBounds_toArray, List.set_cons_zero, List.set_cons_succ]
        refine wpAnyH_take (i := 6) (oi := { dst := some 69, op := Op.move (Operand.tmp 3), type := 23, pos := "law.go:46", after := #[{ on := 5, ground := Ground.guard }], guard := some (5, false) }) (v := ?h1_6) rfl (by kernel_rfl) (by kernel_rfl) (by kernel_rfl) (fun _ _ _ h => h) (Or.inl ⟨by rfl, ?yh1_6⟩) (by assumption) ?rh1_6
        case yh1_6 => intro w hSw; (try dsimp only at hSw); go_simp; (try with_reducible rfl)
        simp only [Act.put, List.setIfInBounds_toArray, List.set_cons_zero, List.set_cons_succ]
        refine wpAnyH_take (i := 8) (oi := { dst := some 71, op := Op.move (Operand.tmp 4), type := 25, pos := "law.go:46", after := #[{ on := 5, ground := Ground.guard }], guard := some (5, false) }) (v := ?h1_8) rfl (by kernel_rfl) (by kernel_rfl) (by kernel_rfl) (fun _ _ _ h => h) (Or.inl ⟨by rfl, ?yh1_8⟩) (by assumption) ?rh1_8
        case yh1_8 => intro w hSw; (try dsimp only at hSw); go_simp; (try with_reducible rfl)
        simp only [Act.put, List.setIfInBounds_toArray, List.set_cons_zero, List.set_cons_succ]
        refine wpAnyH_ready (rs := [7]) (by kernel_rfl) (by simp) ?_
        refine AllReadyH.cons (o := { dst := some 70, op := Op.call { callee := Callee.value (Operand.func 13), args := #[Operand.tmp 69], argTypes := #[23] }, type := 3, pos := "law.go:46", after := #[{ on := 6, ground := Ground.data }, { on := 5, ground := Ground.chain }, { on := 5, ground := Ground.guard }], guard := some (5, false) }) rfl (fun K hK => ?_) AllReadyH.nil
        go_simp
        (go_at_call 13; refine (q13.out _ ?sh1_7).mono ?_; (case sh1_7 => exact getJJ (by assumption)); rintro e w' ⟨rfl, hb⟩; have hk := Aside0.mk (JJ.below (getJJ (by assumption)) hb))
        refine hK.out _ _ ?_ (fun hHeld => ?_)
        · ((refine hss.out _ ?_; (with_reducible repeat (first | exact Aside0.out (by assumption) | exact getJJ (by assumption) | refine JJ.drew ?_ | refine JJ.drewN ?_ _ | refine JJ.alloc ?_ _))))
        clear hK K
        try simp only [Act.put, List.setIfInBounds_toArray, List.set_cons_zero, List.set_cons_succ]
        refine wpAnyH_ready (rs := [9]) (by kernel_rfl) (by simp) ?_
        refine AllReadyH.cons (o := { dst := some 72, op := Op.call { callee := Callee.value (Operand.func 14), args := #[Operand.tmp 71], argTypes := #[25] }, type := 3, pos := "law.go:46", after := #[{ on := 8, ground := Ground.data }, { on := 7, ground := Ground.chain }, { on := 5, ground := Ground.guard }], guard := some (5, false) }) rfl (fun K hK => ?_) AllReadyH.nil
        go_simp
        (go_at_call 14; refine (q14.out _ ?sh1_9).mono ?_; (case sh1_9 => exact getJJ (by assumption)); rintro e w' ⟨rfl, hb⟩; have hk := Aside0.mk (JJ.below (getJJ (by assumption)) hb))
        refine hK.out _ _ ?_ (fun hHeld => ?_)
        · ((refine hss.out _ ?_; (with_reducible repeat (first | exact Aside0.out (by assumption) | exact getJJ (by assumption) | refine JJ.drew ?_ | refine JJ.drewN ?_ _ | refine JJ.alloc ?_ _))))
        clear hK K
        try simp only [Act.put, List.setIfInBounds_toArray, List.set_cons_zero, List.set_cons_succ]
        refine wpAnyH_take (i := 10) (oi := { dst := some 73, op := Op.binOp BinOp.neq 3 (Operand.tmp 70) (Operand.tmp 72) 3, type := 4, pos := "law.go:46", after := #[{ on := 7, ground := Ground.data }, { on := 9, ground := Ground.data }, { on := 5, ground := Ground.guard }], guard := some (5, false) }) (v := ?h1_10) rfl (by kernel_rfl) (by kernel_rfl) (by kernel_rfl) (fun _ _ _ h => h) (Or.inl ⟨by rfl, ?yh1_10⟩) (by assumption) ?rh1_10
        case yh1_10 => intro w hSw; (try dsimp only at hSw); go_simp; (try with_reducible rfl)
        simp only [Act.put, List.setIfInBounds_toArray, List.set_cons_zero, List.set_cons_succ]
        refine wpAnyH_take (i := 11) (oi := { dst := some 74, op := Op.pick (Operand.tmp 68) (Operand.const (Value.bool true)) (Operand.tmp 73), type := 4, pos := "law.go:46", after := #[{ on := 5, ground := Ground.data }, { on := 10, ground := Ground.data }], guard := none }) (v := ?h1_11) rfl (by kernel_rfl) (by kernel_rfl) (by kernel_rfl) (fun _ _ _ h => h) (Or.inl ⟨by rfl, ?yh1_11⟩) (by assumption) ?rh1_11
        case yh1_11 => intro w hSw; (try dsimp only at hSw); go_simp; (try with_reducible rfl)
        simp only [Act.put, List.setIfInBounds_toArray, List.set_cons_zero, List.set_cons_succ]
        refine wpAnyH_take (i := 12) (oi := { dst := some 75, op := Op.move (Operand.tmp 74), type := 4, pos := "law.go:46", after := #[{ on := 11, ground := Ground.data }, { on := 9, ground := Ground.chain }], guard := none }) (v := ?h1_12) rfl (by kernel_rfl) (by kernel_rfl) (by kernel_rfl) (fun _ _ _ h => h) (Or.inl ⟨by rfl, ?yh1_12⟩) (by assumption) ?rh1_12
        case yh1_12 => intro w hSw; (try dsimp only at hSw); go_simp; (try with_reducible rfl)
        simp only [Act.put, List.setIfInBounds_toArray, List.set_cons_zero, List.set_cons_succ]
        refine wpAnyH_take (i := 13) (oi := { dst := some 76, op := Op.move (Operand.tmp 3), type := 23, pos := "law.go:46", after := #[{ on := 12, ground := Ground.guard }], guard := some (12, false) }) (v := ?h1_13) rfl (by kernel_rfl) (by kernel_rfl) (by kernel_rfl) (fun _ _ _ h => h) (Or.inl ⟨by rfl, ?yh1_13⟩) (by assumption) ?rh1_13
        case yh1_13 => intro w hSw; (try dsimp only at hSw); go_simp; (try with_reducible rfl)
        simp only [Act.put, List.setIfInBounds_toArray, List.set_cons_zero, List.set_cons_succ]
        refine wpAnyH_take (i := 14) (oi := { dst := some 77, op := Op.fieldAddr 29 (Operand.tmp 6) 2, type := 0, pos := "law.go:46", after := #[{ on := 12, ground := Ground.guard }], guard := some (12, false) }) (v := ?h1_14) rfl (by kernel_rfl) (by kernel_rfl) (by kernel_rfl) (fun _ _ _ h => h) (Or.inl ⟨by rfl, ?yh1_14⟩) (by assumption) ?rh1_14
        case yh1_14 => intro w hSw; (try dsimp only at hSw); go_simp; (try with_reducible rfl)
        simp only [Act.put, List.setIfInBounds_toArray, List.set_cons_zero, List.set_cons_succ]
        refine wpAnyH_take (i := 15) (oi := { dst := some 78, op := Op.fieldAddr 27 (Operand.tmp 77) 1, type := 0, pos := "law.go:46", after := #[{ on := 14, ground := Ground.data }, { on := 12, ground := Ground.guard }], guard := some (12, false) }) (v := ?h1_15) rfl (by kernel_rfl) (by kernel_rfl) (by kernel_rfl) (fun _ _ _ h => h) (Or.inl ⟨by rfl, ?yh1_15⟩) (by assumption) ?rh1_15
        case yh1_15 => intro w hSw; (try dsimp only at hSw); go_simp; (try with_reducible rfl)
        simp only [Act.put, List.setIfInBounds_toArray, List.set_cons_zero, List.set_cons_succ]
        refine wpAnyH_take (i := 16) (oi := { dst := some 79, op := Op.load 3 (Operand.tmp 78), type := 3, pos := "law.go:46", after := #[{ on := 15, ground := Ground.data }, { on := 12, ground := Ground.guard }], guard := some (12, false) }) (v := ?h1_16) rfl (by kernel_rfl) (by kernel_rfl) (by kernel_rfl) (fun _ _ _ h => h) (Or.inl ⟨by rfl, ?yh1_16⟩) (by assumption) ?rh1_16
        case yh1_16 => intro w hSw; (try dsimp only at hSw); go_simp; (try with_reducible rfl)
        simp only [Act.put, List.setIfInBounds_toArray, List.set_cons_zero, List.set_cons_succ]
        refine wpAnyH_take (i := 18) (oi := { dst := some 81, op := Op.move (Operand.tmp 4), type := 25, pos := "law.go:46", after := #[{ on := 12, ground := Ground.guard }], guard := some (12, false) }) (v := ?h1_18) rfl (by kernel_rfl) (by kernel_rfl) (by kernel_rfl) (fun _ _ _ h => h) (Or.inl ⟨by rfl, ?yh1_18⟩) (by assumption) ?rh1_18
        case yh1_18 => intro w hSw; (try dsimp only at hSw); go_simp; (try with_reducible rfl)
        simp only [Act.put, List.setIfInBounds_toArray, List.set_cons_zero, List.set_cons_succ]
        refine wpAnyH_take (i := 19) (oi := { dst := some 82, op := Op.fieldAddr 29 (Operand.tmp 6) 2, type := 0, pos := "law.go:46", after := #[{ on := 12, ground := Ground.guard }], guard := some (12, false) }) (v := ?h1_19) rfl (by kernel_rfl) (by kernel_rfl) (by kernel_rfl) (fun _ _ _ h => h) (Or.inl ⟨by rfl, ?yh1_19⟩) (by assumption) ?rh1_19
        case yh1_19 => intro w hSw; (try dsimp only at hSw); go_simp; (try with_reducible rfl)
        simp only [Act.put, List.setIfInBounds_toArray, List.set_cons_zero, List.set_cons_succ]
        refine wpAnyH_take (i := 20) (oi := { dst := some 83, op := Op.fieldAddr 27 (Operand.tmp 82) 1, type := 0, pos := "law.go:46", after := #[{ on := 19, ground := Ground.data }, { on := 12, ground := Ground.guard }], guard := some (12, false) }) (v := ?h1_20) rfl (by kernel_rfl) (by kernel_rfl) (by kernel_rfl) (fun _ _ _ h => h) (Or.inl ⟨by rfl, ?yh1_20⟩) (by assumption) ?rh1_20
        case yh1_20 => intro w hSw; (try dsimp only at hSw); go_simp; (try with_reducible rfl)
        simp only [Act.put, List.setIfInBounds_toArray, List.set_cons_zero, List.set_cons_succ]
        refine wpAnyH_take (i := 21) (oi := { dst := some 84, op := Op.load 3 (Operand.tmp 83), type := 3, pos := "law.go:46", after := #[{ on := 20, ground := Ground.data }, { on := 12, ground := Ground.guard }], guard := some (12, false) }) (v := ?h1_21) rfl (by kernel_rfl) (by kernel_rfl) (by kernel_rfl) (fun _ _ _ h => h) (Or.inl ⟨by rfl, ?yh1_21⟩) (by assumption) ?rh1_21
        case yh1_21 => intro w hSw; (try dsimp only at hSw); go_simp; (try with_reducible rfl)
        simp only [Act.put, List.setIfInBounds_toArray, List.set_cons_zero, List.set_cons_succ]
        refine wpAnyH_ready (rs := [17]) (by kernel_rfl) (by simp) ?_
        refine AllReadyH.cons (o := { dst := some 80, op := Op.call { callee := Callee.value (Operand.func 15), args := #[Operand.tmp 76, Operand.tmp 79], argTypes := #[23, 3] }, type := 4, pos := "law.go:46", after := #[{ on := 13, ground := Ground.data }, { on := 16, ground := Ground.data }, { on := 12, ground := Ground.chain }, { on := 12, ground := Ground.guard }], guard := some (12, false) }) rfl (fun K hK => ?_) AllReadyH.nil
        go_simp
        (go_at_call 15; refine (q15.out _ ?sh1_17).mono ?_; (case sh1_17 => exact getJJ (by assumption)); rintro e w' ⟨rfl, hb⟩; have hk := Aside0.mk (JJ.below (getJJ (by assumption)) hb))
        refine hK.out _ _ ?_ (fun hHeld => ?_)
        · ((refine hss.out _ ?_; (with_reducible repeat (first | exact Aside0.out (by assumption) | exact getJJ (by assumption) | refine JJ.drew ?_ | refine JJ.drewN ?_ _ | refine JJ.alloc ?_ _))))
        clear hK K
        try simp only [Act.put, List.setIfInBounds_toArray, List.set_cons_zero, List.set_cons_succ]
        refine wpAnyH_ready (rs := [22]) (by kernel_rfl) (by simp) ?_
        refine AllReadyH.cons (o := { dst := some 85, op := Op.call { callee := Callee.value (Operand.func 16), args := #[Operand.tmp 81, Operand.tmp 84], argTypes := #[25, 3] }, type := 4, pos := "law.go:46", after := #[{ on := 18, ground := Ground.data }, { on := 21, ground := Ground.data }, { on := 17, ground := Ground.chain }, { on := 12, ground := Ground.guard }], guard := some (12, false) }) rfl (fun K hK => ?_) AllReadyH.nil
        go_simp
        (go_at_call 16; refine (q16.out _ ?sh1_22).mono ?_; (case sh1_22 => exact getJJ (by assumption)); rintro e w' ⟨rfl, hb⟩; have hk := Aside0.mk (JJ.below (getJJ (by assumption)) hb))
        refine hK.out _ _ ?_ (fun hHeld => ?_)
        · ((refine hss.out _ ?_; (with_reducible repeat (first | exact Aside0.out (by assumption) | exact getJJ (by assumption) | refine JJ.drew ?_ | refine JJ.drewN ?_ _ | refine JJ.alloc ?_ _))))
        clear hK K
        try simp only [Act.put, List.setIfInBounds_toArray, List.set_cons_zero, List.set_cons_succ]
        refine wpAnyH_take (i := 23) (oi := { dst := some 86, op := Op.binOp BinOp.neq 4 (Operand.tmp 80) (Operand.tmp 85) 4, type := 4, pos := "law.go:46", after := #[{ on := 17, ground := Ground.data }, { on := 22, ground := Ground.data }, { on := 12, ground := Ground.guard }], guard := some (12, false) }) (v := ?h1_23) rfl (by kernel_rfl) (by kernel_rfl) (by kernel_rfl) (fun _ _ _ h => h) (Or.inl ⟨by rfl, ?yh1_23⟩) (by assumption) ?rh1_23
        case yh1_23 => intro w hSw; (try dsimp only at hSw); go_simp; (try with_reducible rfl)
        simp only [Act.put, List.setIfInBounds_toArray, List.set_cons_zero, List.set_cons_succ]
        refine wpAnyH_take (i := 24) (oi := { dst := some 87, op := Op.pick (Operand.tmp 75) (Operand.const (Value.bool true)) (Operand.tmp 86), type := 4, pos := "law.go:46", after := #[{ on := 12, ground := Ground.data }, { on := 23, ground := Ground.data }], guard := none }) (v := ?h1_24) rfl (by kernel_rfl) (by kernel_rfl) (by kernel_rfl) (fun _ _ _ h => h) (Or.inl ⟨by rfl, ?yh1_24⟩) (by assumption) ?rh1_24
        case yh1_24 => intro w hSw; (try dsimp only at hSw); go_simp; (try with_reducible rfl)
        simp only [Act.put, List.setIfInBounds_toArray, List.set_cons_zero, List.set_cons_succ]
        refine wpAnyH_done (by kernel_rfl) ?_ _
        go_wp2
        go_roundw
        case rel => exact ⟨k + 1, L', by omega, by omega, by go_num, ⟨by have := hL'.out; have := hn.out; omega, _, hk.out.pop⟩⟩
        case measure => simp [intOf]; omega
    · have hex : zs.length ≤ k ∨ (k < zs.length ∧ 100 ≤ k) := by omega
      have fin := Aside0.mk HJ.bel
      have hW := Lib.hid (works_calls wr)
      clear hr hc HJ
      rcases hex with hx | ⟨hx, hx2⟩
      · have yk : decide ((k : Int) < (zs.length : Int)) = false := decide_eq_false (by omega)
        go_wp2_with fail
        refine hW.out.mono ?_
        rintro e w9 ⟨rfl, hb9⟩
        replace fin := Aside0.mk (fin.out.trans (hb9.mono fin.out.size))
        clear hW hb9
        go_wp2
        go_ret
        exact ⟨rfl, fin.out⟩
      · have yk : decide ((k : Int) < (zs.length : Int)) = true := decide_eq_true (by omega)
        have yk2 : decide ((k : Int) < 100) = false := decide_eq_false (by omega)
        go_wp2_with fail
        refine hW.out.mono ?_
        rintro e w9 ⟨rfl, hb9⟩
        replace fin := Aside0.mk (fin.out.trans (hb9.mono fin.out.size))
        clear hW hb9
        go_wp2
        go_ret
        exact ⟨rfl, fin.out⟩
end Go.Proofs.Ytkamgpjpnjikgaa.PQ
