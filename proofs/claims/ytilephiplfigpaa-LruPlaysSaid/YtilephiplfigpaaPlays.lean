/- LruPlays walked. -/
import Derived.Test.YtilephiplfigpaaRefPut
import Derived.Deep.CutBlock
import Derived.Deep.RegionHeld3
import Derived.Deep.DeepCutAuto
namespace Go.Proofs.Ytilephiplfigpaa.PQ
open Go.RowKit Go.Proofs.YtilephiplfigpaaW.PrintWords Go.Proofs.YtilephiplfigpaaW.PrintLast Go.Proofs.YtilephiplfigpaaW.PrintMore
set_option linter.unusedVariables false
set_option linter.unusedSimpArgs false
theorem find_val {room hits misses : Int} {L : List EL} {P M : Nat} {D : DataW Value} {b0 : Nat} {w : World} (hD : LAt b0 room hits misses L P M D w) (hl : L.length ≤ 100000) (a : Int) : ∃ r, deckleref36_Find.f ((absL L).length + 1) (absL L) a = some r ∧ ((∃ (i : Nat) (e : EL), L[i]? = some e ∧ e.lba = a ∧ r = (i : Int)) ∨ ((∀ e ∈ L, e.lba ≠ a) ∧ r = -1)) := by
  rcases mapE_cases L a with ⟨i, e, he, rfl⟩ | hn
  · obtain ⟨hi, h1⟩ := List.getElem?_eq_some_iff.1 he
    refine ⟨i, find_pure_at (absL L) e.lba (by rw [absL_len]; exact hl) i (by rw [absL_len]; exact hi) ?_ ?_, .inl ⟨i, e, he, rfl, rfl⟩⟩
    · unfold absL
      rw [List.getElem_map, h1]
      rfl
    · intro j hj
      unfold absL
      rw [List.getElem_map]
      show (L[j]).lba ≠ e.lba
      intro h2
      have := (List.getElem_inj (xs := L.map (·.lba)) (i := j) (j := i) (h₀ := by rw [List.length_map]; omega) (h₁ := by rw [List.length_map]; exact hi) hD.nd).1 (by rw [List.getElem_map, List.getElem_map, h1]; exact h2)
      omega
  · refine ⟨-1, find_pure_no (absL L) a (by rw [absL_len]; exact hl) (fun x hx => ?_), .inr ⟨hn, rfl⟩⟩
    obtain ⟨e, he, rfl⟩ := List.mem_map.1 hx
    exact hn e he
/-- The document's row at a sector's place. -/
theorem JL.at_row {room hits misses : Int} {L0 L : List EL} {P M : Nat} {A : Option Addr} {n c : Nat} {bx : List (Nat × Obj)} {w0 w : World} (h : JL room hits misses L0 (absL L) P M (.slice A n c) bx w0 w) {i : Nat} {e : EL} (he : L[i]? = some e) : ∃ g, A = some ⟨g, 0, none⟩ ∧ n = L.length ∧ w.cell? ⟨g, i * 2, none⟩ = some (.int .i64 e.lba) ∧ w.cell? ⟨g, i * 2 + 1, none⟩ = some (.string e.data) := by
  obtain ⟨hi, h1⟩ := List.getElem?_eq_some_iff.1 he
  obtain ⟨g, c', hg⟩ := R_form61 h.row (by rw [absL_len]; omega)
  injection hg with hA hn hc
  subst hA hn hc
  obtain ⟨ad, e1, l0, l1⟩ := at_T61 (Kd.R_reads' h.row).2.2 (i : Int) (by omega) (by rw [absL_len]; omega)
  cases e1
  have hrd : rd_T61 (absL L) (i : Int) = ⟨e.lba, e.data⟩ := by
    unfold rd_T61
    rw [Int.toNat_natCast, List.getD_eq_getElem?_getD, absL_get he]
    rfl
  rw [hrd, Int.toNat_natCast, add_plain] at l0 l1
  exact ⟨g, rfl, absL_len L, l0, l1⟩
set_option maxHeartbeats 16000000 in
set_option maxRecDepth 100000 in
theorem plays_core (room : Int) (hroom : 1 ≤ room ∧ room ≤ 60) (P M : Nat) (a0 : Option Addr) (c0 : Nat) (zs : List S30) (w0 w : World) (hJ0 : Aside0 (JL room 0 0 [] [] P M (.slice none 0 0) [] w0 w)) (hr : Aside0 (Kd.C k30 w0 a0 zs.length zs)) (hwf : Aside0 (∀ z ∈ zs, (Lit.int .i64 z.f1).wf = true)) :
    Calls Try.prog 17 #[.pointer (some ⟨P, 0, none⟩), .int .i64 room, .slice a0 zs.length c0] w fun e w' => e = .returned (.bool true) ∧ Below w0.heap.size w0 w' := by
  have hz := Lib.hid (Kd.C_max hr.out)
  replace hroom := Lib.hid hroom
  go_enter Try.func17, Try.ntmps17
  go_wp2
  go_loopw [7, 8, 9, 10] (fun d h m y wr => ∃ (k : Nat) (hh mm : Nat) (L : List EL), k ≤ zs.length ∧ k ≤ 200 ∧ hh ≤ k ∧ mm ≤ k ∧ h = .int .i64 hh ∧ m = .int .i64 mm ∧ y = .int .i64 k ∧ Aside0 ((L.length : Int) ≤ room) ∧ Aside0 (JL room hh mm L (absL L) P M d [] w0 wr)) (fun _ _ _ y _ => zs.length - (intOf y).toNat)
  case atStart => exact ⟨0, 0, 0, [], Nat.zero_le _, by omega, Nat.le_refl _, Nat.le_refl _, rfl, rfl, rfl, ⟨by have := hroom.out; simp; omega⟩, hJ0⟩
  case round =>
    clear hJ0
    obtain ⟨k, hh, mm, L, hk, hk1, hhk, hmk, rfl, rfl, rfl, hL, HJ0⟩ := hrel
    have HJ := HJ0.out
    clear HJ0
    have hzm := hz.out
    have hLr := Lib.hid (show L.length ≤ 60 by have := hL.out; have := hroom.out; omega)
    obtain ⟨A5, c5, rfl⟩ := Kd.R_slice HJ.row
    by_cases hc : k < zs.length ∧ k < 200
    · obtain ⟨hc1, hc2⟩ := hc
      have yk : decide ((k : Int) < (zs.length : Int)) = true := decide_eq_true (by omega)
      have yk2 : decide ((k : Int) < 200) = true := decide_eq_true (by omega)
      obtain ⟨ad, rfl, d0, d1, d2⟩ := at_T30 (Kd.C_below hr.out HJ.bel) (k : Int) (by omega) (by omega)
      rw [Int.toNat_natCast] at d0 d1 d2
      rw [rd_get30 zs k hc1] at d0 d1 d2
      have hwy := Lib.hid (hwf.out _ (List.getElem_mem hc1))
      generalize zs[k] = y at *
      obtain ⟨y0, y1, y2⟩ := y
      dsimp only at *
      replace HJ := Aside0.mk (HJ.push (.cells #[.int .i64 y0, .int .i64 y1, .string y2] 30))
      obtain ⟨r, hf, hrr⟩ := HJ.out.lat.elim fun D hD => find_val hD (by have := hLr.out; omega) y1
      replace hf := Lib.hid hf
      replace hrr := Aside0.mk hrr
      have g1 : (wr.alloc (.cells #[.int .i64 y0, .int .i64 y1, .string y2] 30)).cell? ⟨wr.heap.size, 1, none⟩ = some (.int .i64 y1) := blk_cell HJ.out.head 1
      have q := Lib.hid (JL.find HJ y1 r hf.out)
      go_wp2_with fail
      generalize hX : wr.heap.size = X at *
      generalize hW1 : wr.alloc (.cells #[.int .i64 y0, .int .i64 y1, .string y2] 30) = W1 at *
      clear hX hW1 d0 d1 d2
      refine q.out.mono ?_
      rintro e w2 ⟨rfl, J2⟩
      clear q HJ g1 hf
      have g0 : w2.cell? ⟨X, 0, none⟩ = some (.int .i64 y0) := blk_cell J2.out.head 0
      have g1 : w2.cell? ⟨X, 1, none⟩ = some (.int .i64 y1) := blk_cell J2.out.head 1
      have g2 : w2.cell? ⟨X, 2, none⟩ = some (.string y2) := blk_cell J2.out.head 2
      go_upto_block 2 with (fail)
      go_cut [7, 8, 9] (fun d h m wx => ∃ (h' m' : Nat) (A' : Option Addr) (n' c' : Nat), d = .slice A' n' c' ∧ h = .int .i64 h' ∧ m = .int .i64 m' ∧ h' ≤ k + 1 ∧ m' ≤ k + 1 ∧ Aside0 (∃ L', n' = L'.length ∧ (L'.length : Int) ≤ room ∧ JL room h' m' L' (absL L') P M (.slice A' n' c') [(X, .cells #[.int .i64 y0, .int .i64 y1, .string y2] 30 (0, 0))] w0 wx))
      case first =>
        by_cases h0 : y0 = 0
        · subst h0
          have q := Lib.hid (JL.put J2 y1 y2 hwy.out ⟨hL.out, by have := hLr.out; omega⟩)
          obtain ⟨d3, n3, b3, hp3⟩ : ∃ d3 n3 b3, Aside0 (putO (absL L) room ⟨y1, y2⟩ = (d3, n3, b3)) := ⟨_, _, _, ⟨rfl⟩⟩
          rw [hp3.out] at q
          go_wp2_with fail
          refine q.out.mono ?_
          rintro e w3 ⟨rfl, ⟨L3, e3, r3, J3⟩⟩
          replace J3 := Aside0.mk J3
          clear q J2 g0 g1 g2
          have g1 : w3.cell? ⟨X, 1, none⟩ = some (.int .i64 y1) := blk_cell J3.out.head 1
          have g2 : w3.cell? ⟨X, 2, none⟩ = some (.string y2) := blk_cell J3.out.head 2
          have q := Lib.hid (JL.refPut J3 ⟨y1, y2⟩ (by rw [absL_len]; have := hLr.out; omega) room d3 n3 b3 hp3)
          dsimp only at q e3
          replace e3 := Lib.hid e3
          replace r3 := Lib.hid r3
          go_wp2_with fail
          refine q.out.mono ?_
          rintro e w4 ⟨v4, rfl, J4⟩
          clear q J3 g1 g2
          rw [← e3.out] at J4
          obtain ⟨A4, c4, rfl⟩ := Kd.R_slice J4.row
          rw [absL_len] at J4 ⊢
          have F := Aside0.mk J4
          clear J4
          cases b3
          all_goals
            go_wp2
            go_meet
            exact ⟨hh, mm, _, _, _, rfl, rfl, rfl, by omega, by omega, ⟨L3, rfl, r3.out, F.out⟩⟩
        · have z0 : (y0 == 0) = false := beq_eq_false_iff_ne.2 h0
          replace h0 := Lib.hid h0
          by_cases h1 : y0 = 1
          · subst h1
            rcases hrr.out with ⟨i0, e, he, rfl, rfl⟩ | ⟨hno, rfl⟩
            · have q := Lib.hid (JL.get_at J2 he (by omega))
              have hx := JL.at_row J2.out he
              obtain ⟨g, hA, hn, l0, l1⟩ := hx
              cases hA
              obtain ⟨hi0, _⟩ := List.getElem?_eq_some_iff.1 he
              replace he := Lib.hid he
              clear l0 l1
              have hLl := hLr.out
              have zi : decide ((i0 : Int) < (L.length : Int)) = true := decide_eq_true (by omega)
              have zi1 : i0 < L.length := hi0
              have zi0 : decide ((0 : Int) ≤ (i0 : Int)) = true := decide_eq_true (by omega)
              have hw1 : wrap64 ((hh : Int) + 1) = ((hh + 1 : Nat) : Int) := w64n hh (by omega)
              obtain ⟨B, lb, dt⟩ := e
              dsimp only at *
              go_wp2_with fail
              refine q.out.mono ?_
              rintro e w3 ⟨rfl, ⟨L3, e3, r3, J3⟩⟩
              obtain ⟨g', hA, _, l0, l1⟩ := JL.at_row J3 he.out
              cases hA
              have q1 := Lib.hid (JL.first ⟨J3⟩ ⟨lb, dt⟩ (by rw [absL_len]; omega))
              dsimp only at q1
              replace e3 := Lib.hid e3
              replace r3 := Lib.hid r3
              rw [absL_len] at q1 ⊢
              clear q J2 g0 g1 g2 J3
              go_wp2_with fail
              refine q1.out.mono ?_
              rintro e w4 ⟨v4, rfl, J4⟩
              clear q1 l0 l1
              rw [← e3.out] at J4
              obtain ⟨A4, c4, rfl⟩ := Kd.R_slice J4.row
              rw [absL_len] at J4 ⊢
              have F := Aside0.mk J4
              clear J4
              go_wp2
              go_meet
              exact ⟨hh + 1, mm, _, _, _, rfl, by go_num, rfl, by omega, by omega, ⟨L3, rfl, by rw [r3.out]; exact hL.out, F.out⟩⟩
            · have q := Lib.hid (JL.get_no J2 hwy.out hno (by omega))
              have hw1 : wrap64 ((mm : Int) + 1) = ((mm + 1 : Nat) : Int) := w64n mm (by omega)
              rw [absL_len] at J2 ⊢
              clear hno
              go_wp2_with fail
              refine q.out.mono ?_
              rintro e w3 ⟨rfl, J3⟩
              clear q J2 g0 g1 g2
              go_wp2
              go_meet
              exact ⟨hh, mm + 1, _, _, _, rfl, rfl, by go_num, by omega, by omega, ⟨L, rfl, hL.out, by have := J3.out; rw [absL_len] at this; exact this⟩⟩
          · have z1 : (y0 == 1) = false := beq_eq_false_iff_ne.2 h1
            replace h1 := Lib.hid h1
            by_cases h2 : y0 = 2
            · subst h2
              rcases hrr.out with ⟨i0, e, he, rfl, rfl⟩ | ⟨hno, rfl⟩
              · have q := Lib.hid (JL.peek_at J2 he)
                obtain ⟨hi0, _⟩ := List.getElem?_eq_some_iff.1 he
                obtain ⟨g, hA, hn, l0, l1⟩ := JL.at_row J2.out he
                cases hA
                replace he := Lib.hid he
                clear l0 l1
                have hLl := hLr.out
                have zi : decide ((i0 : Int) < (L.length : Int)) = true := decide_eq_true (by omega)
                have zi1 : i0 < L.length := hi0
                have zi0 : decide ((0 : Int) ≤ (i0 : Int)) = true := decide_eq_true (by omega)
                obtain ⟨B, lb, dt⟩ := e
                dsimp only at *
                go_wp2_with fail
                refine q.out.mono ?_
                rintro e w3 ⟨rfl, J3⟩
                obtain ⟨g', hA, _, l0, l1⟩ := JL.at_row J3.out he.out
                cases hA
                rw [absL_len] at J3 ⊢
                clear q J2 g0 g1 g2
                go_wp2
                go_meet
                exact ⟨hh, mm, _, _, _, rfl, rfl, rfl, by omega, by omega, ⟨L, rfl, hL.out, J3.out⟩⟩
              · have q := Lib.hid (JL.peek_no J2 hwy.out hno)
                rw [absL_len] at J2 ⊢
                clear hno
                go_wp2_with fail
                refine q.out.mono ?_
                rintro e w3 ⟨rfl, J3⟩
                clear q J2 g0 g1 g2
                go_wp2
                go_meet
                exact ⟨hh, mm, _, _, _, rfl, rfl, rfl, by omega, by omega, ⟨L, rfl, hL.out, by have := J3.out; rw [absL_len] at this; exact this⟩⟩
            · have z2 : (y0 == 2) = false := beq_eq_false_iff_ne.2 h2
              replace h2 := Lib.hid h2
              by_cases h3 : y0 = 3
              · subst h3
                have q := JL.drop_any J2 y1 hwy.out
                have hbr : Aside0 (hasE L y1 = decide (0 ≤ r)) := ⟨by
                  rcases hrr.out with ⟨i0, e, he, rfl, rfl⟩ | ⟨hno, rfl⟩
                  · rw [hasE_at he]; exact (decide_eq_true (by omega)).symm
                  · rw [hasE_no hno]; rfl⟩
                rw [hbr.out] at q
                replace q := Lib.hid q
                go_wp2_with fail
                refine q.out.mono ?_
                rintro e w3 ⟨rfl, ⟨L3, e3, _, r3, J3⟩⟩
                have g1 : w3.cell? ⟨X, 1, none⟩ = some (.int .i64 y1) := blk_cell J3.head 1
                have q1 := Lib.hid (JL.without ⟨J3⟩ y1 (by rw [absL_len]; have := hLr.out; omega))
                replace e3 := Lib.hid e3
                replace r3 := Lib.hid r3
                clear q J2 g0 g2 J3
                go_wp2_with fail
                refine q1.out.mono ?_
                rintro e w4 ⟨v4, rfl, J4⟩
                clear q1 g1
                rw [← e3.out] at J4
                obtain ⟨A4, c4, rfl⟩ := Kd.R_slice J4.row
                rw [absL_len] at J4 ⊢
                have F := Aside0.mk J4
                clear J4
                go_wp2
                go_meet
                exact ⟨hh, mm, _, _, _, rfl, rfl, rfl, by omega, by omega, ⟨L3, rfl, by have := r3.out; have := hL.out; omega, F.out⟩⟩
              · have z3 : (y0 == 3) = false := beq_eq_false_iff_ne.2 h3
                have q := Lib.hid (JL.told J2 (by have := hLr.out; omega) y1)
                replace h3 := Lib.hid h3
                go_wp2_with fail
                refine q.out.mono ?_
                rintro e w3 ⟨rfl, J3⟩
                rw [absL_len] at J3 ⊢
                clear q J2 g0 g1 g2
                go_wp2
                go_meet
                exact ⟨hh, mm, _, _, _, rfl, rfl, rfl, by omega, by omega, ⟨L, rfl, hL.out, J3.out⟩⟩
      case rest =>
        obtain ⟨h', m', A', n', c', rfl, rfl, rfl, hh', hm', HF⟩ := hcut
        obtain ⟨L', rfl, hL', hJ'⟩ := HF.out
        clear HF J2 hrr g0 g1 g2
        replace hJ' := Aside0.mk hJ'
        have q := Lib.hid (JL.hitsC hJ')
        replace hL' := Aside0.mk hL'
        go_wp2_with fail
        refine q.out.mono ?_
        rintro e w5 ⟨rfl, hb5⟩
        have J5 := Aside0.mk (hJ'.out.below hb5)
        clear q hb5 hJ'
        have q := Lib.hid (JL.len J5)
        go_wp2_with fail
        refine q.out.mono ?_
        rintro e w6 ⟨rfl, rfl⟩
        clear q
        go_wp2
        go_roundw
        case rel => exact ⟨k + 1, h', m', L', by omega, by omega, hh', hm', rfl, rfl, by go_num, hL', ⟨J5.out.pop⟩⟩
        case measure => simp [intOf]; omega
    · have hex : zs.length ≤ k ∨ (k < zs.length ∧ 200 ≤ k) := by omega
      have q := Lib.hid (JL.told (⟨HJ⟩ : Aside0 (JL room hh mm L (absL L) P M (.slice A5 (absL L).length c5) [] w0 wr)) (by have := hLr.out; omega) (-1))
      clear hc
      rw [absL_len] at q HJ ⊢
      clear HJ
      rcases hex with hx | ⟨hx, hx2⟩
      · have yk : decide ((k : Int) < (zs.length : Int)) = false := decide_eq_false (by omega)
        go_wp2_with fail
        refine q.out.mono ?_
        rintro e w3 ⟨rfl, J3⟩
        clear q
        go_wp2
        go_ret
        exact ⟨rfl, J3.out.bel⟩
      · have yk : decide ((k : Int) < (zs.length : Int)) = true := decide_eq_true (by omega)
        have yk2 : decide ((k : Int) < 200) = false := decide_eq_false (by omega)
        go_wp2_with fail
        refine q.out.mono ?_
        rintro e w3 ⟨rfl, J3⟩
        clear q
        go_wp2
        go_ret
        exact ⟨rfl, J3.out.bel⟩
end Go.Proofs.Ytilephiplfigpaa.PQ
