/- SpanParts walked. -/
import Derived.Test.YtaandjafmmpbkaaOrder
import Derived.Test.YtaandjafmmpbkaaCard
import Derived.Outline
import Derived.OwnWalk
import Derived.Deep.RegionHeld3
import Derived.Deep.DeepCutAuto
namespace Go.Proofs.Ytaandjafmmpbkaa.PQ
open Go.RowKit Go.Proofs.YtaandjafmmpbkaaW.PrintWords Go.Proofs.YtaandjafmmpbkaaW.PrintLast Go.Proofs.YtaandjafmmpbkaaW.PrintMore
set_option linter.unusedVariables false
set_option linter.unusedSimpArgs false
/-- What covers, what meets, behind an adding or a taking out. -/
theorem add_covers {L L' : List S27} {a b : Int} {r : Bool} (hp : AddP L L' a b) (em : mayB a b = true) (h : r = true ↔ mayB a b = true ∧ ∀ n, a ≤ n → n < b → inB L' n = true) : r = true :=
  h.2 ⟨em, fun n h0 h1 => (hp n).2 (.inr ⟨em, h0, h1⟩)⟩
theorem add_meets {L L' : List S27} {a b : Int} {r : Bool} (hp : AddP L L' a b) (em : mayB a b = true) (h : r = true ↔ mayB a b = true ∧ ∃ n, a ≤ n ∧ n < b ∧ inB L' n = true) : r = decide (a < b) := by
  rw [Bool.eq_iff_iff, h, decide_eq_true_eq]
  exact ⟨fun ⟨_, n, h0, h1, _⟩ => by omega, fun hab => ⟨em, a, Int.le_refl _, hab, (hp a).2 (.inr ⟨em, Int.le_refl _, hab⟩)⟩⟩
theorem rem_meets {L L' : List S27} {a b : Int} {r : Bool} (hp : RemP L L' a b) (h : r = true ↔ mayB a b = true ∧ ∃ n, a ≤ n ∧ n < b ∧ inB L' n = true) : r = false := by
  rw [← Bool.not_eq_true, h]
  rintro ⟨em, n, h0, h1, h2⟩
  exact ((hp n).1 h2).2 ⟨em, h0, h1⟩
theorem rem_covers {L L' : List S27} {a b : Int} {r : Bool} (hp : RemP L L' a b) (em : mayB a b = true) (hab : a ≤ b) (h : r = true ↔ mayB a b = true ∧ ∀ n, a ≤ n → n < b → inB L' n = true) : r = decide (a = b) := by
  rw [Bool.eq_iff_iff, h, decide_eq_true_eq]
  refine ⟨fun ⟨_, q⟩ => ?_, fun e => ⟨em, fun n h0 h1 => by omega⟩⟩
  rcases Int.lt_or_le a b with c | c
  · exact absurd ⟨em, Int.le_refl _, c⟩ ((hp a).1 (q a (Int.le_refl _) c)).2
  · omega
/-- A span in a block of its own. -/
def BX (X : Nat) (a b : Int) (w : World) : Prop := w.heap[X]? = some (.cells #[.int .i64 a, .int .i64 b] 27 (0, 0))
theorem BX.below {X : Nat} {a b : Int} {w w' : World} (h : BX X a b w) (hb : Below w.heap.size w w') : BX X a b w' := blk_below h hb
theorem BX.ch {X P : Nat} {a b : Int} {w w' : World} (h : BX X a b w) (hc : Ch (fun k => k = P) w w') (hn : X ≠ P) : BX X a b w' := (hc.block X (blk_lt h) hn).trans h
theorem BX.drewN {X : Nat} {a b : Int} {w : World} (h : BX X a b w) (n : Nat) : BX X a b (w.drewN n) := h
theorem BX.drew {X : Nat} {a b : Int} {w : World} (h : BX X a b w) : BX X a b w.drew := h
theorem BX.cells {X : Nat} {a b : Int} {w : World} (h : BX X a b w) : w.cell? ⟨X, 0, none⟩ = some (.int .i64 a) ∧ w.cell? ⟨X, 1, none⟩ = some (.int .i64 b) ∧ Aside0 (BX X a b w) := ⟨(blk_cell h 0).trans rfl, (blk_cell h 1).trans rfl, ⟨h⟩⟩
theorem getBX {X : Nat} {a b : Int} {w : World} (h : w.cell? ⟨X, 0, none⟩ = some (.int .i64 a) ∧ w.cell? ⟨X, 1, none⟩ = some (.int .i64 b) ∧ Aside0 (BX X a b w)) : BX X a b w := h.2.2.out
theorem LawAt.far {l : List S27} {P Y : Nat} {w0 w w' : World} (h : LawAt l P w0 w) (hc : Ch (fun k => k = Y) w w') (hY : w0.heap.size ≤ Y) (hP : Y < P) : LawAt l P w0 w' := by
  obtain ⟨⟨v, hv⟩, h1, h2, h3⟩ := h
  refine ⟨⟨v, (hc.block P (blk_lt hv.head) (fun e => by omega)).trans hv.head, hv.row.ch hc hP⟩, h1, h2.trans (hc.below h2.size (fun k e => by omega)), h3⟩
theorem take_in (G : List S27) (k : Nat) (hk : k < G.length) (n : Int) : inB (G.take (k + 1)) n = true ↔ inB (G.take k) n = true ∨ ((rd_T27 G k).f0 ≤ n ∧ n < (rd_T27 G k).f1) := by
  rw [List.take_succ_eq_append_getElem hk, in_app, rd_mem G k hk, in_cons]
  exact ⟨fun q => q.elim .inl (fun q => q.elim .inr (fun q => absurd q (in_nil n))), fun q => q.elim .inl (fun q => .inr (.inl q))⟩
theorem take_lt {G : List S27} (hs : Sp (-1) G) (k : Nat) (hk : k < G.length) (n : Int) (h : inB (G.take k) n = true) : n < (rd_T27 G k).f0 := by
  obtain ⟨j, hj, h0, h1⟩ := (in_iff _ _).1 h
  have hj2 := hj
  rw [List.length_take] at hj2
  have e : rd_T27 (G.take k) j = rd_T27 G j := by rw [rd_mem _ j hj, rd_mem G j (by omega), List.getElem_take]
  rw [e] at h1
  have := hs.mono j k (by omega) hk
  omega
set_option maxHeartbeats 8000000 in
set_option maxRecDepth 100000 in
theorem parts_core (A0 : Option Addr) (c0 : Nat) (zs : List S29) (p0 p1 : Int) (w : World) (hr : Aside0 (Kd.C k29 w A0 zs.length zs)) :
    Calls Try.prog 4 #[.slice A0 zs.length c0, .agg #[.int .i64 p0, .int .i64 p1]] w fun e w' => e = .returned (.bool true) ∧ Below w.heap.size w w' := by
  have hb0 := Aside0.mk ((Below.refl w.heap.size w).alloc (Nat.le_refl _) (.cells #[.int .i64 p0, .int .i64 p1] 27))
  have HX0 := Aside0.mk (heap_alloc_new w (.cells #[.int .i64 p0, .int .i64 p1] 27))
  have hW := Lib.hid works_calls
  go_enter Try.func4, Try.ntmps4
  go_wp2_with fail
  generalize w.alloc (.cells #[.int .i64 p0, .int .i64 p1] 27) = W0 at *
  obtain ⟨Y, hY⟩ : ∃ Y, Y = w.heap.size := ⟨_, rfl⟩
  rw [← hY] at HX0 ⊢
  replace hY := Lib.hid hY
  refine (hW.out _).mono ?_
  rintro e w1 ⟨rfl, hb⟩
  have HB1 := Aside0.mk (hb0.out.trans (hb.mono hb0.out.size))
  have HY1 := Aside0.mk (blk_below HX0.out hb)
  have hN := Lib.hid (new_core w1)
  clear hb hW hb0 HX0
  clear W0
  go_wp2_with fail
  refine hN.out.mono ?_
  rintro e w2 ⟨rfl, ⟨hs, hb⟩⟩
  have hL := LawAt.new hs hb
  have L2 := Aside0.mk (show LawAt [] w1.heap.size w w2 from ⟨hL.set, hL.sp, HB1.out.trans (hL.bel.mono HB1.out.size), HB1.out.size⟩)
  have HY2 := Aside0.mk (blk_below HY1.out hb)
  have hYP := blk_lt HY1.out
  clear hL hs hb hN
  generalize w1.heap.size = P at *
  clear HB1 HY1
  go_wp2
  go_loopw [6] (fun y wr => ∃ (k : Nat) (L : List S27), k ≤ zs.length ∧ k ≤ 60 ∧ y = .int .i64 k ∧ Aside0 (LawAt L P w wr) ∧ Aside0 (wr.heap[Y]? = some (.cells #[.int .i64 p0, .int .i64 p1] 27 (0, 0))) ∧ Aside0 (Lo60 L)) (fun y _ => zs.length - (intOf y).toNat)
  case atStart => exact ⟨0, [], Nat.zero_le _, by omega, rfl, L2, HY2, ⟨fun n hn => absurd hn (in_nil n)⟩⟩
  case round =>
    clear L2 HY2
    obtain ⟨k, L, hk, hk1, rfl, HL, HY, HS⟩ := hrel
    by_cases hc : k < zs.length ∧ k < 60
    · obtain ⟨c1, c2⟩ := hc
      have yk : decide ((k : Int) < (zs.length : Int)) = true := decide_eq_true (by omega)
      have y2 : decide ((k : Int) < 60) = true := decide_eq_true (by omega)
      have i0 : decide ((0 : Int) ≤ (k : Int)) = true := decide_eq_true (by omega)
      obtain ⟨ad, e1, d0, d1, d2, d3⟩ := at_T29 (Kd.C_below hr.out HL.out.bel) (k : Int) (by omega) (by omega)
      have hat := Lib.hid fun (W : World) (hb : Below wr.heap.size wr W) => (at_T29 (Kd.C_below hr.out (HL.out.below hb).bel) (k : Int) (by omega) (by omega))
      cases e1
      rw [Int.toNat_natCast] at d0 d1 d2 d3
      rw [Int.toNat_natCast] at hat
      generalize (rd_T29 zs (k : Int)).f0 = m0 at *
      generalize (rd_T29 zs (k : Int)).f1 = m1 at *
      generalize (rd_T29 zs (k : Int)).f2.f0 = x0 at *
      generalize (rd_T29 zs (k : Int)).f2.f1 = x1 at *
      have hO := Lib.hid (of_calls x0 x1 wr)
      go_wp2_with fail
      refine hO.out.mono ?_
      rintro e w3 ⟨⟨a, b, rfl, ha, hab, hb, hbel⟩⟩
      have L3 := Aside0.mk (HL.out.below hbel)
      have HY3 := Aside0.mk (blk_below HY.out hbel)
      clear d0 d1 d2 d3
      obtain ⟨ad', e1, d0, _, _, _⟩ := hat.out _ (hbel.alloc hbel.size (.cells #[.int .i64 a, .int .i64 b] 27))
      cases e1
      have em := Lib.hid (may60 ha hab hb)
      have ec : codeM a b = 0 := if_pos em.out
      have LW := Aside0.mk (L3.out.below ((Below.refl _ _).alloc (Nat.le_refl _) (.cells #[.int .i64 a, .int .i64 b] 27)))
      have HXW := Aside0.mk (heap_alloc_new w3 (.cells #[.int .i64 a, .int .i64 b] 27))
      have HYW := Aside0.mk (blk_below HY3.out ((Below.refl _ _).alloc (Nat.le_refl _) (.cells #[.int .i64 a, .int .i64 b] 27)))
      have hPX := L3.out.lt
      clear hO hbel hat HL HY L3 HY3
      by_cases hm : m0 = 0
      · subst hm
        go_wp2_with fail
        generalize w3.alloc (.cells #[.int .i64 a, .int .i64 b] 27) = W at *
        generalize w3.heap.size = X at *
        clear d0
        have hA := fun (w' : World) (hl : Aside0 (LawAt L P w w')) => law_add L P a b w w' hl
        rw [ec] at hA
        replace hA := Lib.hid hA
        have hXP : X ≠ P := by omega
        have hYP' : Y ≠ P := by omega
        obtain ⟨d0, d1, _⟩ := BX.cells (show BX X a b W from HXW.out)
        have hBX := Aside0.mk (show BX X a b W from HXW.out)
        replace HYW := Aside0.mk (show BX Y p0 p1 W from HYW.out)
        clear HXW
        by_cases hq : a < b
        · have zq : decide (a < b) = true := decide_eq_true hq
          go_region_held3 (fun w' => w'.cell? ⟨X, 0, none⟩ = some (.int .i64 a) ∧ w'.cell? ⟨X, 1, none⟩ = some (.int .i64 b) ∧ Aside0 (BX X a b w')) ((refine BX.cells ?_; (with_reducible repeat (first | exact Aside0.out (by assumption) | exact getBX (by assumption) | refine BX.drew ?_ | refine BX.drewN ?_ _)))) (first | (go_at_call 8; refine (hA.out _ (by (first | exact LW | exact ⟨LW.out.below (drawn_any ⟨⟨_, rfl⟩⟩)⟩))).mono ?_; rintro e w4 ⟨rfl, ⟨L', hl, hcc, hp⟩⟩; have hk := Aside0.mk (BX.ch (getBX (by assumption)) hcc hXP); have HY4 := Aside0.mk (BX.ch (P := P) (w' := w4) (by exact HYW.out) hcc hYP'); have L4 := Aside0.mk hl) | (go_at_call 15; refine (law_covers _ _ a b _ _ (by (first | exact L4 | exact ⟨L4.out.below (drawn_any ⟨⟨_, rfl⟩⟩)⟩))).mono ?_; rintro e w5 ⟨⟨r9, rfl, hr9, hb9⟩⟩; obtain rfl := add_covers hp em.out hr9; have hk := Aside0.mk (BX.below (getBX (by assumption)) hb9); have HY5 := Aside0.mk (BX.below (w' := w5) (by exact HY4.out) hb9); have L5 := Aside0.mk (LawAt.below (by first | exact L4.out | exact L4.out.below (drawn_any ⟨⟨_, rfl⟩⟩)) hb9); clear hr9 hb9) | (go_at_call 16; refine (law_meets _ _ a b _ _ (by (first | exact L5 | exact ⟨L5.out.below (drawn_any ⟨⟨_, rfl⟩⟩)⟩))).mono ?_; rintro e w6 ⟨⟨r9, rfl, hr9, hb9⟩⟩; obtain rfl := add_meets hp em.out hr9; have hk := Aside0.mk (BX.below (getBX (by assumption)) hb9); have HY6 := Aside0.mk (BX.below (w' := w6) (by exact HY5.out) hb9); have L6 := Aside0.mk (LawAt.below (by first | exact L5.out | exact L5.out.below (drawn_any ⟨⟨_, rfl⟩⟩)) hb9); clear hr9 hb9))
          all_goals
            have S4 := Aside0.mk (HS.out.add hp (by omega))
            try go_wp2
            try go_roundw
            case rel => first | exact ⟨k + 1, L', by omega, by omega, by go_num, L6, HY6, S4⟩ | exact ⟨k + 1, L', by omega, by omega, by go_num, ⟨L6.out.below (drawn_any ⟨⟨_, rfl⟩⟩)⟩, ⟨HY6.out⟩, S4⟩
            case measure => simp [intOf]; omega
        · have zq : decide (a < b) = false := decide_eq_false hq
          go_region_held3 (fun w' => w'.cell? ⟨X, 0, none⟩ = some (.int .i64 a) ∧ w'.cell? ⟨X, 1, none⟩ = some (.int .i64 b) ∧ Aside0 (BX X a b w')) ((refine BX.cells ?_; (with_reducible repeat (first | exact Aside0.out (by assumption) | exact getBX (by assumption) | refine BX.drew ?_ | refine BX.drewN ?_ _)))) (first | (go_at_call 8; refine (hA.out _ (by (first | exact LW | exact ⟨LW.out.below (drawn_any ⟨⟨_, rfl⟩⟩)⟩))).mono ?_; rintro e w4 ⟨rfl, ⟨L', hl, hcc, hp⟩⟩; have hk := Aside0.mk (BX.ch (getBX (by assumption)) hcc hXP); have HY4 := Aside0.mk (BX.ch (P := P) (w' := w4) (by exact HYW.out) hcc hYP'); have L4 := Aside0.mk hl) | (go_at_call 15; refine (law_covers _ _ a b _ _ (by (first | exact L4 | exact ⟨L4.out.below (drawn_any ⟨⟨_, rfl⟩⟩)⟩))).mono ?_; rintro e w5 ⟨⟨r9, rfl, hr9, hb9⟩⟩; obtain rfl := add_covers hp em.out hr9; have hk := Aside0.mk (BX.below (getBX (by assumption)) hb9); have HY5 := Aside0.mk (BX.below (w' := w5) (by exact HY4.out) hb9); have L5 := Aside0.mk (LawAt.below (by first | exact L4.out | exact L4.out.below (drawn_any ⟨⟨_, rfl⟩⟩)) hb9); clear hr9 hb9) | (go_at_call 16; refine (law_meets _ _ a b _ _ (by (first | exact L5 | exact ⟨L5.out.below (drawn_any ⟨⟨_, rfl⟩⟩)⟩))).mono ?_; rintro e w6 ⟨⟨r9, rfl, hr9, hb9⟩⟩; obtain rfl := add_meets hp em.out hr9; have hk := Aside0.mk (BX.below (getBX (by assumption)) hb9); have HY6 := Aside0.mk (BX.below (w' := w6) (by exact HY5.out) hb9); have L6 := Aside0.mk (LawAt.below (by first | exact L5.out | exact L5.out.below (drawn_any ⟨⟨_, rfl⟩⟩)) hb9); clear hr9 hb9))
          all_goals
            have S4 := Aside0.mk (HS.out.add hp (by omega))
            try go_wp2
            try go_roundw
            case rel => first | exact ⟨k + 1, L', by omega, by omega, by go_num, L6, HY6, S4⟩ | exact ⟨k + 1, L', by omega, by omega, by go_num, ⟨L6.out.below (drawn_any ⟨⟨_, rfl⟩⟩)⟩, ⟨HY6.out⟩, S4⟩
            case measure => simp [intOf]; omega
      · have z : (m0 == 0) = false := beq_eq_false_iff_ne.2 hm
        go_wp2_with fail
        generalize w3.alloc (.cells #[.int .i64 a, .int .i64 b] 27) = W at *
        generalize w3.heap.size = X at *
        clear d0
        have hA := fun (w' : World) (hl : Aside0 (LawAt L P w w')) => law_rem L P a b w w' hl
        rw [ec] at hA
        replace hA := Lib.hid hA
        have hXP : X ≠ P := by omega
        have hYP' : Y ≠ P := by omega
        obtain ⟨d0, d1, _⟩ := BX.cells (show BX X a b W from HXW.out)
        have hBX := Aside0.mk (show BX X a b W from HXW.out)
        replace HYW := Aside0.mk (show BX Y p0 p1 W from HYW.out)
        clear HXW
        by_cases hq : a = b
        · have zq : (a == b) = true := beq_iff_eq.2 hq
          have zq2 : decide (a = b) = true := decide_eq_true hq
          clear hq
          go_region_held3 (fun w' => w'.cell? ⟨X, 0, none⟩ = some (.int .i64 a) ∧ w'.cell? ⟨X, 1, none⟩ = some (.int .i64 b) ∧ Aside0 (BX X a b w')) ((refine BX.cells ?_; (with_reducible repeat (first | exact Aside0.out (by assumption) | exact getBX (by assumption) | refine BX.drew ?_ | refine BX.drewN ?_ _)))) (first | (go_at_call 10; refine (hA.out _ (by (first | exact LW | exact ⟨LW.out.below (drawn_any ⟨⟨_, rfl⟩⟩)⟩))).mono ?_; rintro e w4 ⟨rfl, ⟨L', hl, hcc, hp⟩⟩; have hk := Aside0.mk (BX.ch (getBX (by assumption)) hcc hXP); have HY4 := Aside0.mk (BX.ch (P := P) (w' := w4) (by exact HYW.out) hcc hYP'); have L4 := Aside0.mk hl) | (go_at_call 16; refine (law_meets _ _ a b _ _ (by (first | exact L4 | exact ⟨L4.out.below (drawn_any ⟨⟨_, rfl⟩⟩)⟩))).mono ?_; rintro e w5 ⟨⟨r9, rfl, hr9, hb9⟩⟩; obtain rfl := rem_meets hp hr9; have hk := Aside0.mk (BX.below (getBX (by assumption)) hb9); have HY5 := Aside0.mk (BX.below (w' := w5) (by exact HY4.out) hb9); have L5 := Aside0.mk (LawAt.below (by first | exact L4.out | exact L4.out.below (drawn_any ⟨⟨_, rfl⟩⟩)) hb9); clear hr9 hb9) | (go_at_call 15; refine (law_covers _ _ a b _ _ (by (first | exact L5 | exact ⟨L5.out.below (drawn_any ⟨⟨_, rfl⟩⟩)⟩))).mono ?_; rintro e w6 ⟨⟨r9, rfl, hr9, hb9⟩⟩; obtain rfl := rem_covers hp em.out hab hr9; have hk := Aside0.mk (BX.below (getBX (by assumption)) hb9); have HY6 := Aside0.mk (BX.below (w' := w6) (by exact HY5.out) hb9); have L6 := Aside0.mk (LawAt.below (by first | exact L5.out | exact L5.out.below (drawn_any ⟨⟨_, rfl⟩⟩)) hb9); clear hr9 hb9))
          all_goals
            have S4 := Aside0.mk (HS.out.rem hp)
            try go_wp2
            try go_roundw
            case rel => first | exact ⟨k + 1, L', by omega, by omega, by go_num, L6, HY6, S4⟩ | exact ⟨k + 1, L', by omega, by omega, by go_num, ⟨L6.out.below (drawn_any ⟨⟨_, rfl⟩⟩)⟩, ⟨HY6.out⟩, S4⟩
            case measure => simp [intOf]; omega
        · have zq : (a == b) = false := beq_eq_false_iff_ne.2 hq
          have zq2 : decide (a = b) = false := decide_eq_false hq
          clear hq
          go_region_held3 (fun w' => w'.cell? ⟨X, 0, none⟩ = some (.int .i64 a) ∧ w'.cell? ⟨X, 1, none⟩ = some (.int .i64 b) ∧ Aside0 (BX X a b w')) ((refine BX.cells ?_; (with_reducible repeat (first | exact Aside0.out (by assumption) | exact getBX (by assumption) | refine BX.drew ?_ | refine BX.drewN ?_ _)))) (first | (go_at_call 10; refine (hA.out _ (by (first | exact LW | exact ⟨LW.out.below (drawn_any ⟨⟨_, rfl⟩⟩)⟩))).mono ?_; rintro e w4 ⟨rfl, ⟨L', hl, hcc, hp⟩⟩; have hk := Aside0.mk (BX.ch (getBX (by assumption)) hcc hXP); have HY4 := Aside0.mk (BX.ch (P := P) (w' := w4) (by exact HYW.out) hcc hYP'); have L4 := Aside0.mk hl) | (go_at_call 16; refine (law_meets _ _ a b _ _ (by (first | exact L4 | exact ⟨L4.out.below (drawn_any ⟨⟨_, rfl⟩⟩)⟩))).mono ?_; rintro e w5 ⟨⟨r9, rfl, hr9, hb9⟩⟩; obtain rfl := rem_meets hp hr9; have hk := Aside0.mk (BX.below (getBX (by assumption)) hb9); have HY5 := Aside0.mk (BX.below (w' := w5) (by exact HY4.out) hb9); have L5 := Aside0.mk (LawAt.below (by first | exact L4.out | exact L4.out.below (drawn_any ⟨⟨_, rfl⟩⟩)) hb9); clear hr9 hb9) | (go_at_call 15; refine (law_covers _ _ a b _ _ (by (first | exact L5 | exact ⟨L5.out.below (drawn_any ⟨⟨_, rfl⟩⟩)⟩))).mono ?_; rintro e w6 ⟨⟨r9, rfl, hr9, hb9⟩⟩; obtain rfl := rem_covers hp em.out hab hr9; have hk := Aside0.mk (BX.below (getBX (by assumption)) hb9); have HY6 := Aside0.mk (BX.below (w' := w6) (by exact HY5.out) hb9); have L6 := Aside0.mk (LawAt.below (by first | exact L5.out | exact L5.out.below (drawn_any ⟨⟨_, rfl⟩⟩)) hb9); clear hr9 hb9))
          all_goals
            have S4 := Aside0.mk (HS.out.rem hp)
            try go_wp2
            try go_roundw
            case rel => first | exact ⟨k + 1, L', by omega, by omega, by go_num, L6, HY6, S4⟩ | exact ⟨k + 1, L', by omega, by omega, by go_num, ⟨L6.out.below (drawn_any ⟨⟨_, rfl⟩⟩)⟩, ⟨HY6.out⟩, S4⟩
            case measure => simp [intOf]; omega
    · have hex : zs.length ≤ k ∨ (k < zs.length ∧ 60 ≤ k) := by omega
      clear hr hc HS
      rcases hex with hx | ⟨hx, hx2⟩
      · have yk : decide ((k : Int) < (zs.length : Int)) = false := decide_eq_false (by omega)
        have hO := Lib.hid (of_calls p0 p1 wr)
        have d0 := (blk_cell HY.out 0).trans (rfl : _ = some (Value.int .i64 p0))
        have d1 := (blk_cell HY.out 1).trans (rfl : _ = some (Value.int .i64 p1))
        go_wp2_with fail
        refine hO.out.mono ?_
        rintro e w3 ⟨⟨a, b, rfl, ha, hab, hb, hbel⟩⟩
        have L3 := Aside0.mk (HL.out.below hbel)
        have HY3 := Aside0.mk (blk_below HY.out hbel)
        clear d0 d1 hO hbel HL HY
        have d0 := (blk_cell HY3.out 0).trans (rfl : _ = some (Value.int .i64 p0))
        have d1 := (blk_cell HY3.out 1).trans (rfl : _ = some (Value.int .i64 p1))
        have f0 := blk_frozen HY3.out 0
        have f1 := blk_frozen HY3.out 1
        have em := Lib.hid (may60 ha hab hb)
        have LF := Aside0.mk (L3.out.far ((Ch.set (b := Y) (i := 0) (.int .i64 a)).trans (Ch.set (i := 1) (.int .i64 b))) (by have := hY.out; omega) hYP)
        have BF := Aside0.mk (show BX Y a b ((w3.setCell ⟨Y, 0, none⟩ (.int .i64 a)).setCell ⟨Y, 1, none⟩ (.int .i64 b)) from blk_set (blk_set HY3.out 0 _) 1 _)
        go_wp2_with fail
        generalize (w3.setCell ⟨Y, 0, none⟩ (.int .i64 a)).setCell ⟨Y, 1, none⟩ (.int .i64 b) = W at *
        clear d0 d1 f0 f1 HY3 L3
        refine (law_count _ _ _ _ LF).mono ?_
        rintro e w4 ⟨rfl, hb4⟩
        have L4 := Aside0.mk (LF.out.below hb4)
        have B4 := Aside0.mk (BX.below BF.out hb4)
        clear hb4 LF BF
        clear W
        obtain ⟨d0, d1, _⟩ := BX.cells B4.out
        have hG := Lib.hid (law_gaps _ _ a b _ _ L4)
        go_wp2_with fail
        refine hG.out.mono ?_
        rintro e w5 ⟨⟨u, G, rfl, ho, hGs, hGp, hb5⟩⟩
        have L5 := Aside0.mk (L4.out.below hb5)
        have B5 := Aside0.mk (BX.below B4.out hb5)
        have hPg := L4.out.lt
        have hGs' := Aside0.mk hGs
        have hGp' := Aside0.mk hGp
        have hGl := hGs.short
        obtain ⟨A, c, rfl⟩ := Kd.R_slice ho
        have HO := Aside0.mk ho
        clear ho hGs hGp hb5 L4 B4 hG d0 d1
        generalize w4.heap.size = gb at *
        go_wp2
        go_loopw [8, 87] (fun s y wr => ∃ (j : Nat) (Lk : List S27), j ≤ G.length ∧ y = .int .i64 j ∧ s = .int .i64 (cntK Lk Lk.length) ∧ Aside0 (LawAt Lk P w wr) ∧ Aside0 (BX Y a b wr) ∧ Aside0 (OwnS wr gb (.slice A G.length c) G) ∧ Aside0 (∀ n, inB Lk n = true ↔ inB L n = true ∨ inB (G.take j) n = true)) (fun _ y _ => G.length - (intOf y).toNat)
        case atStart => exact ⟨0, L, Nat.zero_le _, rfl, rfl, L5, B5, HO, ⟨fun n => ⟨.inl, fun q => q.elim id (fun q => absurd q (in_nil n))⟩⟩⟩
        case round =>
          clear L5 B5 HO
          obtain ⟨j, Lk, hj, rfl, rfl, HLk, HBk, HOk, HMk⟩ := hrel
          by_cases hlt : j < G.length
          · have yj : decide ((j : Int) < (G.length : Int)) = true := decide_eq_true (by omega)
            have i0 : decide ((0 : Int) ≤ (j : Int)) = true := decide_eq_true (by omega)
            obtain ⟨ad, e1, c0, c1⟩ := at_T27 (Kd.R_reads' HOk.out).2.2 (j : Int) (by omega) (by omega)
            cases e1
            rw [Int.toNat_natCast] at c0 c1
            have bb := hGs'.out.each j hlt
            have hti := Lib.hid (take_in G j hlt)
            have hng : Hid (∀ n, (rd_T27 G j).f0 ≤ n → n < (rd_T27 G j).f1 → ¬ (inB Lk n = true)) := Lib.hid fun n h0 h1 q => by
              rcases (HMk.out n).1 q with q | q
              · exact ((hGp'.out n).1 ((in_iff _ _).2 ⟨j, hlt, h0, h1⟩)).2 q
              · have := take_lt hGs'.out j hlt n q; omega
            have bk := cntK_bd HLk.out.sp (by omega) Lk.length (Nat.le_refl _)
            have hkl := HLk.out.sp.short
            generalize (rd_T27 G j).f0 = y0 at *
            generalize (rd_T27 G j).f1 = y1 at *
            have ey := Lib.hid (show mayB y0 y1 = true from decide_eq_true ⟨by omega, by omega, by omega⟩)
            have ec : codeM y0 y1 = 0 := if_pos ey.out
            have LW := Aside0.mk (HLk.out.below ((Below.refl _ _).alloc (Nat.le_refl _) (.cells #[.int .i64 y0, .int .i64 y1] 27)))
            have BW := Aside0.mk (BX.below HBk.out ((Below.refl _ _).alloc (Nat.le_refl _) (.cells #[.int .i64 y0, .int .i64 y1] 27)))
            have OW := Aside0.mk (Kd.R_below HOk.out ((Below.refl _ _).alloc (Nat.le_refl _) (.cells #[.int .i64 y0, .int .i64 y1] 27)))
            have XW := Aside0.mk (show BX wr.heap.size y0 y1 (wr.alloc (.cells #[.int .i64 y0, .int .i64 y1] 27)) from heap_alloc_new wr (.cells #[.int .i64 y0, .int .i64 y1] 27))
            have hPX := HLk.out.lt
            clear HOk HBk HLk
            go_wp2_with fail
            clear c0 c1
            generalize wr.alloc (.cells #[.int .i64 y0, .int .i64 y1] 27) = W at *
            generalize wr.heap.size = X at *
            refine (law_meets _ _ y0 y1 _ _ LW).mono ?_
            rintro e w6 ⟨⟨r9, rfl, hr9, hb9⟩⟩
            obtain rfl : r9 = false := by
              rw [← Bool.not_eq_true, hr9]
              rintro ⟨_, n, h0, h1, h2⟩
              exact hng.out n h0 h1 h2
            have L6 := Aside0.mk (LW.out.below hb9)
            have B6 := Aside0.mk (BX.below BW.out hb9)
            have O6 := Aside0.mk (Kd.R_below OW.out hb9)
            have X6 := Aside0.mk (BX.below XW.out hb9)
            clear hr9 hb9 LW BW OW XW
            obtain ⟨d0, d1, _⟩ := BX.cells X6.out
            have hA := law_add _ _ y0 y1 _ _ L6
            rw [ec] at hA
            replace hA := Lib.hid hA
            clear ec
            go_wp2_with fail
            refine hA.out.mono ?_
            rintro e w7 ⟨rfl, ⟨L', hl, hcc, hp⟩⟩
            have L7 := Aside0.mk hl
            have B7 := Aside0.mk (BX.ch B6.out hcc (by omega))
            have O7 := Aside0.mk (OwnS.ch O6.out hcc hPg)
            have X7 := Aside0.mk (BX.ch X6.out hcc (by omega))
            have hcnt := Lib.hid (cnt_add L6.out.sp hl.sp hp ey.out hng.out)
            have hM' : Aside0 (∀ n, inB L' n = true ↔ inB L n = true ∨ inB (G.take (j + 1)) n = true) := ⟨fun n => by
              rw [hp n, HMk.out n, hti.out n, or_assoc]
              exact or_congr Iff.rfl (or_congr Iff.rfl ⟨fun q => q.2, fun q => ⟨ey.out, q⟩⟩)⟩
            clear hl hcc hp hA L6 B6 O6 X6 d0 d1 HMk hng hti
            obtain ⟨d0, d1, _⟩ := BX.cells X7.out
            generalize cntK Lk Lk.length = s at *
            go_wp2
            go_roundw
            case rel => exact ⟨j + 1, L', by omega, by go_num, by rw [hcnt.out], L7, B7, O7, hM'⟩
            case measure => simp [intOf]; omega
          · obtain rfl : j = G.length := by omega
            have hall : Aside0 (∀ n, a ≤ n → n < b → inB Lk n = true) := ⟨fun n h0 h1 => by
              refine (HMk.out n).2 ?_
              rw [List.take_length]
              cases hq : inB L n
              · exact .inr ((hGp'.out n).2 ⟨⟨em.out, h0, h1⟩, by rw [hq]; decide⟩)
              · exact .inl rfl⟩
            have hCk := Lib.hid (law_covers _ _ a b _ _ HLk)
            obtain ⟨d0, d1, _⟩ := BX.cells HBk.out
            clear HMk HOk hGp' hGs'
            go_wp2_with fail
            refine hCk.out.mono ?_
            rintro e w6 ⟨⟨r9, rfl, hr9, hb9⟩⟩
            obtain rfl : r9 = true := hr9.2 ⟨em.out, hall.out⟩
            have L6 := Aside0.mk (HLk.out.below hb9)
            have B6 := Aside0.mk (BX.below HBk.out hb9)
            clear hr9 hb9 HLk HBk hCk d0 d1
            have hN := Lib.hid (law_count _ _ _ _ L6)
            go_wp2_with fail
            refine hN.out.mono ?_
            rintro e w7 ⟨rfl, hb9⟩
            have L7 := Aside0.mk (L6.out.below hb9)
            have B7 := Aside0.mk (BX.below B6.out hb9)
            clear hb9 L6 B6 hN
            obtain ⟨d0, d1, _⟩ := BX.cells B7.out
            have hG := Lib.hid (law_gaps _ _ a b _ _ L7)
            generalize cntK Lk Lk.length = s at *
            go_wp2_with fail
            refine hG.out.mono ?_
            rintro e w8 ⟨⟨u, G2, rfl, ho, hs2, hp2, hb9⟩⟩
            obtain rfl : G2 = [] := Sp_none hs2 (fun n q => ((hp2 n).1 q).2 (hall.out n ((hp2 n).1 q).1.2.1 ((hp2 n).1 q).1.2.2))
            obtain ⟨A2, c2, rfl⟩ := Kd.R_slice ho
            have L8 := Aside0.mk (L7.out.below hb9)
            clear ho hs2 hp2 hb9 hG L7 d0 d1
            go_wp2
            go_ret
            exact ⟨rfl, L8.out.bel⟩
      · have yk : decide ((k : Int) < (zs.length : Int)) = true := decide_eq_true (by omega)
        have y2 : decide ((k : Int) < 60) = false := decide_eq_false (by omega)
        have hO := Lib.hid (of_calls p0 p1 wr)
        have d0 := (blk_cell HY.out 0).trans (rfl : _ = some (Value.int .i64 p0))
        have d1 := (blk_cell HY.out 1).trans (rfl : _ = some (Value.int .i64 p1))
        go_wp2_with fail
        refine hO.out.mono ?_
        rintro e w3 ⟨⟨a, b, rfl, ha, hab, hb, hbel⟩⟩
        have L3 := Aside0.mk (HL.out.below hbel)
        have HY3 := Aside0.mk (blk_below HY.out hbel)
        clear d0 d1 hO hbel HL HY
        have d0 := (blk_cell HY3.out 0).trans (rfl : _ = some (Value.int .i64 p0))
        have d1 := (blk_cell HY3.out 1).trans (rfl : _ = some (Value.int .i64 p1))
        have f0 := blk_frozen HY3.out 0
        have f1 := blk_frozen HY3.out 1
        have em := Lib.hid (may60 ha hab hb)
        have LF := Aside0.mk (L3.out.far ((Ch.set (b := Y) (i := 0) (.int .i64 a)).trans (Ch.set (i := 1) (.int .i64 b))) (by have := hY.out; omega) hYP)
        have BF := Aside0.mk (show BX Y a b ((w3.setCell ⟨Y, 0, none⟩ (.int .i64 a)).setCell ⟨Y, 1, none⟩ (.int .i64 b)) from blk_set (blk_set HY3.out 0 _) 1 _)
        go_wp2_with fail
        generalize (w3.setCell ⟨Y, 0, none⟩ (.int .i64 a)).setCell ⟨Y, 1, none⟩ (.int .i64 b) = W at *
        clear d0 d1 f0 f1 HY3 L3
        refine (law_count _ _ _ _ LF).mono ?_
        rintro e w4 ⟨rfl, hb4⟩
        have L4 := Aside0.mk (LF.out.below hb4)
        have B4 := Aside0.mk (BX.below BF.out hb4)
        clear hb4 LF BF
        clear W
        obtain ⟨d0, d1, _⟩ := BX.cells B4.out
        have hG := Lib.hid (law_gaps _ _ a b _ _ L4)
        go_wp2_with fail
        refine hG.out.mono ?_
        rintro e w5 ⟨⟨u, G, rfl, ho, hGs, hGp, hb5⟩⟩
        have L5 := Aside0.mk (L4.out.below hb5)
        have B5 := Aside0.mk (BX.below B4.out hb5)
        have hPg := L4.out.lt
        have hGs' := Aside0.mk hGs
        have hGp' := Aside0.mk hGp
        have hGl := hGs.short
        obtain ⟨A, c, rfl⟩ := Kd.R_slice ho
        have HO := Aside0.mk ho
        clear ho hGs hGp hb5 L4 B4 hG d0 d1
        generalize w4.heap.size = gb at *
        go_wp2
        go_loopw [8, 87] (fun s y wr => ∃ (j : Nat) (Lk : List S27), j ≤ G.length ∧ y = .int .i64 j ∧ s = .int .i64 (cntK Lk Lk.length) ∧ Aside0 (LawAt Lk P w wr) ∧ Aside0 (BX Y a b wr) ∧ Aside0 (OwnS wr gb (.slice A G.length c) G) ∧ Aside0 (∀ n, inB Lk n = true ↔ inB L n = true ∨ inB (G.take j) n = true)) (fun _ y _ => G.length - (intOf y).toNat)
        case atStart => exact ⟨0, L, Nat.zero_le _, rfl, rfl, L5, B5, HO, ⟨fun n => ⟨.inl, fun q => q.elim id (fun q => absurd q (in_nil n))⟩⟩⟩
        case round =>
          clear L5 B5 HO
          obtain ⟨j, Lk, hj, rfl, rfl, HLk, HBk, HOk, HMk⟩ := hrel
          by_cases hlt : j < G.length
          · have yj : decide ((j : Int) < (G.length : Int)) = true := decide_eq_true (by omega)
            have i0 : decide ((0 : Int) ≤ (j : Int)) = true := decide_eq_true (by omega)
            obtain ⟨ad, e1, c0, c1⟩ := at_T27 (Kd.R_reads' HOk.out).2.2 (j : Int) (by omega) (by omega)
            cases e1
            rw [Int.toNat_natCast] at c0 c1
            have bb := hGs'.out.each j hlt
            have hti := Lib.hid (take_in G j hlt)
            have hng : Hid (∀ n, (rd_T27 G j).f0 ≤ n → n < (rd_T27 G j).f1 → ¬ (inB Lk n = true)) := Lib.hid fun n h0 h1 q => by
              rcases (HMk.out n).1 q with q | q
              · exact ((hGp'.out n).1 ((in_iff _ _).2 ⟨j, hlt, h0, h1⟩)).2 q
              · have := take_lt hGs'.out j hlt n q; omega
            have bk := cntK_bd HLk.out.sp (by omega) Lk.length (Nat.le_refl _)
            have hkl := HLk.out.sp.short
            generalize (rd_T27 G j).f0 = y0 at *
            generalize (rd_T27 G j).f1 = y1 at *
            have ey := Lib.hid (show mayB y0 y1 = true from decide_eq_true ⟨by omega, by omega, by omega⟩)
            have ec : codeM y0 y1 = 0 := if_pos ey.out
            have LW := Aside0.mk (HLk.out.below ((Below.refl _ _).alloc (Nat.le_refl _) (.cells #[.int .i64 y0, .int .i64 y1] 27)))
            have BW := Aside0.mk (BX.below HBk.out ((Below.refl _ _).alloc (Nat.le_refl _) (.cells #[.int .i64 y0, .int .i64 y1] 27)))
            have OW := Aside0.mk (Kd.R_below HOk.out ((Below.refl _ _).alloc (Nat.le_refl _) (.cells #[.int .i64 y0, .int .i64 y1] 27)))
            have XW := Aside0.mk (show BX wr.heap.size y0 y1 (wr.alloc (.cells #[.int .i64 y0, .int .i64 y1] 27)) from heap_alloc_new wr (.cells #[.int .i64 y0, .int .i64 y1] 27))
            have hPX := HLk.out.lt
            clear HOk HBk HLk
            go_wp2_with fail
            clear c0 c1
            generalize wr.alloc (.cells #[.int .i64 y0, .int .i64 y1] 27) = W at *
            generalize wr.heap.size = X at *
            refine (law_meets _ _ y0 y1 _ _ LW).mono ?_
            rintro e w6 ⟨⟨r9, rfl, hr9, hb9⟩⟩
            obtain rfl : r9 = false := by
              rw [← Bool.not_eq_true, hr9]
              rintro ⟨_, n, h0, h1, h2⟩
              exact hng.out n h0 h1 h2
            have L6 := Aside0.mk (LW.out.below hb9)
            have B6 := Aside0.mk (BX.below BW.out hb9)
            have O6 := Aside0.mk (Kd.R_below OW.out hb9)
            have X6 := Aside0.mk (BX.below XW.out hb9)
            clear hr9 hb9 LW BW OW XW
            obtain ⟨d0, d1, _⟩ := BX.cells X6.out
            have hA := law_add _ _ y0 y1 _ _ L6
            rw [ec] at hA
            replace hA := Lib.hid hA
            clear ec
            go_wp2_with fail
            refine hA.out.mono ?_
            rintro e w7 ⟨rfl, ⟨L', hl, hcc, hp⟩⟩
            have L7 := Aside0.mk hl
            have B7 := Aside0.mk (BX.ch B6.out hcc (by omega))
            have O7 := Aside0.mk (OwnS.ch O6.out hcc hPg)
            have X7 := Aside0.mk (BX.ch X6.out hcc (by omega))
            have hcnt := Lib.hid (cnt_add L6.out.sp hl.sp hp ey.out hng.out)
            have hM' : Aside0 (∀ n, inB L' n = true ↔ inB L n = true ∨ inB (G.take (j + 1)) n = true) := ⟨fun n => by
              rw [hp n, HMk.out n, hti.out n, or_assoc]
              exact or_congr Iff.rfl (or_congr Iff.rfl ⟨fun q => q.2, fun q => ⟨ey.out, q⟩⟩)⟩
            clear hl hcc hp hA L6 B6 O6 X6 d0 d1 HMk hng hti
            obtain ⟨d0, d1, _⟩ := BX.cells X7.out
            generalize cntK Lk Lk.length = s at *
            go_wp2
            go_roundw
            case rel => exact ⟨j + 1, L', by omega, by go_num, by rw [hcnt.out], L7, B7, O7, hM'⟩
            case measure => simp [intOf]; omega
          · obtain rfl : j = G.length := by omega
            have hall : Aside0 (∀ n, a ≤ n → n < b → inB Lk n = true) := ⟨fun n h0 h1 => by
              refine (HMk.out n).2 ?_
              rw [List.take_length]
              cases hq : inB L n
              · exact .inr ((hGp'.out n).2 ⟨⟨em.out, h0, h1⟩, by rw [hq]; decide⟩)
              · exact .inl rfl⟩
            have hCk := Lib.hid (law_covers _ _ a b _ _ HLk)
            obtain ⟨d0, d1, _⟩ := BX.cells HBk.out
            clear HMk HOk hGp' hGs'
            go_wp2_with fail
            refine hCk.out.mono ?_
            rintro e w6 ⟨⟨r9, rfl, hr9, hb9⟩⟩
            obtain rfl : r9 = true := hr9.2 ⟨em.out, hall.out⟩
            have L6 := Aside0.mk (HLk.out.below hb9)
            have B6 := Aside0.mk (BX.below HBk.out hb9)
            clear hr9 hb9 HLk HBk hCk d0 d1
            have hN := Lib.hid (law_count _ _ _ _ L6)
            go_wp2_with fail
            refine hN.out.mono ?_
            rintro e w7 ⟨rfl, hb9⟩
            have L7 := Aside0.mk (L6.out.below hb9)
            have B7 := Aside0.mk (BX.below B6.out hb9)
            clear hb9 L6 B6 hN
            obtain ⟨d0, d1, _⟩ := BX.cells B7.out
            have hG := Lib.hid (law_gaps _ _ a b _ _ L7)
            generalize cntK Lk Lk.length = s at *
            go_wp2_with fail
            refine hG.out.mono ?_
            rintro e w8 ⟨⟨u, G2, rfl, ho, hs2, hp2, hb9⟩⟩
            obtain rfl : G2 = [] := Sp_none hs2 (fun n q => ((hp2 n).1 q).2 (hall.out n ((hp2 n).1 q).1.2.1 ((hp2 n).1 q).1.2.2))
            obtain ⟨A2, c2, rfl⟩ := Kd.R_slice ho
            have L8 := Aside0.mk (L7.out.below hb9)
            clear ho hs2 hp2 hb9 hG L7 d0 d1
            go_wp2
            go_ret
            exact ⟨rfl, L8.out.bel⟩
end Go.Proofs.Ytaandjafmmpbkaa.PQ
