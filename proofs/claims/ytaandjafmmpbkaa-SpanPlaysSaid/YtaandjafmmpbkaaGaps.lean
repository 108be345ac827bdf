/- The gaps of a span, walked. -/
import Derived.Test.YtaandjafmmpbkaaAdd
import Derived.Outline
import Derived.OwnWalk
import Derived.Deep.DeepCutAuto
namespace Go.Proofs.Ytaandjafmmpbkaa.PQ
open Go.RowKit Go.Proofs.YtaandjafmmpbkaaW.PrintWords Go.Proofs.YtaandjafmmpbkaaW.PrintLast Go.Proofs.YtaandjafmmpbkaaW.PrintMore
set_option linter.unusedVariables false
set_option linter.unusedSimpArgs false
/-- The gaps ahead of the spans that begin below b, and where the next would begin. -/
def gapG (b : Int) : Int → List S27 → List S27 × Int
  | p, [] => ([], p)
  | p, y :: l => if y.f0 < b then ((if p < y.f0 then [⟨p, y.f0⟩] else []) ++ (gapG b y.f1 l).1, (gapG b y.f1 l).2) else ([], p)
def gapT (b p : Int) : List S27 := if p < b then [⟨p, b⟩] else []
def gapL (l : List S27) (a b : Int) (i : Nat) : List S27 := (gapG b a (l.drop i)).1 ++ gapT b (gapG b a (l.drop i)).2
set_option maxHeartbeats 2000000 in
set_option maxRecDepth 100000 in
theorem gaps_no (P : Nat) (a b : Int) (w : World) (h : ¬ (0 ≤ a ∧ a ≤ b ∧ b ≤ 4096)) :
    Calls Try.prog 17 #[.pointer (some ⟨P, 0, none⟩), .agg #[.int .i64 a, .int .i64 b]] w fun e w' => e = .returned (.slice none 0 0) ∧ Below w.heap.size w w' := by
  have hM := fun w => may_calls a b w
  rw [show mayB a b = false from decide_eq_false h] at hM
  have hM' := Lib.hid hM
  have hb0 := Aside0.mk ((Below.refl w.heap.size w).alloc (Nat.le_refl _) (.cells #[.int .i64 a, .int .i64 b] 27))
  clear hM h
  go_enter Try.func17, Try.ntmps17
  go_wp2_with fail
  generalize w.alloc (.cells #[.int .i64 a, .int .i64 b] 27) = W at *
  refine (hM'.out _).mono ?_
  rintro e w1 ⟨rfl, hb⟩
  have hb1 := Aside0.mk (hb0.out.trans (hb.mono hb0.out.size))
  clear hb hM'
  go_wp2
  go_ret
  exact ⟨rfl, hb1.out⟩
set_option maxHeartbeats 2000000 in
set_option maxRecDepth 100000 in
theorem gaps_empty (P : Nat) (a : Int) (w : World) (h : 0 ≤ a ∧ a ≤ 4096) :
    Calls Try.prog 17 #[.pointer (some ⟨P, 0, none⟩), .agg #[.int .i64 a, .int .i64 a]] w fun e w' => e = .returned (.slice none 0 0) ∧ Below w.heap.size w w' := by
  have hM := fun w => may_calls a a w
  have hE := fun w => empty_calls a a w
  rw [show mayB a a = true from decide_eq_true ⟨h.1, Int.le_refl _, h.2⟩] at hM
  rw [decide_eq_true (Int.le_refl a)] at hE
  have hM' := Lib.hid hM
  have hE' := Lib.hid hE
  have hb0 := Aside0.mk ((Below.refl w.heap.size w).alloc (Nat.le_refl _) (.cells #[.int .i64 a, .int .i64 a] 27))
  have HX := Aside0.mk (heap_alloc_new w (.cells #[.int .i64 a, .int .i64 a] 27))
  clear hM h hE
  go_enter Try.func17, Try.ntmps17
  go_wp2_with fail
  generalize w.alloc (.cells #[.int .i64 a, .int .i64 a] 27) = W at *
  refine (hM'.out _).mono ?_
  rintro e w1 ⟨rfl, hb⟩
  have hb1 := Aside0.mk (hb0.out.trans (hb.mono hb0.out.size))
  have HX1 := Aside0.mk (blk_below HX.out hb)
  have d0 := (blk_cell HX1.out 0).trans (rfl : _ = some (Value.int .i64 a))
  have d1 := (blk_cell HX1.out 1).trans (rfl : _ = some (Value.int .i64 a))
  clear hb hM' HX hb0
  go_wp2_with fail
  refine (hE'.out _).mono ?_
  rintro e w2 ⟨rfl, hb⟩
  have hb2 := Aside0.mk (hb1.out.trans (hb.mono hb1.out.size))
  clear hb hE'
  go_wp2
  go_ret
  exact ⟨rfl, hb2.out⟩
set_option maxHeartbeats 8000000 in
set_option maxRecDepth 100000 in
theorem gaps_core (l : List S27) (P base : Nat) (v : Value) (a b : Int) (lo : Int) (w : World) (H : Aside0 (SetAt l P base v w)) (hS : Aside0 (Sp lo l)) (hlo : -1 ≤ lo) (hlen : l.length ≤ 10000) (ha : 0 ≤ a) (hab : a < b) (hb4 : b ≤ 4096) :
    Calls Try.prog 17 #[.pointer (some ⟨P, 0, none⟩), .agg #[.int .i64 a, .int .i64 b]] w fun e w' => Aside0 (∃ i u, e = .returned u ∧ At l (a + 1) i ∧ OwnS w' w.heap.size u (gapL l a b i) ∧ Below w.heap.size w w') := by
  have hM := fun w => may_calls a b w
  have hE := fun w => empty_calls a b w
  rw [show mayB a b = true from decide_eq_true ⟨ha, by omega, hb4⟩] at hM
  rw [decide_eq_false (show ¬ b ≤ a by omega)] at hE
  have hM' := Lib.hid hM
  have hE' := Lib.hid hE
  have hb0 := Aside0.mk ((Below.refl w.heap.size w).alloc (Nat.le_refl _) (.cells #[.int .i64 a, .int .i64 b] 27))
  have HX := Aside0.mk (heap_alloc_new w (.cells #[.int .i64 a, .int .i64 b] 27))
  clear hM hE
  go_enter Try.func17, Try.ntmps17
  go_wp2_with fail
  generalize hW : w.alloc (.cells #[.int .i64 a, .int .i64 b] 27) = W at *
  clear hW
  obtain ⟨X, hX⟩ : ∃ X, X = w.heap.size := ⟨_, rfl⟩
  rw [← hX] at HX ⊢
  have hX' := Lib.hid hX
  clear hX
  refine (hM'.out _).mono ?_
  rintro e w1 ⟨rfl, hb⟩
  have hb1 := Aside0.mk (hb0.out.trans (hb.mono hb0.out.size))
  have HX1 := Aside0.mk (blk_below HX.out hb)
  have d0 := (blk_cell HX1.out 0).trans (rfl : _ = some (Value.int .i64 a))
  have d1 := (blk_cell HX1.out 1).trans (rfl : _ = some (Value.int .i64 b))
  clear hb hM' HX hb0
  go_wp2_with fail
  refine (hE'.out _).mono ?_
  rintro e w2 ⟨rfl, hb⟩
  have hb2 := Aside0.mk (hb1.out.trans (hb.mono hb1.out.size))
  have HX2 := Aside0.mk (blk_below HX1.out hb)
  have H2 := Aside0.mk (H.out.below hb2.out)
  clear d0 d1 hb hE' hb1 HX1
  clear w1 W
  have d0 := (blk_cell HX2.out 0).trans (rfl : _ = some (Value.int .i64 a))
  have d1 := (blk_cell HX2.out 1).trans (rfl : _ = some (Value.int .i64 b))
  have hC := Lib.hid (at_core l P base v (a + 1) lo w2 H2 hS hlen)
  go_wp2_with fail
  refine hC.out.mono ?_
  rintro e w3 ⟨⟨i, rfl, hi, hb⟩⟩
  have hi' := Aside0.mk hi
  have hile := hi.le
  have hb3 := Aside0.mk (hb2.out.trans (hb.mono hb2.out.size))
  have HX3 := Aside0.mk (blk_below HX2.out hb)
  clear hC d0 d1 hi hb hb2 HX2 H2
  clear w2
  go_wp2_with fail
  go_loopw [5, 6, 7] (fun z p y wr => ∃ (k : Nat) (L : List S27) (q : Int), i ≤ k ∧ k ≤ l.length ∧ y = .int .i64 k ∧ p = .int .i64 q ∧ Aside0 (L.length ≤ k ∧ L ++ (gapG b q (l.drop k)).1 = (gapG b a (l.drop i)).1 ∧ (gapG b q (l.drop k)).2 = (gapG b a (l.drop i)).2) ∧ Aside0 (wr.heap[X]? = some (.cells #[.int .i64 a, .int .i64 b] 27 (0, 0))) ∧ Aside0 (Below w.heap.size w wr) ∧ Aside0 (Kd.R k27 27 wr w.heap.size (fun k => X < k) z L)) (fun _ _ y _ => l.length - (intOf y).toNat)
  case atStart => exact ⟨i, [], a, Nat.le_refl _, hile, rfl, rfl, ⟨by simp, rfl, rfl⟩, HX3, hb3, ⟨Kd.R_nil _ _ _ _ _⟩⟩
  case round =>
    clear HX3 hb3
    obtain ⟨k, L, q, hik, hk, rfl, rfl, HA, HX, HB, HO⟩ := hrel
    have H2 := Aside0.mk (H.out.below HB.out)
    have hXl := blk_lt HX.out
    have own : ∀ q, q ≤ X → u5.ownBlock ≠ some q := fun q hq e => by have := HO.out.1 q e; omega
    obtain ⟨A, c, rfl⟩ := H2.out.slice
    have hP := H2.out.head0
    have d0 := (blk_cell HX.out 0).trans (rfl : _ = some (Value.int .i64 a))
    have d1 := (blk_cell HX.out 1).trans (rfl : _ = some (Value.int .i64 b))
    have hfin : ∀ (vv : Value) (ww : World) (Lf : List S27), Lf = gapL l a b i → Kd.R k27 27 ww w.heap.size (fun k => X < k) vv Lf → Below w.heap.size w ww → Aside0 (∃ i u, (Ending.returned vv) = .returned u ∧ At l (a + 1) i ∧ OwnS ww w.heap.size u (gapL l a b i) ∧ Below w.heap.size w ww) := fun vv ww Lf e h1 h2 => ⟨⟨i, vv, rfl, hi'.out, by rw [← e]; exact ownS h1, h2⟩⟩
    replace hfin := Lib.hid hfin
    by_cases hlt : k < l.length
    · have yk : decide ((k : Int) < (l.length : Int)) = true := decide_eq_true (by omega)
      have i0 : decide ((0 : Int) ≤ (k : Int)) = true := decide_eq_true (by omega)
      obtain ⟨g, rfl, c0, c1⟩ := H2.out.elem k hlt
      have hdr := drop_rd l k hlt
      have bb := hS.out.each k hlt
      have hE := HA.out
      obtain ⟨y, hyy⟩ : ∃ y, rd_T27 l (k : Int) = y := ⟨_, rfl⟩
      rw [hyy] at c0 c1 hdr bb
      rw [hdr, gapG] at hE
      obtain ⟨y0, y1⟩ := y
      replace hyy := Lib.hid hyy
      dsimp only at c0 c1 bb hE
      by_cases hy : y0 < b
      · have zy : decide (y0 < b) = true := decide_eq_true hy
        rw [if_pos hy] at hE
        have hE' := Lib.hid hE
        clear hE hdr HA
        by_cases hq : q < y0
        · have hz : decide (q < y0) = true := decide_eq_true hq
          go_wp2
          go_quiet (fail)
          generalize hww : wr.drewN _ = W at *
          have HBw := Aside0.mk (show Below wr.heap.size wr W by rw [← hww]; exact drawn_any ⟨⟨_, rfl⟩⟩)
          replace HX := Aside0.mk (blk_below HX.out HBw.out)
          replace HO := Aside0.mk (Kd.R_below HO.out HBw.out)
          replace HB := Aside0.mk (HB.out.trans (HBw.out.mono HB.out.size))
          clear hww HBw hP c0 c1 d0 d1 H2 hXl
          have hXl := blk_lt HX.out
          have H2 := Aside0.mk (H.out.below HB.out)
          have hP := H2.out.head0
          obtain ⟨g2, eg, c0, c1⟩ := H2.out.elem k hlt
          cases eg
          rw [hyy.out] at c0 c1
          dsimp only at c0 c1
          have hA := Aside0.mk (show (L ++ [(⟨q, y0⟩ : S27)]).length ≤ k + 1 ∧ (L ++ [(⟨q, y0⟩ : S27)]) ++ (gapG b y1 (l.drop (k + 1))).1 = (gapG b a (l.drop i)).1 ∧ (gapG b y1 (l.drop (k + 1))).2 = (gapG b a (l.drop i)).2 from ⟨by have := hE'.out.1; simp; omega, by rw [← hE'.out.2.1, if_pos hq]; simp, hE'.out.2.2⟩)
          go_wp2_with ((with_reducible refine gate_builtin (b := .append) (xs := #[.tmp 54, .tmp 65]) rfl ?_); at_builtin; refine Kd.R_append_rows (P := Try.prog) (w0 := w) k27 w.heap.size (by rfl) (.tmp 54) (.tmp 65) 33 27 (.agg #[.int .i64 0, .int .i64 0]) 16 (by rfl) Try.underlying33 info27 rfl (by decide) (by decide) u5 L [⟨q, y0⟩] (some ⟨W.heap.size, 0, none⟩) 1 1 (fun k => X < k) (fun _ => False) (by rfl) (by rfl) (Kd.R_below HO.out ((Below.refl _ _).alloc (Nat.le_refl _) _)) (C_lit27 _ ⟨q, y0⟩) k27_KM (fun _ hk => hk.elim) (fun q hq => Nat.lt_of_lt_of_le hXl (Nat.le_trans ((Below.refl _ _).alloc (Nat.le_refl _) _).size hq)) (HB.out.alloc HB.out.size _) (Nat.le_trans HB.out.size ((Below.refl _ _).alloc (Nat.le_refl _) _).size) (by have := hE'.out.1; simp; omega) ?_; intro v1 w1 ho hb hg hat; have HX1 := Aside0.mk ((hg.block X (Nat.lt_of_lt_of_le hXl ((Below.refl _ _).alloc (Nat.le_refl _) _).size) (fun e => own X (Nat.le_refl _) e.symm)).trans (blk_below HX.out ((Below.refl _ _).alloc (Nat.le_refl _) _))); have HO1 := Aside0.mk ho; have HB1 := Aside0.mk hb; clear ho hb hg hat c0 c1 hP H2; have H3 := Aside0.mk (H.out.below HB1.out); have hP := H3.out.head0; (obtain ⟨g2, eg, c0, c1⟩ := H3.out.elem k hlt); cases eg; rw [hyy.out] at c0 c1; dsimp only at c0 c1)
          go_roundw
          case rel => exact ⟨k + 1, _, y1, by omega, by omega, by go_num, rfl, hA, HX1, HB1, HO1⟩
          case measure => simp [intOf]; omega
        · have hz : decide (q < y0) = false := decide_eq_false hq
          have hA := Aside0.mk (show L.length ≤ k + 1 ∧ L ++ (gapG b y1 (l.drop (k + 1))).1 = (gapG b a (l.drop i)).1 ∧ (gapG b y1 (l.drop (k + 1))).2 = (gapG b a (l.drop i)).2 from ⟨by have := hE'.out.1; omega, by rw [← hE'.out.2.1, if_neg hq]; simp, hE'.out.2.2⟩)
          go_wp2
          go_quiet (fail)
          generalize hww : wr.drewN _ = W at *
          have HBw := Aside0.mk (show Below wr.heap.size wr W by rw [← hww]; exact drawn_any ⟨⟨_, rfl⟩⟩)
          replace HX := Aside0.mk (blk_below HX.out HBw.out)
          replace HO := Aside0.mk (Kd.R_below HO.out HBw.out)
          replace HB := Aside0.mk (HB.out.trans (HBw.out.mono HB.out.size))
          clear hww HBw hP c0 c1 d0 d1 H2 hXl
          have hXl := blk_lt HX.out
          have H2 := Aside0.mk (H.out.below HB.out)
          have hP := H2.out.head0
          obtain ⟨g2, eg, c0, c1⟩ := H2.out.elem k hlt
          cases eg
          rw [hyy.out] at c0 c1
          dsimp only at c0 c1
          go_wp2
          go_roundw
          case rel => exact ⟨k + 1, _, y1, by omega, by omega, by go_num, rfl, hA, HX, HB, HO⟩
          case measure => simp [intOf]; omega
      · have zy : decide (y0 < b) = false := decide_eq_false hy
        rw [if_neg hy] at hE
        have hLl := hE.1
        have hGE : gapL l a b i = L ++ gapT b q := by
          have h1 := hE.2.1
          have h2 := hE.2.2
          dsimp only at h1 h2
          rw [List.append_nil] at h1
          unfold gapL; rw [← h1, ← h2]
        clear hE hdr HA
        replace hGE := Lib.hid hGE
        go_wp2
        go_quiet (fail)
        generalize hww : wr.drewN _ = W at *
        have HBw := Aside0.mk (show Below wr.heap.size wr W by rw [← hww]; exact drawn_any ⟨⟨_, rfl⟩⟩)
        replace HX := Aside0.mk (blk_below HX.out HBw.out)
        replace HO := Aside0.mk (Kd.R_below HO.out HBw.out)
        replace HB := Aside0.mk (HB.out.trans (HBw.out.mono HB.out.size))
        clear hww HBw d0 d1 H2 hXl hP
        have hXl := blk_lt HX.out
        have d0 := (blk_cell HX.out 0).trans (rfl : _ = some (Value.int .i64 a))
        have d1 := (blk_cell HX.out 1).trans (rfl : _ = some (Value.int .i64 b))
        by_cases hqb : q < b
        · have hz : decide (q < b) = true := decide_eq_true hqb
          rw [show gapT b q = [⟨q, b⟩] from if_pos hqb] at hGE
          go_wp2_with ((with_reducible refine gate_builtin (b := .append) (xs := #[.tmp 79, .tmp 84]) rfl ?_); at_builtin; refine Kd.R_append_rows (P := Try.prog) (w0 := w) k27 w.heap.size (by rfl) (.tmp 79) (.tmp 84) 33 27 (.agg #[.int .i64 0, .int .i64 0]) 16 (by rfl) Try.underlying33 info27 rfl (by decide) (by decide) u5 L [⟨q, b⟩] (some ⟨W.heap.size, 0, none⟩) 1 1 (fun k => X < k) (fun _ => False) (by rfl) (by rfl) (Kd.R_below HO.out ((Below.refl _ _).alloc (Nat.le_refl _) _)) (C_lit27 _ ⟨q, b⟩) k27_KM (fun _ hk => hk.elim) (fun q hq => Nat.lt_of_lt_of_le hXl (Nat.le_trans ((Below.refl _ _).alloc (Nat.le_refl _) _).size hq)) (HB.out.alloc HB.out.size _) (Nat.le_trans HB.out.size ((Below.refl _ _).alloc (Nat.le_refl _) _).size) (by have := hLl; simp; omega) ?_; intro v1 w1 ho hb hg hat; have HO1 := Aside0.mk ho; have HB1 := Aside0.mk hb; clear ho hb hg hat)
          go_ret
          exact hfin.out _ _ _ hGE.out.symm HO1.out HB1.out
        · have hz : decide (q < b) = false := decide_eq_false hqb
          rw [show gapT b q = [] from if_neg hqb, List.append_nil] at hGE
          go_wp2
          go_ret
          exact hfin.out _ _ _ hGE.out.symm HO.out HB.out
    · obtain rfl : k = l.length := by omega
      have hLl := HA.out.1
      have hGE : gapL l a b i = L ++ gapT b q := by
        have h1 := HA.out.2.1
        have h2 := HA.out.2.2
        rw [List.drop_length] at h1 h2
        dsimp only [gapG] at h1 h2
        rw [List.append_nil] at h1
        unfold gapL; rw [← h1, ← h2]
      clear HA
      replace hGE := Lib.hid hGE
      go_wp2
      go_quiet (fail)
      generalize hww : wr.drewN _ = W at *
      have HBw := Aside0.mk (show Below wr.heap.size wr W by rw [← hww]; exact drawn_any ⟨⟨_, rfl⟩⟩)
      replace HX := Aside0.mk (blk_below HX.out HBw.out)
      replace HO := Aside0.mk (Kd.R_below HO.out HBw.out)
      replace HB := Aside0.mk (HB.out.trans (HBw.out.mono HB.out.size))
      clear hww HBw d0 d1 H2 hXl hP
      have hXl := blk_lt HX.out
      have d0 := (blk_cell HX.out 0).trans (rfl : _ = some (Value.int .i64 a))
      have d1 := (blk_cell HX.out 1).trans (rfl : _ = some (Value.int .i64 b))
      by_cases hqb : q < b
      · have hz : decide (q < b) = true := decide_eq_true hqb
        rw [show gapT b q = [⟨q, b⟩] from if_pos hqb] at hGE
        go_wp2_with ((with_reducible refine gate_builtin (b := .append) (xs := #[.tmp 79, .tmp 84]) rfl ?_); at_builtin; refine Kd.R_append_rows (P := Try.prog) (w0 := w) k27 w.heap.size (by rfl) (.tmp 79) (.tmp 84) 33 27 (.agg #[.int .i64 0, .int .i64 0]) 16 (by rfl) Try.underlying33 info27 rfl (by decide) (by decide) u5 L [⟨q, b⟩] (some ⟨W.heap.size, 0, none⟩) 1 1 (fun k => X < k) (fun _ => False) (by rfl) (by rfl) (Kd.R_below HO.out ((Below.refl _ _).alloc (Nat.le_refl _) _)) (C_lit27 _ ⟨q, b⟩) k27_KM (fun _ hk => hk.elim) (fun q hq => Nat.lt_of_lt_of_le hXl (Nat.le_trans ((Below.refl _ _).alloc (Nat.le_refl _) _).size hq)) (HB.out.alloc HB.out.size _) (Nat.le_trans HB.out.size ((Below.refl _ _).alloc (Nat.le_refl _) _).size) (by have := hLl; simp; omega) ?_; intro v1 w1 ho hb hg hat; have HO1 := Aside0.mk ho; have HB1 := Aside0.mk hb; clear ho hb hg hat)
        go_ret
        exact hfin.out _ _ _ hGE.out.symm HO1.out HB1.out
      · have hz : decide (q < b) = false := decide_eq_false hqb
        rw [show gapT b q = [] from if_neg hqb, List.append_nil] at hGE
        go_wp2
        go_ret
        exact hfin.out _ _ _ hGE.out.symm HO.out HB.out
end Go.Proofs.Ytaandjafmmpbkaa.PQ
