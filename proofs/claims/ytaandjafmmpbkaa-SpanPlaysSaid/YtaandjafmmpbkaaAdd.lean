/- A span put in, walked. -/
import Derived.Test.YtaandjafmmpbkaaPut
import Derived.Outline
import Derived.RegionTactic
import Derived.BigRegion
import Derived.StillTailTactics
import Derived.Deep.RegionHeld3
import Derived.Deep.DeepCutAuto
namespace Go.Proofs.Ytaandjafmmpbkaa.PQ
open Go.RowKit Go.Proofs.YtaandjafmmpbkaaW.PrintWords Go.Proofs.YtaandjafmmpbkaaW.PrintLast Go.Proofs.YtaandjafmmpbkaaW.PrintMore
set_option linter.unusedVariables false
set_option linter.unusedSimpArgs false
/-- May a span be? -/
def mayB (a b : Int) : Bool := decide (0 ≤ a ∧ a ≤ b ∧ b ≤ 4096)
theorem may_calls (a b : Int) (w : World) : Calls Try.prog 22 #[.agg #[.int .i64 a, .int .i64 b]] w fun e w' => e = .returned (.bool (mayB a b)) ∧ Below w.heap.size w w' := by
  refine (span_May.calls a b (mayB a b) w ?_).mono fun e w' h => ⟨h.1, h.2⟩
  unfold span_May.f mayB
  by_cases h0 : a ≥ 0
  · rw [if_pos h0]
    by_cases h1 : a ≤ b
    · rw [if_pos h1]
      congr 1
      exact decide_eq_decide.2 ⟨fun h => ⟨h0, h1, h⟩, fun h => h.2.2⟩
    · rw [if_neg h1, decide_eq_false (fun h => h1 h.2.1)]
  · rw [if_neg h0, decide_eq_false (fun h => h0 h.1)]
/-- A span, grown by those that it meets. -/
def addG : S27 → List S27 → S27 × List S27
  | x, [] => (x, [])
  | x, y :: l => if y.f0 ≤ x.f1 then addG ⟨min x.f0 y.f0, max x.f1 y.f1⟩ l else (x, y :: l)
theorem drop_rd (l : List S27) (k : Nat) (h : k < l.length) : l.drop k = rd_T27 l k :: l.drop (k + 1) := by
  rw [List.drop_eq_getElem_cons h]
  unfold rd_T27
  rw [Int.toNat_natCast, List.getD_eq_getElem?_getD, List.getElem?_eq_getElem h]
  rfl
def addL (l : List S27) (x : S27) (i : Nat) : List S27 := l.take i ++ [(addG x (l.drop i)).1].filter neB ++ (addG x (l.drop i)).2
set_option maxHeartbeats 2000000 in
set_option maxRecDepth 100000 in
theorem add_no (P : Nat) (a b : Int) (w : World) (h : ¬ (0 ≤ a ∧ a ≤ b ∧ b ≤ 4096)) :
    Calls Try.prog 8 #[.pointer (some ⟨P, 0, none⟩), .agg #[.int .i64 a, .int .i64 b]] w fun e w' => e = .returned (.int .i64 1) ∧ Below w.heap.size w w' := by
  have hM := fun w => may_calls a b w
  rw [show mayB a b = false from decide_eq_false h] at hM
  have hM' := Lib.hid hM
  have hb0 := Aside0.mk ((Below.refl w.heap.size w).alloc (Nat.le_refl _) (.cells #[.int .i64 a, .int .i64 b] 27))
  clear hM h
  go_enter Try.func8, Try.ntmps8
  go_wp2_with fail
  generalize w.alloc (.cells #[.int .i64 a, .int .i64 b] 27) = W at *
  refine (hM'.out _).mono ?_
  rintro e w1 ⟨rfl, hb⟩
  have hb1 := Aside0.mk (hb0.out.trans (hb.mono hb0.out.size))
  clear hb hM'
  go_wp2
  go_ret
  exact ⟨rfl, hb1.out⟩
set_option maxHeartbeats 2000000 in
set_option maxRecDepth 100000 in
theorem add_empty (P : Nat) (a : Int) (w : World) (h : 0 ≤ a ∧ a ≤ 4096) :
    Calls Try.prog 8 #[.pointer (some ⟨P, 0, none⟩), .agg #[.int .i64 a, .int .i64 a]] w fun e w' => e = .returned (.int .i64 0) ∧ Below w.heap.size w w' := by
  have hM := fun w => may_calls a a w
  have hE := fun w => empty_calls a a w
  rw [show mayB a a = true from decide_eq_true ⟨h.1, Int.le_refl _, h.2⟩] at hM
  rw [decide_eq_true (Int.le_refl a)] at hE
  have hM' := Lib.hid hM
  have hE' := Lib.hid hE
  have hb0 := Aside0.mk ((Below.refl w.heap.size w).alloc (Nat.le_refl _) (.cells #[.int .i64 a, .int .i64 a] 27))
  have HX := Aside0.mk (heap_alloc_new w (.cells #[.int .i64 a, .int .i64 a] 27))
  clear hM h hE
  go_enter Try.func8, Try.ntmps8
  go_wp2_with fail
  generalize w.alloc (.cells #[.int .i64 a, .int .i64 a] 27) = W at *
  refine (hM'.out _).mono ?_
  rintro e w1 ⟨rfl, hb⟩
  have hb1 := Aside0.mk (hb0.out.trans (hb.mono hb0.out.size))
  have HX1 := Aside0.mk (blk_below HX.out hb)
  have d0 := (blk_cell HX1.out 0).trans (rfl : _ = some (Value.int .i64 a))
  have d1 := (blk_cell HX1.out 1).trans (rfl : _ = some (Value.int .i64 a))
  clear hb hM' HX hb0
  go_wp2_with fail
  refine (hE'.out _).mono ?_
  rintro e w2 ⟨rfl, hb⟩
  have hb2 := Aside0.mk (hb1.out.trans (hb.mono hb1.out.size))
  clear hb hE'
  go_wp2
  go_ret
  exact ⟨rfl, hb2.out⟩
theorem Ch.after {S : Nat → Prop} {w W w' : World} (hb : Below w.heap.size w W) (c : Ch S W w') : Ch S w w' :=
  ⟨c.os.trans hb.os, c.tape.trans hb.tape, c.output.trans hb.output, Nat.le_trans hb.size c.size, fun k hk hn => (c.block k (Nat.lt_of_lt_of_le hk hb.size) hn).trans (hb.block k hk)⟩
theorem put_after {l : List S27} {P base : Nat} {w W w5 : World} {e r : Ending} (hb : Below w.heap.size w W) (h : e = r ∧ Aside0 (∃ u, SetAt l P base u w5 ∧ Ch (fun k => k = P) W w5)) : e = r ∧ Aside0 (∃ u, SetAt l P base u w5 ∧ Ch (fun k => k = P) w w5) := by
  obtain ⟨h1, ⟨u, h2, h3⟩⟩ := h
  exact ⟨h1, ⟨u, h2, Ch.after hb h3⟩⟩
theorem C_lit27 (w : World) (x : S27) : Kd.C k27 (w.alloc (.cells #[.int .i64 x.f0, .int .i64 x.f1] 27)) (some ⟨w.heap.size, 0, none⟩) 1 [x] := by
  refine ⟨rfl, by decide, fun _ => ⟨_, rfl, fun j p hj => ?_⟩⟩
  obtain rfl : j = 0 := by
    rcases j with _ | j
    · rfl
    · simp at hj
  obtain rfl : x = p := by simpa using hj
  refine ⟨[.int .i64 x.f0, .int .i64 x.f1], rfl, k27_mk _ x, fun i u hu => ?_⟩
  have ea : (⟨w.heap.size, 0, none⟩ : Addr).add (0 * k27.sz + i) = ⟨w.heap.size, i, none⟩ := by
    rw [Nat.zero_mul, Nat.zero_add]
    cases i <;> simp [Addr.add]
  rw [ea, blk_cell (heap_alloc_new w _) i, ← hu]
  simp
set_option maxHeartbeats 8000000 in
set_option maxRecDepth 100000 in
theorem add_core (l : List S27) (P base : Nat) (v : Value) (a b : Int) (lo : Int) (w : World) (H : Aside0 (SetAt l P base v w)) (hS : Aside0 (Sp lo l)) (hlo : -1 ≤ lo) (hlen : l.length ≤ 10000) (ha : 0 ≤ a) (hab : a < b) (hb4 : b ≤ 4096) (hbase : Hid (base ≤ w.heap.size)) :
    Calls Try.prog 8 #[.pointer (some ⟨P, 0, none⟩), .agg #[.int .i64 a, .int .i64 b]] w fun e w' => e = .returned (.int .i64 0) ∧ Aside0 (∃ i u, At l a i ∧ SetAt (addL l ⟨a, b⟩ i) P base u w' ∧ Ch (fun k => k = P) w w') := by
  have hM := fun w => may_calls a b w
  have hE := fun w => empty_calls a b w
  rw [show mayB a b = true from decide_eq_true ⟨ha, by omega, hb4⟩] at hM
  rw [decide_eq_false (show ¬ b ≤ a by omega)] at hE
  have hM' := Lib.hid hM
  have hE' := Lib.hid hE
  have hb0 := Aside0.mk ((Below.refl w.heap.size w).alloc (Nat.le_refl _) (.cells #[.int .i64 a, .int .i64 b] 27))
  have HX := Aside0.mk (heap_alloc_new w (.cells #[.int .i64 a, .int .i64 b] 27))
  clear hM hE
  go_enter Try.func8, Try.ntmps8
  go_wp2_with fail
  generalize hW : w.alloc (.cells #[.int .i64 a, .int .i64 b] 27) = W at *
  clear hW
  have hXw := Lib.hid (Nat.le_refl w.heap.size)
  obtain ⟨X, hX⟩ : ∃ X, X = w.heap.size := ⟨_, rfl⟩
  rw [← hX] at HX ⊢
  have hX' := Lib.hid hX
  clear hX
  refine (hM'.out _).mono ?_
  rintro e w1 ⟨rfl, hb⟩
  have hb1 := Aside0.mk (hb0.out.trans (hb.mono hb0.out.size))
  have HX1 := Aside0.mk (blk_below HX.out hb)
  have d0 := (blk_cell HX1.out 0).trans (rfl : _ = some (Value.int .i64 a))
  have d1 := (blk_cell HX1.out 1).trans (rfl : _ = some (Value.int .i64 b))
  clear hb hM' HX hb0
  go_wp2_with fail
  refine (hE'.out _).mono ?_
  rintro e w2 ⟨rfl, hb⟩
  have hb2 := Aside0.mk (hb1.out.trans (hb.mono hb1.out.size))
  have HX2 := Aside0.mk (blk_below HX1.out hb)
  have H2 := Aside0.mk (H.out.below hb2.out)
  clear d0 d1 hb hE' hb1 HX1
  clear w1 W
  have d0 := (blk_cell HX2.out 0).trans (rfl : _ = some (Value.int .i64 a))
  have d1 := (blk_cell HX2.out 1).trans (rfl : _ = some (Value.int .i64 b))
  have hC := Lib.hid (at_core l P base v a lo w2 H2 hS hlen)
  go_wp2_with fail
  refine hC.out.mono ?_
  rintro e w3 ⟨⟨i, rfl, hi, hb⟩⟩
  have hi' := Aside0.mk hi
  have hile := hi.le
  have hb3 := Aside0.mk (hb2.out.trans (hb.mono hb2.out.size))
  have HX3 := Aside0.mk (blk_below HX2.out hb)
  clear hC d0 d1 hi hb hb2 HX2 H2
  clear w2
  go_wp2_with fail
  go_loopw [6] (fun y wr => ∃ (k : Nat) (x0 x1 : Int), i ≤ k ∧ k ≤ l.length ∧ y = .int .i64 k ∧ 0 ≤ x0 ∧ x0 < x1 ∧ x1 ≤ 4096 ∧ Aside0 (addG ⟨x0, x1⟩ (l.drop k) = addG ⟨a, b⟩ (l.drop i)) ∧ Aside0 (wr.heap[X]? = some (.cells #[.int .i64 x0, .int .i64 x1] 27 (0, 0))) ∧ Aside0 (Below w.heap.size w wr)) (fun y _ => l.length - (intOf y).toNat)
  case atStart => exact ⟨i, a, b, Nat.le_refl _, hile, rfl, ha, hab, hb4, ⟨rfl⟩, HX3, hb3⟩
  case round =>
    clear HX3 hb3 ha hab hb4
    obtain ⟨k, x0, x1, hik, hk, rfl, hx0, hx01, hx4, HA, HX, HB⟩ := hrel
    have H2 := Aside0.mk (H.out.below HB.out)
    obtain ⟨A, c, rfl⟩ := H2.out.slice
    have hP := H2.out.head0
    have d0 := (blk_cell HX.out 0).trans (rfl : _ = some (Value.int .i64 x0))
    have d1 := (blk_cell HX.out 1).trans (rfl : _ = some (Value.int .i64 x1))
    have f0 := blk_frozen HX.out 0
    have f1 := blk_frozen HX.out 1
    by_cases hlt : k < l.length
    · have yk : decide ((k : Int) < (l.length : Int)) = true := decide_eq_true (by omega)
      have i0 : decide ((0 : Int) ≤ (k : Int)) = true := decide_eq_true (by omega)
      obtain ⟨g, rfl, c0, c1⟩ := H2.out.elem k hlt
      have hdr := drop_rd l k hlt
      have bb := hS.out.each k hlt
      have hE := HA.out
      rw [hdr, addG] at hE
      obtain ⟨y, hyy⟩ : ∃ y, rd_T27 l (k : Int) = y := ⟨_, rfl⟩
      rw [hyy] at c0 c1 hdr bb hE
      obtain ⟨y0, y1⟩ := y
      replace hyy := Lib.hid hyy
      dsimp only at c0 c1 bb hE
      by_cases hy : y0 ≤ x1
      · have zy : decide (y0 ≤ x1) = true := decide_eq_true hy
        rw [if_pos hy] at hE
        have hE' := Lib.hid hE
        clear hE hdr HA
        go_wp2
        go_quiet (fail)
        by_cases hm : x0 ≤ y0
        · by_cases hn : y1 ≤ x1
          · go_wp2
            go_region
            generalize hwd : (wr.drewN (nq + 1)).setCell ⟨X, 0, none⟩ (.int .i64 x0) = wd
            have HXd : wd.heap[X]? = some (.cells #[.int .i64 x0, .int .i64 x1] 27 (0, 0)) := by rw [← hwd]; exact blk_set (blk_drewN HX.out _) 0 _
            have HBd := Aside0.mk (show Below w.heap.size w wd by rw [← hwd]; exact (HB.out.trans (drawn_any ⟨⟨nq + 1, rfl⟩⟩)).setCell (p := ⟨X, 0, none⟩) (show w.heap.size ≤ X by have := hX'.out; omega) _)
            clear hwd hP d0 d1 f0 f1 c0 c1 HX HB H2
            have H3 := Aside0.mk (H.out.below HBd.out)
            have hP := H3.out.head0
            obtain ⟨g2, eg, c0, c1⟩ := H3.out.elem k hlt
            cases eg
            rw [hyy.out] at c0 c1
            dsimp only at c0 c1
            have d1 := (blk_cell HXd 1).trans (rfl : _ = some (Value.int .i64 x1))
            have f1 := blk_frozen HXd 1
            replace HXd := Aside0.mk HXd
            go_wp2
            go_region
            generalize hwe : (wd.setCell ⟨X, 1, none⟩ (.int .i64 x1)).drew = we
            have HXe := Aside0.mk (show we.heap[X]? = some (.cells #[.int .i64 x0, .int .i64 x1] 27 (0, 0)) by rw [← hwe]; exact blk_drew (blk_set HXd.out 1 _))
            have HBe := Aside0.mk (show Below w.heap.size w we by rw [← hwe]; exact (HBd.out.setCell (p := ⟨X, 1, none⟩) (show w.heap.size ≤ X by have := hX'.out; omega) _).trans (drawn_any ⟨⟨1, rfl⟩⟩))
            clear hwe hP d1 f1 c0 c1 HXd HBd H3
            have hA := Aside0.mk (show addG ⟨x0, x1⟩ (l.drop (k + 1)) = addG ⟨a, b⟩ (l.drop i) by rw [← hE'.out]; congr 2 <;> omega)
            go_wp2
            go_roundw
            case rel => exact ⟨k + 1, x0, x1, by omega, by omega, by go_num, by omega, by omega, by omega, hA, HXe, HBe⟩
            case measure => simp [intOf]; omega
          · go_wp2
            go_region
            generalize hwd : (wr.drewN (nq + 1)).setCell ⟨X, 0, none⟩ (.int .i64 x0) = wd
            have HXd : wd.heap[X]? = some (.cells #[.int .i64 x0, .int .i64 x1] 27 (0, 0)) := by rw [← hwd]; exact blk_set (blk_drewN HX.out _) 0 _
            have HBd := Aside0.mk (show Below w.heap.size w wd by rw [← hwd]; exact (HB.out.trans (drawn_any ⟨⟨nq + 1, rfl⟩⟩)).setCell (p := ⟨X, 0, none⟩) (show w.heap.size ≤ X by have := hX'.out; omega) _)
            clear hwd hP d0 d1 f0 f1 c0 c1 HX HB H2
            have H3 := Aside0.mk (H.out.below HBd.out)
            have hP := H3.out.head0
            obtain ⟨g2, eg, c0, c1⟩ := H3.out.elem k hlt
            cases eg
            rw [hyy.out] at c0 c1
            dsimp only at c0 c1
            have d1 := (blk_cell HXd 1).trans (rfl : _ = some (Value.int .i64 x1))
            have f1 := blk_frozen HXd 1
            replace HXd := Aside0.mk HXd
            go_wp2
            go_region
            generalize hwe : (wd.setCell ⟨X, 1, none⟩ (.int .i64 y1)).drew = we
            have HXe := Aside0.mk (show we.heap[X]? = some (.cells #[.int .i64 x0, .int .i64 y1] 27 (0, 0)) by rw [← hwe]; exact blk_drew (blk_set HXd.out 1 _))
            have HBe := Aside0.mk (show Below w.heap.size w we by rw [← hwe]; exact (HBd.out.setCell (p := ⟨X, 1, none⟩) (show w.heap.size ≤ X by have := hX'.out; omega) _).trans (drawn_any ⟨⟨1, rfl⟩⟩))
            clear hwe hP d1 f1 c0 c1 HXd HBd H3
            have hA := Aside0.mk (show addG ⟨x0, y1⟩ (l.drop (k + 1)) = addG ⟨a, b⟩ (l.drop i) by rw [← hE'.out]; congr 2 <;> omega)
            go_wp2
            go_roundw
            case rel => exact ⟨k + 1, x0, y1, by omega, by omega, by go_num, by omega, by omega, by omega, hA, HXe, HBe⟩
            case measure => simp [intOf]; omega
        · by_cases hn : y1 ≤ x1
          · go_wp2
            go_region
            generalize hwd : (wr.drewN (nq + 1)).setCell ⟨X, 0, none⟩ (.int .i64 y0) = wd
            have HXd : wd.heap[X]? = some (.cells #[.int .i64 y0, .int .i64 x1] 27 (0, 0)) := by rw [← hwd]; exact blk_set (blk_drewN HX.out _) 0 _
            have HBd := Aside0.mk (show Below w.heap.size w wd by rw [← hwd]; exact (HB.out.trans (drawn_any ⟨⟨nq + 1, rfl⟩⟩)).setCell (p := ⟨X, 0, none⟩) (show w.heap.size ≤ X by have := hX'.out; omega) _)
            clear hwd hP d0 d1 f0 f1 c0 c1 HX HB H2
            have H3 := Aside0.mk (H.out.below HBd.out)
            have hP := H3.out.head0
            obtain ⟨g2, eg, c0, c1⟩ := H3.out.elem k hlt
            cases eg
            rw [hyy.out] at c0 c1
            dsimp only at c0 c1
            have d1 := (blk_cell HXd 1).trans (rfl : _ = some (Value.int .i64 x1))
            have f1 := blk_frozen HXd 1
            replace HXd := Aside0.mk HXd
            go_wp2
            go_region
            generalize hwe : (wd.setCell ⟨X, 1, none⟩ (.int .i64 x1)).drew = we
            have HXe := Aside0.mk (show we.heap[X]? = some (.cells #[.int .i64 y0, .int .i64 x1] 27 (0, 0)) by rw [← hwe]; exact blk_drew (blk_set HXd.out 1 _))
            have HBe := Aside0.mk (show Below w.heap.size w we by rw [← hwe]; exact (HBd.out.setCell (p := ⟨X, 1, none⟩) (show w.heap.size ≤ X by have := hX'.out; omega) _).trans (drawn_any ⟨⟨1, rfl⟩⟩))
            clear hwe hP d1 f1 c0 c1 HXd HBd H3
            have hA := Aside0.mk (show addG ⟨y0, x1⟩ (l.drop (k + 1)) = addG ⟨a, b⟩ (l.drop i) by rw [← hE'.out]; congr 2 <;> omega)
            go_wp2
            go_roundw
            case rel => exact ⟨k + 1, y0, x1, by omega, by omega, by go_num, by omega, by omega, by omega, hA, HXe, HBe⟩
            case measure => simp [intOf]; omega
          · go_wp2
            go_region
            generalize hwd : (wr.drewN (nq + 1)).setCell ⟨X, 0, none⟩ (.int .i64 y0) = wd
            have HXd : wd.heap[X]? = some (.cells #[.int .i64 y0, .int .i64 x1] 27 (0, 0)) := by rw [← hwd]; exact blk_set (blk_drewN HX.out _) 0 _
            have HBd := Aside0.mk (show Below w.heap.size w wd by rw [← hwd]; exact (HB.out.trans (drawn_any ⟨⟨nq + 1, rfl⟩⟩)).setCell (p := ⟨X, 0, none⟩) (show w.heap.size ≤ X by have := hX'.out; omega) _)
            clear hwd hP d0 d1 f0 f1 c0 c1 HX HB H2
            have H3 := Aside0.mk (H.out.below HBd.out)
            have hP := H3.out.head0
            obtain ⟨g2, eg, c0, c1⟩ := H3.out.elem k hlt
            cases eg
            rw [hyy.out] at c0 c1
            dsimp only at c0 c1
            have d1 := (blk_cell HXd 1).trans (rfl : _ = some (Value.int .i64 x1))
            have f1 := blk_frozen HXd 1
            replace HXd := Aside0.mk HXd
            go_wp2
            go_region
            generalize hwe : (wd.setCell ⟨X, 1, none⟩ (.int .i64 y1)).drew = we
            have HXe := Aside0.mk (show we.heap[X]? = some (.cells #[.int .i64 y0, .int .i64 y1] 27 (0, 0)) by rw [← hwe]; exact blk_drew (blk_set HXd.out 1 _))
            have HBe := Aside0.mk (show Below w.heap.size w we by rw [← hwe]; exact (HBd.out.setCell (p := ⟨X, 1, none⟩) (show w.heap.size ≤ X by have := hX'.out; omega) _).trans (drawn_any ⟨⟨1, rfl⟩⟩))
            clear hwe hP d1 f1 c0 c1 HXd HBd H3
            have hA := Aside0.mk (show addG ⟨y0, y1⟩ (l.drop (k + 1)) = addG ⟨a, b⟩ (l.drop i) by rw [← hE'.out]; congr 2 <;> omega)
            go_wp2
            go_roundw
            case rel => exact ⟨k + 1, y0, y1, by omega, by omega, by go_num, by omega, by omega, by omega, hA, HXe, HBe⟩
            case measure => simp [intOf]; omega
      · have zy : decide (y0 ≤ x1) = false := decide_eq_false hy
        rw [if_neg hy] at hE
        have hAL : addL l ⟨a, b⟩ i = l.take i ++ [⟨x0, x1⟩].filter neB ++ l.drop k := by unfold addL; rw [← hE, hdr]
        clear hE hdr HA
        have hAL' := Lib.hid hAL
        have hput := Lib.hid fun (W : World) (A3 : Option Addr) (hb : Below w.heap.size w W) (hr : Kd.C k27 W A3 1 [⟨x0, x1⟩]) => (put_core l P base _ i k A3 1 [⟨x0, x1⟩] W ⟨H.out.below hb⟩ ⟨hr⟩ hile hk hlen (by simp) (Lib.hid (by have := hbase.out; have := hb.size; omega))).mono fun e w5 hh => (put_after hb hh)
        clear hAL
        go_wp2
        go_quiet (fail)
        go_wp2_with fail
        refine (hput.out _ _ ?hb ?hr).mono ?_
        case hb => first | exact (HB.out.alloc HB.out.size _).trans (drawn_any ⟨⟨_, rfl⟩⟩) | exact (HB.out.trans (drawn_any ⟨⟨_, rfl⟩⟩)).alloc (by have := HB.out.size; exact this) _
        case hr => first | exact Kd.C_drewN (C_lit27 wr ⟨x0, x1⟩) _ | exact C_lit27 _ ⟨x0, x1⟩
        rintro e w5 ⟨rfl, ⟨u, hu1, hu2⟩⟩
        have hfin : Aside0 (∃ i u, At l a i ∧ SetAt (addL l ⟨a, b⟩ i) P base u w5 ∧ Ch (fun k => k = P) w w5) := ⟨⟨i, u, hi'.out, by rw [hAL'.out]; exact hu1, hu2⟩⟩
        clear hu1 hu2 hput
        go_wp2
        go_ret
        exact ⟨rfl, hfin⟩
    · obtain rfl : k = l.length := by omega
      have hAL : addL l ⟨a, b⟩ i = l.take i ++ [⟨x0, x1⟩].filter neB ++ l.drop l.length := by
        have hE := HA.out
        rw [List.drop_length] at hE ⊢
        unfold addL
        rw [← hE]
        rfl
      clear HA hlt
      have hAL' := Lib.hid hAL
      have hput := Lib.hid fun (W : World) (A3 : Option Addr) (hb : Below w.heap.size w W) (hr : Kd.C k27 W A3 1 [⟨x0, x1⟩]) => (put_core l P base _ i l.length A3 1 [⟨x0, x1⟩] W ⟨H.out.below hb⟩ ⟨hr⟩ hile hk hlen (by simp) (Lib.hid (by have := hbase.out; have := hb.size; omega))).mono fun e w5 hh => (put_after hb hh)
      clear hAL
      go_wp2
      go_quiet (fail)
      go_wp2_with fail
      refine (hput.out _ _ ?hb ?hr).mono ?_
      case hb => first | exact (HB.out.alloc HB.out.size _).trans (drawn_any ⟨⟨_, rfl⟩⟩) | exact (HB.out.trans (drawn_any ⟨⟨_, rfl⟩⟩)).alloc (by have := HB.out.size; exact this) _
      case hr => first | exact Kd.C_drewN (C_lit27 wr ⟨x0, x1⟩) _ | exact C_lit27 _ ⟨x0, x1⟩
      rintro e w5 ⟨rfl, ⟨u, hu1, hu2⟩⟩
      have hfin : Aside0 (∃ i u, At l a i ∧ SetAt (addL l ⟨a, b⟩ i) P base u w5 ∧ Ch (fun k => k = P) w w5) := ⟨⟨i, u, hi'.out, by rw [hAL'.out]; exact hu1, hu2⟩⟩
      clear hu1 hu2 hput
      go_wp2
      go_ret
      exact ⟨rfl, hfin⟩
end Go.Proofs.Ytaandjafmmpbkaa.PQ
