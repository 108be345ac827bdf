/- A span taken out, walked. -/
import Derived.Test.YtaandjafmmpbkaaAdd
import Derived.Outline
import Derived.RegionTactic
import Derived.BigRegion
import Derived.Deep.RegionHeld3
import Derived.Deep.DeepCutAuto
namespace Go.Proofs.Ytaandjafmmpbkaa.PQ
open Go.RowKit Go.Proofs.YtaandjafmmpbkaaW.PrintWords Go.Proofs.YtaandjafmmpbkaaW.PrintLast Go.Proofs.YtaandjafmmpbkaaW.PrintMore
set_option linter.unusedVariables false
set_option linter.unusedSimpArgs false
/-- What is left of the spans that a span meets, piece by piece. -/
def remG (a b : Int) : List S27 → List S27 × List S27
  | [] => ([], [])
  | y :: l => if y.f0 < b then (⟨y.f0, min a y.f1⟩ :: ⟨max b y.f0, y.f1⟩ :: (remG a b l).1, (remG a b l).2) else ([], y :: l)
def remL (l : List S27) (a b : Int) (i : Nat) : List S27 := l.take i ++ ((remG a b (l.drop i)).1).filter neB ++ (remG a b (l.drop i)).2
theorem C_lit27b (w : World) (x y : S27) : Kd.C k27 (w.alloc (.cells #[.int .i64 x.f0, .int .i64 x.f1, .int .i64 y.f0, .int .i64 y.f1] 27)) (some ⟨w.heap.size, 0, none⟩) 2 [x, y] := by
  refine ⟨rfl, by decide, fun _ => ⟨_, rfl, fun j p hj => ?_⟩⟩
  have hc := fun i => blk_cell (heap_alloc_new w (.cells #[.int .i64 x.f0, .int .i64 x.f1, .int .i64 y.f0, .int .i64 y.f1] 27)) i
  have ea : ∀ m, (⟨w.heap.size, 0, none⟩ : Addr).add m = ⟨w.heap.size, m, none⟩ := fun m => by cases m <;> simp [Addr.add]
  have hs : k27.sz = 2 := rfl
  rcases j with _ | _ | j
  · obtain rfl : x = p := by simpa using hj
    refine ⟨[.int .i64 x.f0, .int .i64 x.f1], rfl, k27_mk _ x, fun i u hu => ?_⟩
    rw [ea, hc, hs]
    rcases i with _ | _ | i
    · simpa using hu
    · simpa using hu
    · simp at hu
  · obtain rfl : y = p := by simpa using hj
    refine ⟨[.int .i64 y.f0, .int .i64 y.f1], rfl, k27_mk _ y, fun i u hu => ?_⟩
    rw [ea, hc, hs]
    rcases i with _ | _ | i
    · simpa using hu
    · simpa using hu
    · simp at hu
  · simp at hj
set_option maxHeartbeats 2000000 in
set_option maxRecDepth 100000 in
theorem remove_no (P : Nat) (a b : Int) (w : World) (h : ¬ (0 ≤ a ∧ a ≤ b ∧ b ≤ 4096)) :
    Calls Try.prog 10 #[.pointer (some ⟨P, 0, none⟩), .agg #[.int .i64 a, .int .i64 b]] w fun e w' => e = .returned (.int .i64 1) ∧ Below w.heap.size w w' := by
  have hM := fun w => may_calls a b w
  rw [show mayB a b = false from decide_eq_false h] at hM
  have hM' := Lib.hid hM
  have hb0 := Aside0.mk ((Below.refl w.heap.size w).alloc (Nat.le_refl _) (.cells #[.int .i64 a, .int .i64 b] 27))
  clear hM h
  go_enter Try.func10, Try.ntmps10
  go_wp2_with fail
  generalize w.alloc (.cells #[.int .i64 a, .int .i64 b] 27) = W at *
  refine (hM'.out _).mono ?_
  rintro e w1 ⟨rfl, hb⟩
  have hb1 := Aside0.mk (hb0.out.trans (hb.mono hb0.out.size))
  clear hb hM'
  go_wp2
  go_ret
  exact ⟨rfl, hb1.out⟩
set_option maxHeartbeats 2000000 in
set_option maxRecDepth 100000 in
theorem remove_empty (P : Nat) (a : Int) (w : World) (h : 0 ≤ a ∧ a ≤ 4096) :
    Calls Try.prog 10 #[.pointer (some ⟨P, 0, none⟩), .agg #[.int .i64 a, .int .i64 a]] w fun e w' => e = .returned (.int .i64 0) ∧ Below w.heap.size w w' := by
  have hM := fun w => may_calls a a w
  have hE := fun w => empty_calls a a w
  rw [show mayB a a = true from decide_eq_true ⟨h.1, Int.le_refl _, h.2⟩] at hM
  rw [decide_eq_true (Int.le_refl a)] at hE
  have hM' := Lib.hid hM
  have hE' := Lib.hid hE
  have hb0 := Aside0.mk ((Below.refl w.heap.size w).alloc (Nat.le_refl _) (.cells #[.int .i64 a, .int .i64 a] 27))
  have HX := Aside0.mk (heap_alloc_new w (.cells #[.int .i64 a, .int .i64 a] 27))
  clear hM h hE
  go_enter Try.func10, Try.ntmps10
  go_wp2_with fail
  generalize w.alloc (.cells #[.int .i64 a, .int .i64 a] 27) = W at *
  refine (hM'.out _).mono ?_
  rintro e w1 ⟨rfl, hb⟩
  have hb1 := Aside0.mk (hb0.out.trans (hb.mono hb0.out.size))
  have HX1 := Aside0.mk (blk_below HX.out hb)
  have d0 := (blk_cell HX1.out 0).trans (rfl : _ = some (Value.int .i64 a))
  have d1 := (blk_cell HX1.out 1).trans (rfl : _ = some (Value.int .i64 a))
  clear hb hM' HX hb0
  go_wp2_with fail
  refine (hE'.out _).mono ?_
  rintro e w2 ⟨rfl, hb⟩
  have hb2 := Aside0.mk (hb1.out.trans (hb.mono hb1.out.size))
  clear hb hE'
  go_wp2
  go_ret
  exact ⟨rfl, hb2.out⟩
set_option maxHeartbeats 8000000 in
set_option maxRecDepth 100000 in
theorem remove_core (l : List S27) (P base : Nat) (v : Value) (a b : Int) (lo : Int) (w : World) (H : Aside0 (SetAt l P base v w)) (hS : Aside0 (Sp lo l)) (hlo : -1 ≤ lo) (hlen : l.length ≤ 10000) (ha : 0 ≤ a) (hab : a < b) (hb4 : b ≤ 4096) (hbase : Hid (base ≤ w.heap.size)) :
    Calls Try.prog 10 #[.pointer (some ⟨P, 0, none⟩), .agg #[.int .i64 a, .int .i64 b]] w fun e w' => e = .returned (.int .i64 0) ∧ Aside0 (∃ i u, At l (a + 1) i ∧ SetAt (remL l a b i) P base u w' ∧ Ch (fun k => k = P) w w') := by
  have hM := fun w => may_calls a b w
  have hE := fun w => empty_calls a b w
  rw [show mayB a b = true from decide_eq_true ⟨ha, by omega, hb4⟩] at hM
  rw [decide_eq_false (show ¬ b ≤ a by omega)] at hE
  have hM' := Lib.hid hM
  have hE' := Lib.hid hE
  have hb0 := Aside0.mk ((Below.refl w.heap.size w).alloc (Nat.le_refl _) (.cells #[.int .i64 a, .int .i64 b] 27))
  have HX := Aside0.mk (heap_alloc_new w (.cells #[.int .i64 a, .int .i64 b] 27))
  clear hM hE
  go_enter Try.func10, Try.ntmps10
  go_wp2_with fail
  generalize hW : w.alloc (.cells #[.int .i64 a, .int .i64 b] 27) = W at *
  clear hW
  obtain ⟨X, hX⟩ : ∃ X, X = w.heap.size := ⟨_, rfl⟩
  rw [← hX] at HX ⊢
  have hX' := Lib.hid hX
  clear hX
  refine (hM'.out _).mono ?_
  rintro e w1 ⟨rfl, hb⟩
  have hb1 := Aside0.mk (hb0.out.trans (hb.mono hb0.out.size))
  have HX1 := Aside0.mk (blk_below HX.out hb)
  have d0 := (blk_cell HX1.out 0).trans (rfl : _ = some (Value.int .i64 a))
  have d1 := (blk_cell HX1.out 1).trans (rfl : _ = some (Value.int .i64 b))
  clear hb hM' HX hb0
  go_wp2_with fail
  refine (hE'.out _).mono ?_
  rintro e w2 ⟨rfl, hb⟩
  have hb2 := Aside0.mk (hb1.out.trans (hb.mono hb1.out.size))
  have HX2 := Aside0.mk (blk_below HX1.out hb)
  have H2 := Aside0.mk (H.out.below hb2.out)
  clear d0 d1 hb hE' hb1 HX1
  clear w1 W
  have d0 := (blk_cell HX2.out 0).trans (rfl : _ = some (Value.int .i64 a))
  have d1 := (blk_cell HX2.out 1).trans (rfl : _ = some (Value.int .i64 b))
  have hC := Lib.hid (at_core l P base v (a + 1) lo w2 H2 hS hlen)
  go_wp2_with fail
  refine hC.out.mono ?_
  rintro e w3 ⟨⟨i, rfl, hi, hb⟩⟩
  have hi' := Aside0.mk hi
  have hile := hi.le
  have hb3 := Aside0.mk (hb2.out.trans (hb.mono hb2.out.size))
  have HX3 := Aside0.mk (blk_below HX2.out hb)
  clear hC d0 d1 hi hb hb2 HX2 H2
  clear w2
  go_wp2_with fail
  go_loopw [6, 7] (fun y x wr => ∃ (k : Nat) (L : List S27), i ≤ k ∧ k ≤ l.length ∧ y = .int .i64 k ∧ Aside0 (L.length ≤ 2 * k ∧ L ++ (remG a b (l.drop k)).1 = (remG a b (l.drop i)).1 ∧ (remG a b (l.drop k)).2 = (remG a b (l.drop i)).2) ∧ Aside0 (wr.heap[X]? = some (.cells #[.int .i64 a, .int .i64 b] 27 (0, 0))) ∧ Aside0 (Below w.heap.size w wr) ∧ Aside0 (Kd.R k27 27 wr w.heap.size (fun k => X < k) x L)) (fun y _ _ => l.length - (intOf y).toNat)
  case atStart => exact ⟨i, [], Nat.le_refl _, hile, rfl, ⟨by simp, rfl, rfl⟩, HX3, hb3, ⟨Kd.R_nil _ _ _ _ _⟩⟩
  case round =>
    clear HX3 hb3
    obtain ⟨k, L, hik, hk, rfl, HA, HX, HB, HO⟩ := hrel
    have H2 := Aside0.mk (H.out.below HB.out)
    obtain ⟨A, c, rfl⟩ := H2.out.slice
    have hP := H2.out.head0
    have d0 := (blk_cell HX.out 0).trans (rfl : _ = some (Value.int .i64 a))
    have d1 := (blk_cell HX.out 1).trans (rfl : _ = some (Value.int .i64 b))
    by_cases hlt : k < l.length
    · have yk : decide ((k : Int) < (l.length : Int)) = true := decide_eq_true (by omega)
      have i0 : decide ((0 : Int) ≤ (k : Int)) = true := decide_eq_true (by omega)
      obtain ⟨g, rfl, c0, c1⟩ := H2.out.elem k hlt
      have hdr := drop_rd l k hlt
      have bb := hS.out.each k hlt
      have hE := HA.out
      obtain ⟨y, hyy⟩ : ∃ y, rd_T27 l (k : Int) = y := ⟨_, rfl⟩
      rw [hyy] at c0 c1 hdr bb
      rw [hdr, remG] at hE
      obtain ⟨y0, y1⟩ := y
      replace hyy := Lib.hid hyy
      dsimp only at c0 c1 bb hE
      by_cases hy : y0 < b
      · have zy : decide (y0 < b) = true := decide_eq_true hy
        rw [if_pos hy] at hE
        have hE' := Lib.hid hE
        clear hE hdr HA
        go_wp2
        go_quiet (fail)
        have hgl : g < X := by rw [hX'.out]; obtain ⟨g', eg, c0', _⟩ := H.out.elem k hlt; cases eg; exact World.block_lt_of_cell? _ _ c0'
        have hPl : P < X := by rw [hX'.out]; exact H.out.lt
        have hXl := blk_lt HX.out
        have own : ∀ q, q ≤ X → u7.ownBlock ≠ some q := fun q hq e => by have := HO.out.1 q e; omega
        go_wp2
        go_region_held3 (fun w' => w'.cell? ⟨P, 0, none⟩ = some (.slice (some ⟨g, 0, none⟩) l.length c) ∧ w'.cell? ⟨g, k * 2, none⟩ = some (.int .i64 y0) ∧ w'.cell? ⟨g, k * 2 + 1, none⟩ = some (.int .i64 y1) ∧ w'.cell? ⟨X, 0, none⟩ = some (.int .i64 a) ∧ w'.cell? ⟨X, 1, none⟩ = some (.int .i64 b)) (first | go_keep | (go_split_ands; refine ⟨?_, ?_, ?_, ?_, ?_⟩ <;> (rw [hg.cell_far _ (by simp [World.alloc, World.drew]; omega) (fun e => own _ (by dsimp only; omega) e.symm)]; assumption))) ((first | (refine Kd.R_append_rows_step (P := Try.prog) (w0 := w) k27 w.heap.size (by rfl) (.tmp 41) (.tmp 82) 33 27 (.agg #[.int .i64 0, .int .i64 0]) 16 (by rfl) Try.underlying33 info27 rfl (by decide) (by decide) u7 L [⟨y0, if y1 < a then y1 else a⟩, ⟨if b < y0 then y0 else b, y1⟩] (some ⟨wr.heap.size, 0, none⟩) 2 2 (fun k => X < k) (fun _ => False) (by rfl) (by rfl) (Kd.R_below HO.out ((drawn_any ⟨⟨_, rfl⟩⟩).alloc (Nat.le_refl _) _)) (C_lit27b _ ⟨y0, if y1 < a then y1 else a⟩ ⟨if b < y0 then y0 else b, y1⟩) k27_KM (fun _ hk => hk.elim) (by intro q hq; simp [World.alloc] at hq; omega) ((HB.out.trans (drawn_any ⟨⟨_, rfl⟩⟩)).alloc HB.out.size _) (by have := HB.out.size; simp [World.alloc]; try omega) (by have := hE'.out.1; simp; omega) ?_; intro v1 w1 ho hb hg hat)))
        all_goals
          have HXn := Aside0.mk (show w1.heap[X]? = some (.cells #[.int .i64 a, .int .i64 b] 27 (0, 0)) from (hg.block X (by simp [World.alloc]; omega) (fun e => own X (Nat.le_refl _) e.symm)).trans (blk_below HX.out ((drawn_any (n := wr.heap.size) ⟨⟨_, rfl⟩⟩).alloc (Nat.le_refl _) _)))
          have HOn := Aside0.mk ho
          have HBn := Aside0.mk hb
          have eA : (if y1 < a then y1 else a) = min a y1 := by rw [Int.min_def]; split <;> split <;> omega
          have eB : (if b < y0 then y0 else b) = max b y0 := by rw [Int.max_def]; split <;> split <;> omega
          rw [eA, eB] at HOn
          have hA := Aside0.mk (show (L ++ [(⟨y0, min a y1⟩ : S27), ⟨max b y0, y1⟩]).length ≤ 2 * (k + 1) ∧ (L ++ [(⟨y0, min a y1⟩ : S27), ⟨max b y0, y1⟩]) ++ (remG a b (l.drop (k + 1))).1 = (remG a b (l.drop i)).1 ∧ (remG a b (l.drop (k + 1))).2 = (remG a b (l.drop i)).2 from ⟨by have := hE'.out.1; simp; omega, by rw [← hE'.out.2.1]; simp, hE'.out.2.2⟩)
          clear ho hb hg hat HO HB HX H2 hE' eA eB own hXl c0 c1 d0 d1 hP
          try go_wp2
          try go_roundw

          case rel => exact ⟨k + 1, _, by omega, by omega, by go_num, hA, HXn, HBn, HOn⟩
          case measure => simp [intOf]; omega
      · have zy : decide (y0 < b) = false := decide_eq_false hy
        rw [if_neg hy] at hE
        have hAL : remL l a b i = l.take i ++ L.filter neB ++ l.drop k := by
          have h1 := hE.2.1
          have h2 := hE.2.2
          dsimp only at h1 h2
          rw [List.append_nil] at h1
          unfold remL; rw [← h1, ← h2, hdr]
        have hLl := hE.1
        clear hE hdr HA
        have hAL' := Lib.hid hAL
        obtain ⟨AL, cL, eL⟩ := Kd.R_slice HO.out
        subst eL
        have hrL := Aside0.mk (Kd.R_reads' HO.out).2.2
        have hput := Lib.hid fun (W : World) (hb : Below w.heap.size w W) (hr : Kd.C k27 W AL L.length L) => (put_core l P base _ i k AL cL L W ⟨H.out.below hb⟩ ⟨hr⟩ hile hk hlen (by omega) (Lib.hid (by have := hbase.out; have := hb.size; omega))).mono fun e w5 hh => (put_after hb hh)
        clear hAL
        go_wp2
        go_quiet (fail)
        go_wp2_with fail
        refine (hput.out _ ?hb ?hr).mono ?_
        case hb => first | exact HB.out | exact (HB.out.trans (drawn_any ⟨⟨_, rfl⟩⟩))
        case hr => first | exact hrL.out | exact Kd.C_drewN hrL.out _
        rintro e w5 ⟨rfl, ⟨u, hu1, hu2⟩⟩
        have hfin : Aside0 (∃ i u, At l (a + 1) i ∧ SetAt (remL l a b i) P base u w5 ∧ Ch (fun k => k = P) w w5) := ⟨⟨i, u, hi'.out, by rw [hAL'.out]; exact hu1, hu2⟩⟩
        clear hu1 hu2 hput
        go_wp2
        go_ret
        exact ⟨rfl, hfin⟩
    · obtain rfl : k = l.length := by omega
      have hAL : remL l a b i = l.take i ++ L.filter neB ++ l.drop l.length := by
        have hE := HA.out
        rw [List.drop_length] at hE ⊢
        have h1 := hE.2.1
        have h2 := hE.2.2
        dsimp only [remG] at h1 h2
        rw [List.append_nil] at h1
        unfold remL; rw [← h1, ← h2]
      have hLl := HA.out.1
      clear HA hlt
      have hAL' := Lib.hid hAL
      obtain ⟨AL, cL, eL⟩ := Kd.R_slice HO.out
      subst eL
      have hrL := Aside0.mk (Kd.R_reads' HO.out).2.2
      have hput := Lib.hid fun (W : World) (hb : Below w.heap.size w W) (hr : Kd.C k27 W AL L.length L) => (put_core l P base _ i l.length AL cL L W ⟨H.out.below hb⟩ ⟨hr⟩ hile hk hlen (by omega) (Lib.hid (by have := hbase.out; have := hb.size; omega))).mono fun e w5 hh => (put_after hb hh)
      clear hAL
      go_wp2
      go_quiet (fail)
      go_wp2_with fail
      refine (hput.out _ ?hb ?hr).mono ?_
      case hb => first | exact HB.out | exact (HB.out.trans (drawn_any ⟨⟨_, rfl⟩⟩))
      case hr => first | exact hrL.out | exact Kd.C_drewN hrL.out _
      rintro e w5 ⟨rfl, ⟨u, hu1, hu2⟩⟩
      have hfin : Aside0 (∃ i u, At l (a + 1) i ∧ SetAt (remL l a b i) P base u w5 ∧ Ch (fun k => k = P) w w5) := ⟨⟨i, u, hi'.out, by rw [hAL'.out]; exact hu1, hu2⟩⟩
      clear hu1 hu2 hput
      go_wp2
      go_ret
      exact ⟨rfl, hfin⟩
end Go.Proofs.Ytaandjafmmpbkaa.PQ
