/- A record is noted, walked. -/
import Derived.Test.YtkamgpjpnjikgaaDel2
import Derived.Deep.RegionLaw
namespace Go.Proofs.Ytkamgpjpnjikgaa.PQ
open Go.RowKit Go.Proofs.YtkamgpjpnjikgaaW.PrintWords Go.Proofs.YtkamgpjpnjikgaaW.PrintLast Go.Proofs.YtkamgpjpnjikgaaW.PrintMore
set_option linter.unusedVariables false
set_option linter.unusedSimpArgs false
def codeL (r : S27) : Int := if r.f0 = 1 ∨ r.f0 = 2 then 0 else 110
def outL (L : List S27) (a : Int) : List S27 := L.filter fun x => decide (x.f1 ≠ a)
def noteL (L : List S27) (r : S27) : List S27 := if r.f0 = 1 ∨ r.f0 = 2 then outL L r.f1 ++ [r] else L
theorem outL_map (L : List S27) (a : Int) : (outL L a).map (·.f1) = (L.map (·.f1)).filter (· ≠ a) := by
  unfold outL
  rw [List.filter_map]
  rfl
theorem outL_none {L : List S27} {a : Int} (h : hasL L a = false) : outL L a = L := by
  unfold outL
  rw [List.filter_eq_self]
  intro x hx
  unfold hasL at h
  have := List.any_eq_false.1 h x hx
  simpa using this
theorem outL_len {L : List S27} {a : Int} (hn : (L.map (·.f1)).Nodup) (h : hasL L a = true) : (outL L a).length + 1 = L.length := by
  induction L with
  | nil => simp [hasL] at h
  | cons x L ih =>
    rw [List.map_cons, List.nodup_cons] at hn
    by_cases e : x.f1 = a
    · have h2 : hasL L a = false := by
        unfold hasL
        rw [List.any_eq_false]
        intro y hy
        simp only [decide_eq_true_eq]
        intro e2
        exact hn.1 (by rw [e, ← e2]; exact List.mem_map_of_mem hy)
      have h3 : outL (x :: L) a = outL L a := by unfold outL; simp [e]
      rw [h3, outL_none h2, List.length_cons]
    · have h2 : hasL L a = true := by
        unfold hasL at h ⊢
        rw [List.any_cons] at h
        simpa [e] using h
      have h3 : outL (x :: L) a = x :: outL L a := by unfold outL; simp [e]
      rw [h3, List.length_cons, List.length_cons, ih hn.2 h2]
theorem mapL_note (L : List S27) (r : S27) : updZ (mapL L) r.f1 (some (encR r)) = mapL (outL L r.f1 ++ [r]) := by
  funext x
  unfold updZ mapL outL
  rw [List.find?_append]
  by_cases e : x = r.f1
  · subst e
    rw [if_pos rfl]
    have : (L.filter fun x => decide (x.f1 ≠ r.f1)).find? (fun y => decide (y.f1 = r.f1)) = none := by
      rw [List.find?_eq_none]
      intro y hy
      have := (List.mem_filter.1 hy).2
      simpa using this
    rw [this]
    simp
  · rw [if_neg e]
    have e2 : ∀ L : List S27, (L.filter fun x => decide (x.f1 ≠ r.f1)).find? (fun y => decide (y.f1 = x)) = L.find? (fun y => decide (y.f1 = x)) := by
      intro L
      induction L with
      | nil => rfl
      | cons y L ih =>
        by_cases h1 : y.f1 = r.f1
        · have h2 : ¬ y.f1 = x := fun h => e (h.symm.trans h1)
          rw [List.filter_cons_of_neg (by simpa using h1), ih, List.find?_cons_of_neg (by simpa using h2)]
        · rw [List.filter_cons_of_pos (by simpa using h1)]
          by_cases h2 : y.f1 = x
          · rw [List.find?_cons_of_pos (by simpa using h2), List.find?_cons_of_pos (by simpa using h2)]
          · rw [List.find?_cons_of_neg (by simpa using h2), List.find?_cons_of_neg (by simpa using h2), ih]
    rw [e2]
    have h3 : [r].find? (fun y => decide (y.f1 = x)) = none := by
      rw [List.find?_cons_of_neg (by simpa using fun h => e h.symm)]
      rfl
    rw [h3, Option.or_none]
theorem nodup_note {L : List S27} {r : S27} (hn : (L.map (·.f1)).Nodup) : ((outL L r.f1 ++ [r]).map (·.f1)).Nodup := by
  rw [List.map_append, outL_map, List.nodup_append]
  refine ⟨hn.filter _, by simp, ?_⟩
  intro x hx y hy e
  have := (List.mem_filter.1 hx).2
  simp at hy
  subst hy
  subst e
  simp at this
theorem len_note {L : List S27} {r : S27} (hn : (L.map (·.f1)).Nodup) : (if (mapL L r.f1).isSome then L.length else L.length + 1) = (outL L r.f1 ++ [r]).length := by
  rw [mapL_has, List.length_append, List.length_singleton]
  cases h : hasL L r.f1
  · rw [outL_none h]
    rfl
  · rw [outL_len hn h]
    rfl
theorem R_form {α : Type} {d : Kd α} {e base : Nat} {ok : Nat → Prop} {w : World} {v : Value} {xs : List α} (h : d.R e w base ok v xs) (hx : 0 < xs.length) : ∃ g c, v = .slice (some ⟨g, 0, none⟩) xs.length c := by
  obtain ⟨_, inner, ho, _⟩ := h
  rcases ho.2 with ⟨h1, h2⟩ | ⟨g', cap, cur, h1, _⟩
  · omega
  · exact ⟨g', cap, h1⟩
theorem grown_set (W : World) (b i : Nat) (v : Value) : W.grownBy (W.setCell ⟨b, i, none⟩ v) (some b) :=
  ⟨rfl, rfl, rfl, by simp [World.setCell], fun k _ hk => Below.heap_setCell _ _ _ _ (fun e => hk (congrArg some e))⟩
/-- The pend, its order cut already. -/
structure Half (b0 : Nat) (L : List S27) (a : Int) (P M : Nat) (ov ov1 : Value) (D : DataW Value) (w W : World) : Prop where
  head : W.heap[P]? = some (.cells #[.map (some M), ov1] 48 (0, 0))
  row : Kd.R (Kd.int .i64) 3 W b0 (fun k => k ≠ P ∧ k ≠ M) ov1 ((L.map (·.f1)).filter (· ≠ a))
  map : MapZ Try.prog 3 (mapL L) L.length M D W
  ch : Ch (PB P M ov) w W
  own : ov1.ownBlock = ov.ownBlock
set_option maxHeartbeats 4000000 in
theorem note_calls (b0 : Nat) (L : List S27) (P M : Nat) (ov : Value) (D : DataW Value) (w : World) (r : S27) (hr : (Lit.int .i64 r.f1).wf = true) (hL : L.length ≤ 100000) (hb : b0 ≤ w.heap.size) (H : Aside0 (PAt b0 L P M ov D w)) :
    Calls Try.prog 6 #[.pointer (some ⟨P, 0, none⟩), .agg #[.int .i64 r.f0, .int .i64 r.f1, .int .i64 r.f2]] w fun e w' => e = .returned (.int .i64 (codeL r)) ∧ Aside0 (∃ ov' D', PAt b0 (noteL L r) P M ov' D' w' ∧ Ch (PB P M ov) w w' ∧ (ov'.ownBlock = ov.ownBlock ∨ ∃ b, ov'.ownBlock = some b ∧ w.heap.size ≤ b)) := by
  have B1 : Below w.heap.size w (w.alloc (.cells #[.int .i64 r.f0, .int .i64 r.f1, .int .i64 r.f2] 27)) := (Below.refl _ _).alloc (Nat.le_refl _) _
  have X1 := Aside0.mk (heap_alloc_new w (.cells #[.int .i64 r.f0, .int .i64 r.f1, .int .i64 r.f2] 27))
  have H1 := Aside0.mk (H.out.below B1)
  have hs1 : (w.alloc (.cells #[.int .i64 r.f0, .int .i64 r.f1, .int .i64 r.f2] 27)).heap.size = w.heap.size + 1 := by simp
  replace B1 := Aside0.mk B1
  replace hs1 := Lib.hid hs1
  obtain ⟨bb, hbb⟩ : ∃ b : Bool, Aside0 (b = decide (¬ (r.f0 = 1 ∨ r.f0 = 2))) := ⟨_, ⟨rfl⟩⟩
  have ne0 := Lib.hid H.out.ne
  have hPX := Lib.hid (Nat.ne_of_lt (H.out.lt P (.inl rfl)))
  go_enter Try.func6, Try.ntmps6
  go_upto_region 1 with (fail)
  generalize hW1 : w.alloc (.cells #[.int .i64 r.f0, .int .i64 r.f1, .int .i64 r.f2] 27) = W1 at *
  clear hW1
  have x0 : W1.cell? ⟨w.heap.size, 0, none⟩ = some (.int .i64 r.f0) := blk_cell X1.out 0
  have x1 : W1.cell? ⟨w.heap.size, 1, none⟩ = some (.int .i64 r.f1) := blk_cell X1.out 1
  have x2 : W1.cell? ⟨w.heap.size, 2, none⟩ = some (.int .i64 r.f2) := blk_cell X1.out 2
  go_cut [12] (fun b wx => b = .bool bb ∧ wx = W1)
  case first =>
    by_cases h1 : r.f0 = 1
    · have z1 : (r.f0 != 1) = false := by simp [h1]
      have hb1 : bb = false := hbb.out.trans (decide_eq_false (fun h => h (.inl h1)))
      subst hb1
      clear h1 hbb
      go_wp2
      go_meet
      exact ⟨rfl, rfl⟩
    · have z1 : (r.f0 != 1) = true := by simpa using h1
      by_cases h2 : r.f0 = 2
      · have z2 : (r.f0 != 2) = false := by simp [h2]
        have hb1 : bb = false := hbb.out.trans (decide_eq_false (fun h => h (.inr h2)))
        subst hb1
        clear h1 h2 hbb
        go_wp2
        go_meet
        exact ⟨rfl, rfl⟩
      · have z2 : (r.f0 != 2) = true := by simpa using h2
        have hb1 : bb = true := hbb.out.trans (decide_eq_true (fun h => h.elim h1 h2))
        subst hb1
        clear h1 h2 hbb
        go_wp2
        go_meet
        exact ⟨rfl, rfl⟩
  case rest =>
    obtain ⟨rfl, rfl⟩ := hcut
    cases bb with
    | true =>
      have hn : ¬ (r.f0 = 1 ∨ r.f0 = 2) := by simpa using hbb.out
      go_wp2
      go_ret
      refine ⟨by unfold codeL; rw [if_neg hn]; rfl, ⟨ov, D, ?_, Ch.of_below B1.out, .inl rfl⟩⟩
      unfold noteL
      rw [if_neg hn]
      exact H1.out
    | false =>
      have hy : Aside0 (r.f0 = 1 ∨ r.f0 = 2) := ⟨by have := hbb.out; rw [eq_comm, decide_eq_false_iff_not, Classical.not_not] at this; exact this⟩
      clear hbb
      have hc := Lib.hid (has_calls b0 L P M ov D wc r.f1 hr H1)
      go_wp2_with fail
      refine hc.out.mono ?_
      rintro e W2 ⟨rfl, hb2⟩
      have H2 := Aside0.mk (H1.out.below hb2)
      have C2 := Aside0.mk ((Ch.of_below (S := PB P M ov) B1.out).trans (Ch.of_below hb2))
      have X2 := Aside0.mk (blk_below X1.out hb2)
      clear hc x0 x1 x2 hb2 H1 X1 B1 hs1
      go_upto_if 16 with (fail)
      go_cut [] (fun wx => Aside0 (∃ ov1, Half b0 L r.f1 P M ov ov1 D w wx ∧ wx.heap[w.heap.size]? = some (.cells #[.int .i64 r.f0, .int .i64 r.f1, .int .i64 r.f2] 27 (0, 0))))
      case first =>
        cases hh : hasL L r.f1 with
        | false =>
          have hf : (L.map (·.f1)).filter (· ≠ r.f1) = L.map (·.f1) := by rw [← outL_map, outL_none hh]
          go_wp2
          go_meet
          exact ⟨⟨ov, ⟨H2.out.head, by rw [hf]; exact H2.out.row, H2.out.map, C2.out, rfl⟩, X2.out⟩⟩
        | true =>
          have hl0 : 0 < (L.map (·.f1)).length := by
            cases L with
            | nil => simp [hasL] at hh
            | cons x L => simp
          obtain ⟨g, c, rfl⟩ := R_form H2.out.row hl0
          have hgX : g ≠ w.heap.size := by have := H.out.lt g (.inr (.inr rfl)); omega
          have hgP := H.out.own g rfl
          have hdc := Lib.hid (delete_calls (L.map (·.f1)) g c w.heap.size r.f1 b0 (fun k => k ≠ P ∧ k ≠ M) W2 (by rw [List.length_map]; exact hL) hgX ⟨_, _, X2.out, rfl⟩ ⟨H2.out.row⟩)
          have d1 := H2.out.cells.2
          rw [List.length_map] at d1 hdc
          clear hl0
          go_wp2_with fail
          refine hdc.out.mono ?_
          rintro e W3 ⟨c', rfl, hR3, hg3⟩
          have hd3 := blk_grown H2.out.head hg3 (fun e => hgP.1 (Option.some.inj e).symm)
          have X3 := Aside0.mk (blk_grown X2.out hg3 (fun e => hgX (Option.some.inj e).symm))
          have d3 : W3.cell? ⟨P, 1, none⟩ = some (.slice (some ⟨g, 0, none⟩) (L.map (·.f1)).length c) := blk_cell hd3 1
          have f3 := blk_frozen hd3 1
          have HR3 := Aside0.mk hR3
          have HM3 := Aside0.mk (H2.out.map.kept hg3 (fun e => hgP.2 (Option.some.inj e).symm))
          have HC3 := Aside0.mk (C2.out.trans (Ch.of_grown hg3 (fun k e => .inr (.inr e))))
          have HD3 := Aside0.mk hd3
          clear hR3 hg3 hd3 hdc d1 H2 C2 X2
          generalize hF : (L.map (·.f1)).filter (· ≠ r.f1) = F at *
          replace hF := Lib.hid hF
          go_wp2
          go_meet
          have hgs := grown_set W3 P 1 (.slice (some ⟨g, 0, none⟩) F.length c')
          exact ⟨⟨.slice (some ⟨g, 0, none⟩) F.length c', ⟨blk_put HD3.out 1 _ rfl, by rw [hF.out]; exact Kd.R_grown HR3.out hgs (fun k hk e => hk.1 (Option.some.inj e)), HM3.out.kept hgs (fun e => ne0.out (Option.some.inj e).symm), HC3.out.trans (Ch.of_grown hgs (fun k e => .inl (Option.some.inj e).symm)), rfl⟩, blk_grown X3.out hgs (fun e => hPX.out (Option.some.inj e).symm)⟩⟩
      case rest =>
        obtain ⟨ov1, HH, hx⟩ := hcut.out
        clear hcut
        have hm1 : M < wc.heap.size := by
          obtain ⟨es, clock, hb, _⟩ := HH.map.own
          exact (Array.getElem?_eq_some_iff.1 hb).1
        have hwd := Lib.hid hm1
        have HMd : MapZ Try.prog 3 (mapL L) L.length M D wc.drew := HH.map.kept (row := none) ⟨rfl, rfl, rfl, Nat.le_refl _, fun _ _ _ => rfl⟩ (by simp)
        obtain ⟨W4, D4, hrun, HM4, ht4⟩ := HMd.store (t := 45) u3 u45 (by unfold maxLen; omega) r.f1 hr (encR r)
        unfold encR at hrun
        have d0 : wc.cell? ⟨P, 0, none⟩ = some (.map (some M)) := blk_cell HH.head 0
        have x0 : wc.cell? ⟨w.heap.size, 0, none⟩ = some (.int .i64 r.f0) := blk_cell hx 0
        have x1 : wc.cell? ⟨w.heap.size, 1, none⟩ = some (.int .i64 r.f1) := blk_cell hx 1
        have x2 : wc.cell? ⟨w.heap.size, 2, none⟩ = some (.int .i64 r.f2) := blk_cell hx 2
        replace HH := Aside0.mk HH
        replace hx := Aside0.mk hx
        replace HM4 := Aside0.mk HM4
        replace ht4 := Lib.hid ht4
        clear HMd hm1
        have hg4 : Aside0 (wc.grownBy W4 (some M)) := ⟨(World.grownBy.trans (⟨rfl, rfl, rfl, Nat.le_refl _, fun _ _ _ => rfl⟩ : wc.grownBy wc.drew (some M)) ht4.out.grown)⟩
        have hP4 := Aside0.mk (blk_grown HH.out.head hg4.out (fun e => ne0.out (Option.some.inj e)))
        have hMX : M ≠ w.heap.size := Nat.ne_of_lt (H.out.lt M (.inr (.inl rfl)))
        have hX4 := Aside0.mk (blk_grown hx.out hg4.out (fun e => hMX (Option.some.inj e).symm))
        have HR4 := Aside0.mk (Kd.R_grown HH.out.row hg4.out (fun k hk e => hk.2 (Option.some.inj e)))
        have HC4 := Aside0.mk (HH.out.ch.trans (Ch.of_grown hg4.out (fun k e => .inr (.inl (Option.some.inj e).symm))))
        have how := Lib.hid HH.out.own
        have hgP : ∀ k, ov1.ownBlock = some k → k ≠ P ∧ k ≠ M := HR4.out.1
        have hgX : ov1.ownBlock ≠ some w.heap.size := fun e => by
          rw [how.out] at e
          exact absurd (H.out.lt _ (.inr (.inr e))) (Nat.lt_irrefl _)
        replace hgP := Lib.hid hgP
        replace hgX := Lib.hid hgX
        have hsz : b0 ≤ W4.heap.size := Nat.le_trans hb HC4.out.size
        have hsP := Lib.hid (blk_lt hP4.out)
        have hsX := Lib.hid (blk_lt hX4.out)
        have hsM := Lib.hid (show M < W4.heap.size by obtain ⟨es, clock, hb, _⟩ := HM4.out.own; exact (Array.getElem?_eq_some_iff.1 hb).1)
        clear HH hx hg4 ht4 hMX
        go_wp2_with fail
        go_region
        clear hrun d0 x0 x1 x2
        have d1 : W4.cell? ⟨P, 1, none⟩ = some ov1 := blk_cell hP4.out 1
        have f1 := blk_frozen hP4.out 1
        have x1 : W4.cell? ⟨w.heap.size, 1, none⟩ = some (.int .i64 r.f1) := blk_cell hX4.out 1
        generalize hF : (L.map (·.f1)).filter (· ≠ r.f1) = F at *
        replace hF := Lib.hid hF
        go_wp2_with fail
        have hFl : F.length ≤ 100000 := by rw [← hF.out]; exact Nat.le_trans (List.length_filter_le _ _) (by rw [List.length_map]; exact hL)
        have hfr : Hid (∀ q, W4.heap.size ≤ q → q ≠ P ∧ q ≠ M) := Lib.hid (fun q hq => by have := hsP.out; have := hsM.out; constructor <;> omega)
        have hl8 : Hid ((F.length + 1) * 8 ≤ 140737488355328) := Lib.hid (by omega)
        have hRd := Aside0.mk (Kd.R_drew HR4.out)
        replace hP4 := Aside0.mk (blk_drew hP4.out)
        replace HM4 := Aside0.mk (HM4.out.kept (row := none) (⟨rfl, rfl, rfl, Nat.le_refl _, fun _ _ _ => rfl⟩ : W4.grownBy W4.drew none) (by simp))
        replace HC4 := Aside0.mk (HC4.out.trans (Ch.of_grown (row := none) (⟨rfl, rfl, rfl, Nat.le_refl _, fun _ _ _ => rfl⟩ : W4.grownBy W4.drew none) (fun k e => by cases e)))
        replace hsz : b0 ≤ W4.drew.heap.size := hsz
        replace hfr : Hid (∀ q, W4.drew.heap.size ≤ q → q ≠ P ∧ q ≠ M) := hfr
        have d2 : (W4.alloc (.cells #[.int .i64 r.f1] 3)).drew.cell? ⟨P, 1, none⟩ = some ov1 := blk_cell (blk_alloc hP4.out _) 1
        clear HR4 hX4 hsP hsX hsM H2 C2 X2
        go_region_law (first | (refine Kd.R_append_step (P := Try.prog) (w0 := W4.drew) (W := W4.drew) (Kd.int .i64) b0 (by rfl) (.tmp 37) (.tmp 40) 46 3 (.int .i64 0) 8 (by rfl) (by kernel_rfl) (by kernel_rfl) rfl (by decide) (by decide) ov1 F r.f1 [.int .i64 r.f1] (fun k => k ≠ P ∧ k ≠ M) (fun _ => False) (by rfl) (by rfl) rfl (fun _ hk => hk.elim) hfr.out hRd.out (Below.refl b0 W4.drew) hsz hl8.out ?_; intro v1 w1 ho hb9 hg hat; (obtain ⟨A1, c1, rfl⟩ := Kd.R_slice ho); have hd1 := blk_grown hP4.out hg (fun e => (hgP.out _ e.symm).1 rfl); have d1 : w1.cell? ⟨P, 1, none⟩ = some ov1 := blk_cell hd1 1; have f1 := blk_frozen hd1 1; replace hd1 := Aside0.mk hd1; rw [List.length_append, List.length_singleton] at ho hat; replace ho := Aside0.mk ho; replace hg := Aside0.mk hg; replace hat := Lib.hid hat; clear hb9))
        all_goals
          go_wp2
          go_ret
          have hgs := grown_set w1 P 1 (.slice A1 (F.length + 1) c1)
          refine ⟨by unfold codeL; rw [if_pos hy.out]; rfl, ⟨.slice A1 (F.length + 1) c1, D4, ?_, ?_, ?_⟩⟩
          · unfold noteL
            rw [if_pos hy.out]
            refine ⟨blk_put hd1.out 1 _ rfl, ?_, ?_, nodup_note H.out.nd, H.out.ne, H.out.lp, H.out.lm, ?_⟩
            · rw [List.map_append, outL_map, hF.out]
              exact Kd.R_grown ho.out hgs (fun k hk e => hk.1 (Option.some.inj e))
            · have := (HM4.out.kept hg.out (fun e => (hgP.out _ e.symm).2 rfl)).kept hgs (fun e => ne0.out (Option.some.inj e).symm)
              rw [mapL_note, len_note H.out.nd] at this
              exact this
            · intro x hx
              rcases List.mem_append.1 hx with h | h
              · exact H.out.wf x (List.mem_filter.1 h).1
              · rw [List.mem_singleton.1 h]; exact hr
          · exact (HC4.out.trans (Ch.of_grown hg.out (fun k e => .inr (.inr (by rw [← how.out]; exact e))))).trans (Ch.of_grown hgs (fun k e => .inl (Option.some.inj e).symm))
          · rcases hat.out with e | ⟨b, e, hb2⟩
            · exact .inl (e.trans how.out)
            · exact .inr ⟨b, e, Nat.le_trans HC4.out.size hb2⟩
end Go.Proofs.Ytkamgpjpnjikgaa.PQ
