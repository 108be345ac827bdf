/- A touch, walked. -/
import Derived.Test.YtihggmhmfocnpaaHeat
import Derived.Deep.DeepCutAuto
namespace Go.Proofs.Ytihggmhmfocnpaa.PQ
open Go.RowKit Go.Proofs.YtihggmhmfocnpaaW.PrintWords Go.Proofs.YtihggmhmfocnpaaW.PrintLast Go.Proofs.YtihggmhmfocnpaaW.PrintMore
set_option linter.unusedVariables false
set_option linter.unusedSimpArgs false
def hotC (cs : List Int) (i : Int) : Bool := decide (0 < cntC cs i ∧ 2 * sumC cs < cntC cs i * (cs.length : Int))
def touch1 (cs : List Int) (i : Nat) : List Int := if rd cs i < 255 then cs.set i (rd cs i + 1) else cs
def half (cs : List Int) : List Int := cs.map (· / 2)
def touchC (cs : List Int) (t : Int) (i : Nat) : List Int × Int := if t + 1 = 8 * (cs.length : Int) then (half (touch1 cs i), 0) else (touch1 cs i, t + 1)
theorem touch1_len (cs : List Int) (i : Nat) : (touch1 cs i).length = cs.length := by unfold touch1; split <;> simp
theorem half_len (cs : List Int) : (half cs).length = cs.length := by unfold half; simp
theorem OkC.touch1 {cs : List Int} {t : Int} (h : OkC cs t) (i : Nat) : ∀ x ∈ touch1 cs i, 0 ≤ x ∧ x ≤ 255 := by
  intro x hx
  unfold PQ.touch1 at hx
  split at hx
  · rename_i hlt
    obtain ⟨j, hj, rfl⟩ := List.mem_iff_getElem.1 hx
    rw [List.getElem_set]
    split
    · rename_i e
      subst e
      have hj' := hj
      rw [List.length_set] at hj'
      have := h.rd i hj'
      omega
    · exact h.bd _ (List.getElem_mem _)
  · exact h.bd x hx
theorem half_bd {cs : List Int} (h : ∀ x ∈ cs, 0 ≤ x ∧ x ≤ 255) : ∀ x ∈ half cs, 0 ≤ x ∧ x ≤ 255 := by
  intro x hx
  unfold half at hx
  obtain ⟨y, hy, rfl⟩ := List.mem_map.1 hx
  have := h y hy
  show 0 ≤ y / 2 ∧ y / 2 ≤ 255
  omega
theorem OkC.touch {cs : List Int} {t : Int} (h : OkC cs t) (i : Nat) : OkC (touchC cs t i).1 (touchC cs t i).2 := by
  have hb := h.touch1 i
  have ht := h.tm
  have hl := h.len
  unfold touchC
  split
  · refine ⟨half_bd hb, by rw [half_len, touch1_len]; exact hl, ?_⟩
    rw [half_len, touch1_len]; omega
  · refine ⟨hb, by rw [touch1_len]; exact hl, ?_⟩
    rw [touch1_len]; show 0 ≤ t + 1 ∧ t + 1 < _; omega
section
variable (cs : List Int) (t : Int) (P B c : Nat) (w : World)
set_option maxHeartbeats 4000000 in
set_option maxRecDepth 100000 in
theorem hot_calls (i : Int) (H : Aside0 (HAt cs t P B c w)) (hk : Aside0 (OkC cs t)) : Calls Try.prog 12 #[.pointer (some ⟨P, 0, none⟩), .int .i64 i] w fun e w' => e = .returned (.bool (hotC cs i)) ∧ Below w.heap.size w w' := by
  have hc := Lib.hid (count_calls cs t P B c w i H hk)
  have q17 : ∀ n, Calls Try.prog 17 #[.pointer (some ⟨P, 0, none⟩)] (w.drewN n) fun e w'' => e = .returned (.int .i64 (sumC cs)) ∧ ∃ m, w'' = w.drewN m := fun n =>
    Calls.quiet_of ((total_calls cs t P B c (w.drewN n) ⟨⟨H.out.head, Kd.R_drewN H.out.row n⟩⟩ hk).mono fun e w' ⟨h1, h2⟩ => ⟨h1, 0, h2⟩)
  obtain ⟨d0, d1⟩ := H.out.cells
  have hb := cntC_bd hk.out i
  have hs := hk.out.sum
  have hl := hk.out.len
  have hw1 : wrap64 (cntC cs i * (cs.length : Int)) = cntC cs i * (cs.length : Int) := Go.IntWalk.wrap64_in _ ⟨by
    have := Int.mul_nonneg hb.1 (show 0 ≤ (cs.length : Int) by omega); omega, by
    have := Int.mul_le_mul hb.2 (show (cs.length : Int) ≤ 4096 by omega) (by omega) (by omega); omega⟩
  have hw2 : wrap64 (2 * sumC cs) = 2 * sumC cs := Go.IntWalk.wrap64_in _ ⟨by omega, by omega⟩
  have hdef : hotC cs i = decide (0 < cntC cs i ∧ 2 * sumC cs < cntC cs i * (cs.length : Int)) := rfl
  by_cases h1 : 0 < cntC cs i
  · have z1 : decide (0 < cntC cs i) = true := decide_eq_true h1
    have hh : Hid (hotC cs i = decide (2 * sumC cs < cntC cs i * (cs.length : Int))) := Lib.hid (by rw [hdef, decide_eq_decide]; exact ⟨fun h => h.2, fun h => ⟨h1, h⟩⟩)
    clear hb hs hdef h1
    generalize hotC cs i = r at *
    generalize hx : cntC cs i * (cs.length : Int) = xx at *
    generalize hy : 2 * sumC cs = yy at *
    replace hx := Lib.hid hx
    generalize cntC cs i = x at *
    go_enter Try.func12, Try.ntmps12
    go_wp2_with fail
    refine hc.out.mono ?_
    rintro e w' ⟨rfl, rfl⟩
    replace hx := hx.out
    go_wp2
    go_quiet (first | (with_reducible exact q17 _))
    go_wp2
    go_ret
    exact ⟨by rw [hh.out]; rfl, drawn_any ⟨⟨_, rfl⟩⟩⟩
  · have z1 : decide (0 < cntC cs i) = false := decide_eq_false h1
    have hh : Hid (hotC cs i = false) := Lib.hid (by rw [hdef, decide_eq_false (fun h => h1 h.1)])
    clear hb hs hdef h1 hw1 hw2
    generalize hotC cs i = r at *
    generalize cntC cs i = x at *
    go_enter Try.func12, Try.ntmps12
    go_wp2_with fail
    refine hc.out.mono ?_
    rintro e w' ⟨rfl, rfl⟩
    go_wp2
    go_quiet (first | (with_reducible exact q17 _))
    go_wp2
    go_ret
    exact ⟨by rw [hh.out]; rfl, drawn_any ⟨⟨_, rfl⟩⟩⟩
set_option maxHeartbeats 4000000 in
set_option maxRecDepth 100000 in
theorem cool_calls (H : Aside0 (HAt cs t P B c w)) (hk : Aside0 ((∀ x ∈ cs, 0 ≤ x ∧ x ≤ 255) ∧ cs.length ≤ 4096)) : Calls Try.prog 22 #[.pointer (some ⟨P, 0, none⟩)] w fun e w' => e = .returned (.tuple #[]) ∧ Aside0 (HAt (half cs) 0 P B c w' ∧ Ch (fun k => k = P ∨ k = B) w w') := by
  obtain ⟨d0, d1⟩ := H.out.cells
  have hl := hk.out.2
  go_enter Try.func22, Try.ntmps22
  go_wp2
  clear d0 d1
  go_loopw [8] (fun y wr => ∃ (k : Nat) (ds : List Int), k ≤ cs.length ∧ y = .int .i64 k ∧ Aside0 (ds.length = cs.length ∧ (ds = half (cs.take k) ++ cs.drop k) ∧ HAt ds t P B c wr ∧ Ch (fun k => k = P ∨ k = B) w wr)) (fun y _ => cs.length - (intOf y).toNat)
  case atStart => exact ⟨0, cs, Nat.zero_le _, rfl, ⟨rfl, rfl, H.out, Ch.refl _ _⟩⟩
  case round =>
    obtain ⟨k, ds, hkl, rfl, ⟨hd1, hd2, hH, hC⟩⟩ := hrel
    obtain ⟨d0, d1⟩ := hH.cells
    rw [hd1] at d0
    by_cases hlt : k < cs.length
    · have yk : decide ((k : Int) < (cs.length : Int)) = true := decide_eq_true (by omega)
      have z0 : decide ((0 : Int) ≤ (k : Int)) = true := decide_eq_true (by omega)
      obtain ⟨e0, f0⟩ := hH.elem k (by omega)
      have hx : rd ds (k : Int) = cs[k] := by
        rw [rd_get (by omega)]
        subst hd2
        rw [List.getElem_append_right (by rw [half_len, List.length_take]; omega)]
        simp [half_len, Nat.min_eq_left hkl]
      have hb := hk.out.1 _ (List.getElem_mem hlt)
      have hn : ds.set k (cs[k] / 2) = half (cs.take (k + 1)) ++ cs.drop (k + 1) := by
        subst hd2
        rw [List.set_append_right _ _ (by rw [half_len, List.length_take]; omega), half_len, List.length_take, Nat.min_eq_left hkl, Nat.sub_self, List.drop_eq_getElem_cons hlt, List.set_cons_zero, List.take_succ_eq_append_getElem hlt]
        unfold half
        rw [List.map_append, List.map_singleton, List.append_assoc]
        rfl
      have H2 := Aside0.mk (hH.put k (cs[k] / 2))
      rw [hx] at e0
      have hC2 := Aside0.mk (hC.trans (Ch.set (S := fun k => k = P ∨ k = B) (b := B) (i := k) (.inr rfl) (.int .u8 (cs[k] / 2))))
      have hA := Lib.hid (show (ds.set k (cs[k] / 2)).length = cs.length by rw [List.length_set, hd1])
      have hnn := Lib.hid hn
      clear hn hx hd1 hd2 hH hC
      generalize cs[k] = x at *
      have hw : IntKind.u8.wrap (x / 2) = x / 2 := by simp [IntKind.wrap, IntKind.bits, IntKind.signed]; omega
      go_wp2
      go_roundw
      case rel => exact ⟨k + 1, _, by omega, by go_num, ⟨hA.out, hnn.out, H2.out, hC2.out⟩⟩
      case measure => simp [intOf]; omega
    · obtain rfl : k = cs.length := by omega
      have hfin := Aside0.mk (hH.tick 0)
      have hC2 := Aside0.mk (hC.trans (Ch.set (S := fun k => k = P ∨ k = B) (b := P) (i := 1) (.inl rfl) (.int .i64 0)))
      have hf := blk_frozen hH.head 1
      rw [List.take_length, List.drop_length, List.append_nil] at hd2
      subst hd2
      clear hH hC
      go_wp2
      go_end0
      exact ⟨rfl, ⟨hfin.out, hC2.out⟩⟩
set_option maxHeartbeats 4000000 in
set_option maxRecDepth 100000 in
theorem touch_no (i : Int) (H : Aside0 (HAt cs t P B c w)) (h : ¬ (0 ≤ i ∧ i < (cs.length : Int))) : Calls Try.prog 8 #[.pointer (some ⟨P, 0, none⟩), .int .i64 i] w fun e w' => e = .returned (.int .i64 1) ∧ w' = w := by
  have hh := has_calls cs t P B c w i H
  rw [decide_eq_false h] at hh
  replace hh := Lib.hid hh
  go_enter Try.func8, Try.ntmps8
  go_wp2_with fail
  refine hh.out.mono ?_
  rintro e w' ⟨rfl, rfl⟩
  go_wp2
  go_ret
  exact ⟨rfl, rfl⟩
set_option maxHeartbeats 4000000 in
set_option maxRecDepth 100000 in
theorem touch_calls (i : Nat) (hi : i < cs.length) (H : Aside0 (HAt cs t P B c w)) (hk : Aside0 (OkC cs t)) : Calls Try.prog 8 #[.pointer (some ⟨P, 0, none⟩), .int .i64 (i : Int)] w fun e w' => e = .returned (.int .i64 0) ∧ Aside0 (HAt (touchC cs t i).1 (touchC cs t i).2 P B c w' ∧ Ch (fun k => k = P ∨ k = B) w w') := by
  have hh := has_calls cs t P B c w i H
  rw [decide_eq_true (show 0 ≤ (i : Int) ∧ (i : Int) < (cs.length : Int) from ⟨by omega, by omega⟩)] at hh
  replace hh := Lib.hid hh
  have hl := hk.out.len
  have ht := hk.out.tm
  have z0 : decide ((0 : Int) ≤ (i : Int)) = true := decide_eq_true (by omega)
  have z1 : decide ((i : Int) < (cs.length : Int)) = true := decide_eq_true (by omega)
  have hb := hk.out.rd i hi
  have ht1 := hk.out.touch1 i
  have hw1 : wrap64 (t + 1) = t + 1 := Go.IntWalk.wrap64_in _ ⟨by omega, by omega⟩
  have hw2 : wrap64 (8 * (cs.length : Int)) = 8 * (cs.length : Int) := Go.IntWalk.wrap64_in _ ⟨by omega, by omega⟩
  obtain ⟨ds, hds⟩ : ∃ ds, touch1 cs i = ds := ⟨_, rfl⟩
  have hdl : ds.length = cs.length := by rw [← hds, touch1_len]
  have hdb : Aside0 ((∀ x ∈ ds, 0 ≤ x ∧ x ≤ 255) ∧ ds.length ≤ 4096) := ⟨by rw [← hds]; exact ht1, by omega⟩
  have hfin : Hid (∀ w1, HAt ds t P B c w1 → Ch (fun k => k = P ∨ k = B) w w1 → HAt ds (t + 1) P B c (w1.setCell ⟨P, 1, none⟩ (.int .i64 (t + 1))) ∧ Ch (fun k => k = P ∨ k = B) w (w1.setCell ⟨P, 1, none⟩ (.int .i64 (t + 1)))) := Lib.hid fun w1 h1 h2 => ⟨h1.tick (t + 1), h2.trans (Ch.set (S := fun k => k = P ∨ k = B) (b := P) (i := 1) (.inl rfl) _)⟩
  have hC := Lib.hid fun (w1 : World) (h : HAt ds (t + 1) P B c w1) => cool_calls ds (t + 1) P B c w1 ⟨h⟩ hdb
  have hT : Hid (t + 1 = 8 * (cs.length : Int) → touchC cs t i = (half ds, 0)) := Lib.hid fun h => by unfold touchC; rw [if_pos h, hds]
  have hF : Hid (¬ (t + 1 = 8 * (cs.length : Int)) → touchC cs t i = (ds, t + 1)) := Lib.hid fun h => by unfold touchC; rw [if_neg h, hds]
  generalize touchC cs t i = res at *
  clear ht1 hdb
  have hput : Hid (rd cs (i : Int) < 255 → HAt ds t P B c (w.setCell ⟨B, i, none⟩ (.int .u8 (rd cs (i : Int) + 1)))) := Lib.hid fun h => by
    have := H.out.put i (rd cs (i : Int) + 1)
    rw [← hds]; unfold touch1; rw [if_pos h]; exact this
  have hstay : Hid (¬ rd cs (i : Int) < 255 → HAt ds t P B c w) := Lib.hid fun h => by
    rw [← hds]; unfold touch1; rw [if_neg h]; exact H.out
  replace hds := Lib.hid hds
  obtain ⟨d0, d1⟩ := H.out.cells
  obtain ⟨e0, f0⟩ := H.out.elem i hi
  generalize rd cs (i : Int) = x at *
  by_cases h255 : x < 255
  · have zx : decide (x < 255) = true := decide_eq_true h255
    have hw : IntKind.u8.wrap (x + 1) = x + 1 := by simp [IntKind.wrap, IntKind.bits, IntKind.signed]; omega
    have H1 := Aside0.mk (hput.out h255)
    have C1 := Aside0.mk (Ch.set (S := fun k => k = P ∨ k = B) (w := w) (b := B) (i := i) (.inr rfl) (.int .u8 (x + 1)))
    go_enter Try.func8, Try.ntmps8
    go_wp2_with fail
    refine hh.out.mono ?_
    rintro e w' ⟨rfl, rfl⟩
    go_upto_region 5 with (fail)
    clear d0 d1 e0 f0 hput hstay
    generalize w'.setCell ⟨B, i, none⟩ (.int .u8 (x + 1)) = W1 at *
    obtain ⟨d0, d1⟩ := H1.out.cells
    have f1 := blk_frozen H1.out.head 1
    have H2 := Aside0.mk (hfin.out _ H1.out C1.out).1
    have C2 := Aside0.mk (hfin.out _ H1.out C1.out).2
    clear hfin C1
    rw [hdl] at d0
    go_upto_region 6 with (fail)
    generalize W1.setCell ⟨P, 1, none⟩ (.int .i64 (t + 1)) = W2 at *
    clear d0 d1 f1 H1
    obtain ⟨d0, d1⟩ := H2.out.cells
    rw [hdl] at d0
    by_cases h8 : t + 1 = 8 * (cs.length : Int)
    · have z8 : (t + 1 == 8 * (cs.length : Int)) = true := beq_iff_eq.2 h8
      have hres := hT.out h8
      subst hres
      replace h8 := Lib.hid h8
      go_quiet (fail)
      generalize hww : W2.drewN _ = W3 at *
      have hB3 := Aside0.mk (show Below W2.heap.size W2 W3 by rw [← hww]; exact drawn_any ⟨⟨_, rfl⟩⟩)
      have hC3 := Lib.hid (hC.out W3 (H2.out.below hB3.out))
      have C3 := Aside0.mk (C2.out.trans (Ch.of_below hB3.out))
      clear d0 d1 hww H2 C2 hC
      go_wp2_with fail
      refine hC3.out.mono ?_
      rintro e w9 ⟨rfl, ⟨hH9, hC9⟩⟩
      have H9 := Aside0.mk hH9
      have C9 := Aside0.mk (C3.out.trans hC9)
      clear hH9 hC9 hC3 C3
      go_wp2
      go_ret
      exact ⟨rfl, ⟨H9.out, C9.out⟩⟩
    · have z8 : (t + 1 == 8 * (cs.length : Int)) = false := beq_eq_false_iff_ne.2 h8
      have hres := hF.out h8
      subst hres
      replace h8 := Lib.hid h8
      go_quiet (fail)
      generalize hww : W2.drewN _ = W3 at *
      have hB3 := Aside0.mk (show Below W2.heap.size W2 W3 by rw [← hww]; exact drawn_any ⟨⟨_, rfl⟩⟩)
      have H9 := Aside0.mk (H2.out.below hB3.out)
      have C9 := Aside0.mk (C2.out.trans (Ch.of_below hB3.out))
      clear d0 d1 hww H2 C2 hC
      go_wp2
      go_ret
      exact ⟨rfl, ⟨H9.out, C9.out⟩⟩
  · have zx : decide (x < 255) = false := decide_eq_false h255
    have H1 := Aside0.mk (hstay.out h255)
    have C1 := Aside0.mk (Ch.refl (fun k => k = P ∨ k = B) w)
    go_enter Try.func8, Try.ntmps8
    go_wp2_with fail
    refine hh.out.mono ?_
    rintro e w' ⟨rfl, rfl⟩
    go_upto_region 5 with (fail)
    clear d0 d1 e0 f0 hput hstay
    skip
    obtain ⟨d0, d1⟩ := H1.out.cells
    have f1 := blk_frozen H1.out.head 1
    have H2 := Aside0.mk (hfin.out _ H1.out C1.out).1
    have C2 := Aside0.mk (hfin.out _ H1.out C1.out).2
    clear hfin C1
    rw [hdl] at d0
    go_upto_region 6 with (fail)
    generalize w'.setCell ⟨P, 1, none⟩ (.int .i64 (t + 1)) = W2 at *
    clear d0 d1 f1 H1
    obtain ⟨d0, d1⟩ := H2.out.cells
    rw [hdl] at d0
    by_cases h8 : t + 1 = 8 * (cs.length : Int)
    · have z8 : (t + 1 == 8 * (cs.length : Int)) = true := beq_iff_eq.2 h8
      have hres := hT.out h8
      subst hres
      replace h8 := Lib.hid h8
      go_quiet (fail)
      generalize hww : W2.drewN _ = W3 at *
      have hB3 := Aside0.mk (show Below W2.heap.size W2 W3 by rw [← hww]; exact drawn_any ⟨⟨_, rfl⟩⟩)
      have hC3 := Lib.hid (hC.out W3 (H2.out.below hB3.out))
      have C3 := Aside0.mk (C2.out.trans (Ch.of_below hB3.out))
      clear d0 d1 hww H2 C2 hC
      go_wp2_with fail
      refine hC3.out.mono ?_
      rintro e w9 ⟨rfl, ⟨hH9, hC9⟩⟩
      have H9 := Aside0.mk hH9
      have C9 := Aside0.mk (C3.out.trans hC9)
      clear hH9 hC9 hC3 C3
      go_wp2
      go_ret
      exact ⟨rfl, ⟨H9.out, C9.out⟩⟩
    · have z8 : (t + 1 == 8 * (cs.length : Int)) = false := beq_eq_false_iff_ne.2 h8
      have hres := hF.out h8
      subst hres
      replace h8 := Lib.hid h8
      go_quiet (fail)
      generalize hww : W2.drewN _ = W3 at *
      have hB3 := Aside0.mk (show Below W2.heap.size W2 W3 by rw [← hww]; exact drawn_any ⟨⟨_, rfl⟩⟩)
      have H9 := Aside0.mk (H2.out.below hB3.out)
      have C9 := Aside0.mk (C2.out.trans (Ch.of_below hB3.out))
      clear d0 d1 hww H2 C2 hC
      go_wp2
      go_ret
      exact ⟨rfl, ⟨H9.out, C9.out⟩⟩
end
end Go.Proofs.Ytihggmhmfocnpaa.PQ
