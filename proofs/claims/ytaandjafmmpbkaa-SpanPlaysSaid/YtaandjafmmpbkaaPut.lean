/- Spans in the place of others, walked. -/
import Derived.Test.YtaandjafmmpbkaaCount
import Derived.Outline
import Derived.OwnWalk
namespace Go.Proofs.Ytaandjafmmpbkaa.PQ
open Go.RowKit Go.Proofs.YtaandjafmmpbkaaW.PrintWords Go.Proofs.YtaandjafmmpbkaaW.PrintLast Go.Proofs.YtaandjafmmpbkaaW.PrintMore
set_option linter.unusedVariables false
set_option linter.unusedSimpArgs false
theorem cut_hm (t e : TypeId) {i : TypeInfo} {P : Program} (ht : P.underlying t = some (.slice e)) (hi : P.info? e = some i) (A : Option Addr) (n c j : Nat) (hc : j ≤ c) :
    ∀ W : World, (Instr.slice t (.slice A n c) none (some (.int .i64 j)) (some (.int .i64 j))).run P W = .ok (.slice A j j) W := by
  intro W
  have hel : P.elem t = e := by simp [Program.elem, ht]
  have hu : P.underlying t = some (.slice (P.elem t)) := by rw [hel]; exact ht
  have ha : (A.map fun x => x.add 0) = A := by cases A <;> simp [Addr.add]
  rw [run_slice_hm W t A n c hu .i64 .i64 j j (by omega) (Int.le_refl _) (by omega), hel]
  simp [sizeOf, typeInfo, hi, sliced, Result.andThen, ha]
theorem C_cut {w : World} {A : Option Addr} {l : List S27} (h : Kd.C k27 w A l.length l) (j : Nat) (hj : j ≤ l.length) : Kd.C k27 w A j (l.take j) := by
  have := Kd.C_take h hj
  have e : (l.take j).length = j := by rw [List.length_take]; omega
  rw [e] at this
  exact this
/-- Is a span not empty? -/
def neB (x : S27) : Bool := decide (x.f0 < x.f1)
theorem empty_calls (x0 x1 : Int) (w : World) : Calls Try.prog 26 #[.agg #[.int .i64 x0, .int .i64 x1]] w fun e w' => e = .returned (.bool (decide (x1 ≤ x0))) ∧ Below w.heap.size w w' :=
  (span_empty.calls x0 x1 _ w rfl).mono fun e w' h => ⟨h.1, h.2⟩
set_option maxHeartbeats 4000000 in
set_option maxRecDepth 100000 in
theorem put_core (l : List S27) (P base : Nat) (v : Value) (i j : Nat) (A3 : Option Addr) (c3 : Nat) (ps : List S27) (w : World) (H : Aside0 (SetAt l P base v w)) (hr3 : Aside0 (Kd.C k27 w A3 ps.length ps)) (hi : i ≤ l.length) (hj : j ≤ l.length) (hlen : l.length ≤ 10000) (hps : ps.length ≤ 30000) (hbase : Hid (base ≤ w.heap.size)) :
    Calls Try.prog 28 #[.pointer (some ⟨P, 0, none⟩), .int .i64 i, .int .i64 j, .slice A3 ps.length c3] w fun e w' => e = .returned (.tuple #[]) ∧ Aside0 (∃ u, SetAt (l.take i ++ ps.filter neB ++ l.drop j) P base u w' ∧ Ch (fun k => k = P) w w') := by
  obtain ⟨A, c, rfl⟩ := H.out.slice
  have hP := H.out.head0
  have hC := Aside0.mk (Kd.R_reads' H.out.row).2.2
  have hnc := Lib.hid (Kd.R_reads' H.out.row).2.1
  obtain ⟨i0, hi0, _, hi1, _⟩ := info_parts info27
  have k1 := cut_hm 33 27 (P := Try.prog) Try.underlying33 hi0 A l.length c i (by have := hnc.out; omega)
  have k2 := cut_from 33 27 .i64 (P := Try.prog) Try.underlying33 hi0 2 hi1 A l.length c (j : Int) (by omega) (by omega)
  have hD := Kd.C_drop (c := c) hC.out hj hnc.out
  rw [Int.toNat_natCast] at k2
  rw [List.length_drop] at hD
  replace hD : Kd.C k27 w (if c = j then A else A.map (·.add (j * 2))) (l.length - j) (l.drop j) := hD
  generalize (if c = j then A else A.map (·.add (j * 2))) = A' at *
  have hD' := Aside0.mk hD
  have hT := Aside0.mk (C_cut hC.out i hi)
  have hl8 := Lib.hid (show (([] : List S27).length + i) * 16 ≤ 140737488355328 by simp; omega)
  have hN := Aside0.mk (Kd.R_nil k27 27 w w.heap.size (fun _ => True))
  clear hD hC hi0 hi1
  go_enter Try.func28, Try.ntmps28
  go_wp2_with ((with_reducible refine gate_builtin (b := .append) (xs := #[.tmp 11, .tmp 18]) rfl ?_); at_builtin; refine Kd.R_append_rows k27 (Rr := k27.K w) (w0 := w) w.heap.size rfl (.tmp 11) (.tmp 18) 33 27 (.agg #[.int .i64 0, .int .i64 0]) 16 rfl Try.underlying33 info27 rfl (by decide) (by decide) (.slice none 0 0) [] (l.take i) A i i (fun _ => True) (fun _ => False) rfl rfl hN.out hT.out k27_KM (fun _ hk => hk.elim) (fun _ _ => trivial) (Below.refl _ _) (Nat.le_refl _) hl8.out ?_; intro v1 w1 ho hb hg hat; rw [List.nil_append] at ho; have HO := Aside0.mk ho; have HB := Aside0.mk hb; clear ho hb hg hat)
  clear hT hN hl8 k1 hP
  go_loopw [8, 22] (fun x y wr => ∃ k : Nat, k ≤ ps.length ∧ y = .int .i64 k ∧ Aside0 (Kd.R k27 27 wr w.heap.size (fun _ => True) x (l.take i ++ (ps.take k).filter neB)) ∧ Aside0 (Below w.heap.size w wr)) (fun _ y _ => ps.length - (intOf y).toNat)
  case atStart => exact ⟨0, Nat.zero_le _, rfl, ⟨by simpa using HO.out⟩, HB⟩
  case round =>
    clear HO HB
    obtain ⟨k, hk, rfl, HO, HB⟩ := hrel
    by_cases hlt : k < ps.length
    · have yk : decide ((k : Int) < (ps.length : Int)) = true := decide_eq_true (by omega)
      obtain ⟨ad, e1, c0, c1⟩ := at_T27 (Kd.C_below hr3.out HB.out) (k : Int) (by omega) (by omega)
      cases e1
      rw [Int.toNat_natCast] at c0 c1
      have hK : (ps.take (k + 1)).filter neB = (ps.take k).filter neB ++ (if (rd_T27 ps k).f0 < (rd_T27 ps k).f1 then [rd_T27 ps k] else []) := by
        rw [List.take_succ_eq_append_getElem hlt, List.filter_append]
        have e : rd_T27 ps (k : Int) = ps[k] := by unfold rd_T27; rw [Int.toNat_natCast, List.getD_eq_getElem?_getD, List.getElem?_eq_getElem hlt]; rfl
        rw [e, List.filter_cons]
        unfold neB
        by_cases hx : ps[k].f0 < ps[k].f1
        · rw [if_pos hx, if_pos (decide_eq_true hx)]; rfl
        · rw [if_neg hx, if_neg (by rw [decide_eq_false hx]; decide)]; rfl
      have hsz : (l.take i ++ (ps.take k).filter neB).length ≤ 40000 := by
        have h1 := List.length_filter_le neB (ps.take k)
        rw [List.length_append]
        rw [List.length_take] at h1 ⊢
        omega
      have hsz' := Lib.hid (show ((l.take i ++ (ps.take k).filter neB).length + 1) * 16 ≤ 140737488355328 by omega)
      have HB2 := Aside0.mk (HB.out.alloc HB.out.size (.cells #[.int .i64 (rd_T27 ps k).f0, .int .i64 (rd_T27 ps k).f1] 27))
      have HO2 := Aside0.mk (Kd.R_alloc HO.out (.cells #[.int .i64 (rd_T27 ps k).f0, .int .i64 (rd_T27 ps k).f1] 27))
      have HX := Aside0.mk (heap_alloc_new wr (.cells #[.int .i64 (rd_T27 ps k).f0, .int .i64 (rd_T27 ps k).f1] 27))
      clear hsz HO HB
      generalize rd_T27 ps (k : Int) = x at *
      obtain ⟨x0, x1⟩ := x
      dsimp only at *
      by_cases hx : x0 < x1
      · rw [if_pos hx] at hK
        have hK' := Lib.hid hK
        have hE := Lib.hid fun w' => empty_calls x0 x1 w'
        have hz : decide (x1 ≤ x0) = false := decide_eq_false (by omega)
        rw [hz] at hE
        clear hK hx hz
        go_wp2_with fail
        generalize hWW : wr.alloc (.cells #[.int .i64 x0, .int .i64 x1] 27) = WW at *
        clear hWW
        generalize wr.heap.size = X at *
        refine (hE.out _).mono ?_
        rintro e w2 ⟨rfl, hb⟩
        have HB3 := Aside0.mk (HB2.out.trans (hb.mono HB2.out.size))
        have HO3 := Aside0.mk (Kd.R_below HO2.out hb)
        have HX3 := blk_below HX.out hb
        have d0 := (blk_cell HX3 0).trans (rfl : _ = some (Value.int .i64 x0))
        have d1 := (blk_cell HX3 1).trans (rfl : _ = some (Value.int .i64 x1))
        clear hE hb HB2 HO2 HX HX3 c0 c1
        go_wp2_with ((with_reducible refine gate_builtin (b := .append) (xs := #[.tmp 29, .tmp 31]) rfl ?_); at_builtin; refine Kd.R_append k27 (w0 := w) w.heap.size rfl (.tmp 29) (.tmp 31) 33 27 (.agg #[.int .i64 0, .int .i64 0]) 16 rfl Try.underlying33 info27 rfl (by decide) (by decide) u8 (l.take i ++ (ps.take k).filter neB) ⟨x0, x1⟩ [.int .i64 x0, .int .i64 x1] (fun _ => True) (fun _ => False) rfl rfl ?aP (fun _ hk => hk.elim) ?aF ?aO ?aB ?aS ?aL ?_; (case aP => exact k27_mkM _ _ _ _); (case aF => exact fun _ _ => trivial); (case aO => exact HO3.out); (case aB => exact HB3.out); (case aS => exact HB3.out.size); (case aL => exact hsz'.out); intro v5 w5 ho hb hg hat; have HO5 := Aside0.mk ho; have HB5 := Aside0.mk hb; clear ho hb hg hat HO3 HB3)
        go_roundw
        case rel => exact ⟨k + 1, by omega, by go_num, ⟨by rw [hK'.out, ← List.append_assoc]; exact HO5.out⟩, HB5⟩
        case measure => simp [intOf]; omega
      · rw [if_neg hx, List.append_nil] at hK
        have hK' := Lib.hid hK
        have hE := Lib.hid fun w' => empty_calls x0 x1 w'
        have hz : decide (x1 ≤ x0) = true := decide_eq_true (by omega)
        rw [hz] at hE
        clear hK hx hz
        go_wp2_with fail
        generalize hWW : wr.alloc (.cells #[.int .i64 x0, .int .i64 x1] 27) = WW at *
        clear hWW
        refine (hE.out _).mono ?_
        rintro e w2 ⟨rfl, hb⟩
        have HB3 := Aside0.mk (HB2.out.trans (hb.mono HB2.out.size))
        have HO3 := Aside0.mk (Kd.R_below HO2.out hb)
        clear hE hb HB2 HO2 HX c0 c1
        go_wp2
        go_roundw
        case rel => exact ⟨k + 1, by omega, by go_num, ⟨by rw [hK'.out]; exact HO3.out⟩, HB3⟩
        case measure => simp [intOf]; omega
    · obtain rfl : k = ps.length := by omega
      rw [List.take_length] at HO
      have H2 := Aside0.mk (H.out.ch2 HB.out)
      have hP := H2.out.head0
      have hf2 := blk_frozen H2.out.head 0
      have hsz : (l.take i ++ ps.filter neB).length ≤ 40000 := by
        have h1 := List.length_filter_le neB ps
        rw [List.length_append, List.length_take]
        omega
      have hsz' := Lib.hid (show ((l.take i ++ ps.filter neB).length + (l.length - j)) * 16 ≤ 140737488355328 by omega)
      have hD2 := Aside0.mk (Kd.C_below hD'.out HB.out)
      clear hsz hD' hlt
      go_wp2_with ((with_reducible refine gate_builtin (b := .append) (xs := #[.tmp 35, .tmp 41]) rfl ?_); at_builtin; refine Kd.R_append_rows k27 (Rr := k27.K wr) (w0 := w) w.heap.size rfl (.tmp 35) (.tmp 41) 33 27 (.agg #[.int .i64 0, .int .i64 0]) 16 rfl Try.underlying33 info27 rfl (by decide) (by decide) u8 (l.take i ++ ps.filter neB) (l.drop j) A' (l.length - j) (c - j) (fun _ => True) (fun _ => False) rfl rfl HO.out hD2.out k27_KM (fun _ hk => hk.elim) (fun _ _ => trivial) HB.out HB.out.size hsz'.out ?_; intro v9 w9 ho hb hg hat; obtain ⟨A9, c9, rfl⟩ := Kd.R_slice ho; generalize hL9 : (l.take i ++ ps.filter neB ++ l.drop j).length = L9 at *; clear hL9; have HO9 := Aside0.mk (ownS ho); have HB9 := Aside0.mk hb; have H9 := Aside0.mk (H.out.ch2 hb); clear ho hb hg hat HO HB H2 hP hf2; have hP := H9.out.head0; have hf := blk_frozen H9.out.head 0)
      have hfin : Aside0 (SetAt (l.take i ++ ps.filter neB ++ l.drop j) P base (.slice A9 L9 c9) (w9.setCell ⟨P, 0, none⟩ (.slice A9 L9 c9)) ∧ Ch (fun k => k = P) w (w9.setCell ⟨P, 0, none⟩ (.slice A9 L9 c9))) := ⟨by
        refine ⟨⟨blk_set H9.out.head 0 _, Kd.R_far (p := ⟨P, 0, none⟩) (ownS (Kd.R_lower HO9.out hbase.out)) (fun k hk e => ?_) _⟩, (Ch.of_below HB9.out).trans (Ch.set _)⟩
        obtain ⟨cs, hc⟩ := Kd.R_typed HO9.out k hk
        have e2 : k = P := e
        subst e2
        exact blk_ne hc H9.out.head (by decide) rfl⟩
      clear HO9 HB9 H9
      go_wp2
      go_end0
      exact ⟨rfl, ⟨⟨_, hfin.out.1, hfin.out.2⟩⟩⟩
end Go.Proofs.Ytaandjafmmpbkaa.PQ
