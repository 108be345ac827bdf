/- The document's Note, walked. -/
import Derived.Test.YtkamgpjpnjikgaaNote
namespace Go.Proofs.Ytkamgpjpnjikgaa.PQ
open Go.RowKit Go.Proofs.YtkamgpjpnjikgaaW.PrintWords Go.Proofs.YtkamgpjpnjikgaaW.PrintLast Go.Proofs.YtkamgpjpnjikgaaW.PrintMore
set_option linter.unusedVariables false
set_option linter.unusedSimpArgs false
theorem outL_step (l : List S27) (a : Int) (k : Nat) (hk : k < l.length) : outL (l.take (k + 1)) a = if (l[k]).f1 = a then outL (l.take k) a else outL (l.take k) a ++ [l[k]] := by
  unfold outL
  rw [List.take_succ_eq_append_getElem hk, List.filter_append]
  by_cases h : (l[k]).f1 = a <;> simp [h]
theorem outL_le (l : List S27) (a : Int) (k : Nat) : (outL (l.take k) a).length ≤ l.length := by
  unfold outL
  refine Nat.le_trans (List.length_filter_le _ _) ?_
  rw [List.length_take]; omega
theorem rd_get (l : List S27) (k : Nat) (hk : k < l.length) : rd_T27 l (k : Int) = l[k] := by
  unfold rd_T27
  rw [Int.toNat_natCast, List.getD_eq_getElem?_getD, List.getElem?_eq_getElem hk]
  rfl
set_option maxHeartbeats 8000000 in
theorem refNote_calls (l : List S27) (A : Option Addr) (c : Nat) (r : S27) (w : World) (hl : l.length ≤ 100000) (hc : l.length ≤ c) (hC : Aside0 (Kd.C k27 w A l.length l)) :
    Calls Try.prog 7 #[.slice A l.length c, .agg #[.int .i64 r.f0, .int .i64 r.f1, .int .i64 r.f2]] w fun e w' => Aside0 (∃ v', e = .returned (.tuple #[v', .int .i64 (codeL r)]) ∧ ((v' = .slice A l.length c ∧ noteL l r = l) ∨ Kd.R k27 27 w' w.heap.size (fun _ => True) v' (noteL l r)) ∧ Below w.heap.size w w') := by
  have B1 : Below w.heap.size w (w.alloc (.cells #[.int .i64 r.f0, .int .i64 r.f1, .int .i64 r.f2] 27)) := (Below.refl _ _).alloc (Nat.le_refl _) _
  have X1 := Aside0.mk (heap_alloc_new w (.cells #[.int .i64 r.f0, .int .i64 r.f1, .int .i64 r.f2] 27))
  replace B1 := Aside0.mk B1
  obtain ⟨bb, hbb⟩ : ∃ b : Bool, Aside0 (b = decide (¬ (r.f0 = 1 ∨ r.f0 = 2))) := ⟨_, ⟨rfl⟩⟩
  go_enter Try.func7, Try.ntmps7
  go_upto_region 1 with (fail)
  have hs1 := Lib.hid (show (w.alloc (.cells #[.int .i64 r.f0, .int .i64 r.f1, .int .i64 r.f2] 27)).heap.size = w.heap.size + 1 by simp)
  generalize hW1 : w.alloc (.cells #[.int .i64 r.f0, .int .i64 r.f1, .int .i64 r.f2] 27) = W1 at *
  clear hW1
  have x0 : W1.cell? ⟨w.heap.size, 0, none⟩ = some (.int .i64 r.f0) := blk_cell X1.out 0
  have x1 : W1.cell? ⟨w.heap.size, 1, none⟩ = some (.int .i64 r.f1) := blk_cell X1.out 1
  have x2 : W1.cell? ⟨w.heap.size, 2, none⟩ = some (.int .i64 r.f2) := blk_cell X1.out 2
  go_cut [15] (fun b wx => b = .bool bb ∧ wx = W1)
  case first =>
    by_cases h1 : r.f0 = 1
    · have z1 : (r.f0 != 1) = false := by simp [h1]
      have hb1 : bb = false := hbb.out.trans (decide_eq_false (fun h => h (.inl h1)))
      subst hb1
      clear h1 hbb
      go_wp2
      go_meet
      exact ⟨rfl, rfl⟩
    · have z1 : (r.f0 != 1) = true := by simpa using h1
      by_cases h2 : r.f0 = 2
      · have z2 : (r.f0 != 2) = false := by simp [h2]
        have hb1 : bb = false := hbb.out.trans (decide_eq_false (fun h => h (.inr h2)))
        subst hb1
        clear h1 h2 hbb
        go_wp2
        go_meet
        exact ⟨rfl, rfl⟩
      · have z2 : (r.f0 != 2) = true := by simpa using h2
        have hb1 : bb = true := hbb.out.trans (decide_eq_true (fun h => h.elim h1 h2))
        subst hb1
        clear h1 h2 hbb
        go_wp2
        go_meet
        exact ⟨rfl, rfl⟩
  case rest =>
    obtain ⟨rfl, rfl⟩ := hcut
    cases bb with
    | true =>
      have hn : ¬ (r.f0 = 1 ∨ r.f0 = 2) := by simpa using hbb.out
      have e1 : noteL l r = l := by unfold noteL; rw [if_neg hn]
      have e2 : codeL r = 110 := by unfold codeL; rw [if_neg hn]
      replace e1 := Lib.hid e1
      replace e2 := Lib.hid e2
      clear hn hbb
      go_wp2
      go_ret2
      exact ⟨_, by rw [e2.out]; rfl, .inl ⟨rfl, e1.out⟩, B1.out⟩
    | false =>
      have hy : r.f0 = 1 ∨ r.f0 = 2 := by have := hbb.out; rw [eq_comm, decide_eq_false_iff_not, Classical.not_not] at this; exact this
      have e1 : noteL l r = outL l r.f1 ++ [r] := by unfold noteL; rw [if_pos hy]
      have e2 : codeL r = 0 := by unfold codeL; rw [if_pos hy]
      replace e1 := Lib.hid e1
      replace e2 := Lib.hid e2
      clear hbb hy
      go_wp2
      clear x0 x1 x2
      go_loopw [6, 7] (fun v i wr => ∃ k : Nat, k ≤ l.length ∧ i = .int .i64 k ∧ Aside0 (Kd.R k27 27 wr w.heap.size (fun q => q ≠ w.heap.size) v (outL (l.take k) r.f1)) ∧ Aside0 (Below w.heap.size w wr ∧ wr.heap[w.heap.size]? = some (.cells #[.int .i64 r.f0, .int .i64 r.f1, .int .i64 r.f2] 27 (0, 0)))) (fun _ i _ => l.length - (intOf i).toNat)
      case atStart => exact ⟨0, Nat.zero_le _, rfl, ⟨Kd.R_nil _ _ _ _ _⟩, ⟨B1.out, X1.out⟩⟩
      case round =>
        obtain ⟨k, hk, rfl, HO, HB⟩ := hrel
        have x1 : wr.cell? ⟨w.heap.size, 1, none⟩ = some (.int .i64 r.f1) := blk_cell HB.out.2 1
        have hXlt := Lib.hid (blk_lt HB.out.2)
        by_cases hlt : k < l.length
        · have z : decide ((k : Int) < (l.length : Int)) = true := decide_eq_true (by omega)
          have z0 : decide ((0 : Int) ≤ (k : Int)) = true := decide_eq_true (by omega)
          obtain ⟨ad, rfl, y0, y1, y2⟩ := at_T27 (Kd.C_below hC.out HB.out.1) (k : Int) (by omega) (by omega)
          rw [Int.toNat_natCast] at y0 y1 y2
          rw [rd_get l k hlt] at y0 y1 y2
          have hst := Lib.hid (outL_step l r.f1 k hlt)
          have hle := outL_le l r.f1 k
          have hl8 := Lib.hid (show ((outL (l.take k) r.f1).length + 1) * 24 ≤ 140737488355328 by omega)
          clear hle
          generalize l[k] = y at *
          obtain ⟨y0', y1', y2'⟩ := y
          dsimp only at *
          by_cases he : y1' = r.f1
          · have z3 : (y1' != r.f1) = false := by simp [he]
            have hst1 := hst.out
            rw [if_pos he] at hst1
            replace hst1 := Lib.hid hst1
            clear he hst
            go_wp2
            go_quiet (fail)
            go_wp2
            go_roundw
            case rel => exact ⟨k + 1, by omega, by go_num, ⟨by rw [hst1.out]; exact Kd.R_drewN HO.out _⟩, ⟨HB.out.1.trans (pw_below_drewN (Below.refl _ _) _), HB.out.2⟩⟩
            case measure => simp [intOf]; omega
          · have z3 : (y1' != r.f1) = true := by simpa using he
            have hst1 := hst.out
            rw [if_neg he] at hst1
            replace hst1 := Lib.hid hst1
            clear he hst
            obtain ⟨A5, c5, rfl⟩ := Kd.R_slice HO.out
            go_wp2
            go_quiet (fail)
            replace HO : Aside0 (Kd.R k27 27 (wr.drewN nq) w.heap.size (fun q => q ≠ w.heap.size) (.slice A5 (outL (l.take k) r.f1).length c5) (outL (l.take k) r.f1)) := ⟨Kd.R_drewN HO.out _⟩
            replace HB : Aside0 (Below w.heap.size w (wr.drewN nq) ∧ (wr.drewN nq).heap[w.heap.size]? = some (.cells #[.int .i64 r.f0, .int .i64 r.f1, .int .i64 r.f2] 27 (0, 0))) := ⟨HB.out.1.trans (pw_below_drewN (Below.refl _ _) _), HB.out.2⟩
            replace y0 : (wr.drewN nq).cell? (ad.add (k * 3)) = some (.int .i64 y0') := y0
            replace y1 : (wr.drewN nq).cell? ⟨(ad.add (k * 3)).block, (ad.add (k * 3)).off + 1, none⟩ = some (.int .i64 y1') := y1
            replace y2 : (wr.drewN nq).cell? ⟨(ad.add (k * 3)).block, (ad.add (k * 3)).off + 2, none⟩ = some (.int .i64 y2') := y2
            replace hXlt : Hid (w.heap.size < (wr.drewN nq).heap.size) := hXlt
            clear x1
            generalize wr.drewN nq = W2 at *
            go_wp2_with ((with_reducible refine gate_builtin (b := .append) (xs := #[.tmp 31, .tmp 36]) rfl ?_); at_builtin; refine Kd.R_append k27 (w0 := w) w.heap.size rfl (.tmp 31) (.tmp 36) 25 27 (.agg #[.int .i64 0, .int .i64 0, .int .i64 0]) 24 rfl (by kernel_rfl) (by kernel_rfl) rfl (by decide) (by decide) (.slice A5 (outL (l.take k) r.f1).length c5) (outL (l.take k) r.f1) ⟨y0', y1', y2'⟩ [.int .i64 y0', .int .i64 y1', .int .i64 y2'] (fun q => q ≠ w.heap.size) (fun _ => False) rfl rfl (k27_mkM _ _ _ _) (fun _ hk => hk.elim) (fun q hq e => absurd hXlt.out (Nat.not_lt.2 (e ▸ hq))) HO.out HB.out.1 (Nat.le_of_lt hXlt.out) hl8.out ?_; intro v5 w5 ho hb hg hat; have HX5 := Aside0.mk (blk_grown HB.out.2 hg (fun e => HO.out.1 _ e.symm rfl)); have HO5 := Aside0.mk ho; have HB5 := Aside0.mk hb; clear ho hb hg hat)
            go_roundw
            case rel => exact ⟨k + 1, by omega, by go_num, ⟨by rw [hst1.out]; exact HO5.out⟩, ⟨HB5.out, HX5.out⟩⟩
            case measure => simp [intOf]; omega
        · obtain rfl : k = l.length := by omega
          have z : decide ((l.length : Int) < (l.length : Int)) = false := decide_eq_false (by omega)
          have x0 : wr.cell? ⟨w.heap.size, 0, none⟩ = some (.int .i64 r.f0) := blk_cell HB.out.2 0
          have x2 : wr.cell? ⟨w.heap.size, 2, none⟩ = some (.int .i64 r.f2) := blk_cell HB.out.2 2
          have hle := outL_le l r.f1 l.length
          rw [List.take_length] at HO hle
          have hl8 := Lib.hid (show ((outL l r.f1).length + 1) * 24 ≤ 140737488355328 by omega)
          clear hle
          obtain ⟨A5, c5, rfl⟩ := Kd.R_slice HO.out
          go_wp2_with ((with_reducible refine gate_builtin (b := .append) (xs := #[.tmp 38, .tmp 40]) rfl ?_); at_builtin; refine Kd.R_append k27 (w0 := w) w.heap.size rfl (.tmp 38) (.tmp 40) 25 27 (.agg #[.int .i64 0, .int .i64 0, .int .i64 0]) 24 rfl (by kernel_rfl) (by kernel_rfl) rfl (by decide) (by decide) (.slice A5 (outL l r.f1).length c5) (outL l r.f1) r [.int .i64 r.f0, .int .i64 r.f1, .int .i64 r.f2] (fun q => q ≠ w.heap.size) (fun _ => False) rfl rfl (k27_mkM _ _ _ _) (fun _ hk => hk.elim) (fun q hq e => absurd hXlt.out (Nat.not_lt.2 (e ▸ hq))) HO.out HB.out.1 (Nat.le_of_lt hXlt.out) hl8.out ?_; intro v5 w5 ho hb hg hat; have HO5 := Aside0.mk ho; have HB5 := Aside0.mk hb; clear ho hb hg hat)
          obtain ⟨A6, c6, rfl⟩ := Kd.R_slice HO5.out
          go_ret2
          exact ⟨_, by rw [e2.out]; rfl, .inr (by rw [e1.out]; exact Kd.R_mono HO5.out (fun _ _ => trivial)), HB5.out⟩
end Go.Proofs.Ytkamgpjpnjikgaa.PQ
