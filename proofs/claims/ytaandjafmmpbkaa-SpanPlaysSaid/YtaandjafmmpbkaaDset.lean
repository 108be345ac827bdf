/- The document's list with a span in it or not, walked. -/
import Derived.Test.YtaandjafmmpbkaaRef
import Derived.Outline
import Derived.OwnWalk
namespace Go.Proofs.Ytaandjafmmpbkaa.PQ
open Go.RowKit Go.Proofs.YtaandjafmmpbkaaW.PrintWords Go.Proofs.YtaandjafmmpbkaaW.PrintLast Go.Proofs.YtaandjafmmpbkaaW.PrintMore
set_option linter.unusedVariables false
set_option linter.unusedSimpArgs false
theorem refMay_calls (a b : Int) (w : World) : Calls Try.prog 23 #[.agg #[.int .i64 a, .int .i64 b]] w fun e w' => e = .returned (.bool (mayB a b)) ∧ Below w.heap.size w w' :=
  deckleref34_May.calls a b (mayB a b) w (refMay a b)
set_option maxHeartbeats 4000000 in
set_option maxRecDepth 100000 in
theorem setR_no (a b : Int) (v : Bool) (u : Value) (w : World) (hm : Hid (mayB a b = false)) :
    Calls Try.prog 18 #[u, .agg #[.int .i64 a, .int .i64 b], .bool v] w fun e w' => e = .returned (.tuple #[u, .int .i64 1]) ∧ Below w.heap.size w w' := by
  have hM := fun w => refMay_calls a b w
  rw [hm.out] at hM
  replace hM := Lib.hid hM
  have hb0 := Aside0.mk ((Below.refl w.heap.size w).alloc (Nat.le_refl _) (.cells #[.int .i64 a, .int .i64 b] 27))
  have HX := Aside0.mk (heap_alloc_new w (.cells #[.int .i64 a, .int .i64 b] 27))
  go_enter Try.func18, Try.ntmps18
  go_wp2_with fail
  generalize hW : w.alloc (.cells #[.int .i64 a, .int .i64 b] 27) = W at *
  clear hW
  refine (hM.out _).mono ?_
  rintro e w1 ⟨rfl, hb⟩
  have hb1 := Aside0.mk (hb0.out.trans (hb.mono hb0.out.size))
  clear hb hM HX hb0
  go_wp2
  go_ret2
  exact ⟨rfl, hb1.out⟩
set_option maxHeartbeats 8000000 in
set_option maxRecDepth 100000 in
theorem setR_yes (D0 D : List Bool) (a b : Int) (v : Bool) (A : Option Addr) (c : Nat) (w : World) (hm : Hid (mayB a b = true)) (h0 : Hid (D.length = 4096))
    (hr : Aside0 (Kd.C Kd.bool w A 4096 D0)) (hD : Hid (∀ i : Nat, i < 4096 → D.take (i + 1) = D.take i ++ [if a ≤ (i : Int) ∧ (i : Int) < b then v else rdOf false D0 i])) :
    Calls Try.prog 18 #[.slice A 4096 c, .agg #[.int .i64 a, .int .i64 b], .bool v] w fun e w' => Aside0 (∃ u, e = .returned (.tuple #[u, .int .i64 0]) ∧ Kd.R Kd.bool 4 w' w.heap.size (fun _ => True) u D ∧ Below w.heap.size w w') := by
  have hM := fun w => refMay_calls a b w
  rw [hm.out] at hM
  replace hM := Lib.hid hM
  have hb0 := Aside0.mk ((Below.refl w.heap.size w).alloc (Nat.le_refl _) (.cells #[.int .i64 a, .int .i64 b] 27))
  have HX := Aside0.mk (heap_alloc_new w (.cells #[.int .i64 a, .int .i64 b] 27))
  go_enter Try.func18, Try.ntmps18
  go_wp2_with fail
  generalize hW : w.alloc (.cells #[.int .i64 a, .int .i64 b] 27) = W at *
  clear hW
  obtain ⟨X, hX⟩ : ∃ X, X = w.heap.size := ⟨_, rfl⟩
  rw [← hX] at HX ⊢
  have hX' := Lib.hid hX
  clear hX
  refine (hM.out _).mono ?_
  rintro e w1 ⟨rfl, hb⟩
  have hb1 := Aside0.mk (hb0.out.trans (hb.mono hb0.out.size))
  have HX1 := Aside0.mk (blk_below HX.out hb)
  clear hb hM HX hb0
  go_wp2
  go_loopw [8, 9] (fun z y wr => ∃ k : Nat, k ≤ 4096 ∧ y = .int .i64 k ∧ Aside0 (wr.heap[X]? = some (.cells #[.int .i64 a, .int .i64 b] 27 (0, 0))) ∧ Aside0 (Below w.heap.size w wr) ∧ Aside0 (Kd.R Kd.bool 4 wr w.heap.size (fun k => X < k) z (D.take k))) (fun _ y _ => 4096 - (intOf y).toNat)
  case atStart => exact ⟨0, Nat.zero_le _, rfl, HX1, hb1, ⟨Kd.R_nil _ _ _ _ _⟩⟩
  case round =>
    clear HX1 hb1
    obtain ⟨k, hk, rfl, HX, HB, HO⟩ := hrel
    have hXl := blk_lt HX.out
    have own : ∀ q, q ≤ X → u8.ownBlock ≠ some q := fun q hq e => by have := HO.out.1 q e; omega
    have d0 := (blk_cell HX.out 0).trans (rfl : _ = some (Value.int .i64 a))
    have d1 := (blk_cell HX.out 1).trans (rfl : _ = some (Value.int .i64 b))
    have f0 := blk_frozen HX.out 0
    have f1 := blk_frozen HX.out 1
    by_cases hlt : k < 4096
    · have yk : decide ((k : Int) < 4096) = true := decide_eq_true (by omega)
      have hx := hD.out k hlt
      have hlen : Hid ((D.take k).length ≤ 4096) := Lib.hid (by rw [List.length_take]; omega)
      have hor : (a ≤ (k : Int) ∧ (k : Int) < b) ∨ ¬ (a ≤ (k : Int) ∧ (k : Int) < b) := Decidable.em _
      rcases hor with ⟨ca, cb⟩ | hno
      · have za : decide (a ≤ (k : Int)) = true := decide_eq_true ca
        have zb : decide ((k : Int) < b) = true := decide_eq_true cb
        rw [if_pos ⟨ca, cb⟩] at hx
        replace hx := Lib.hid hx
        generalize D.take k = L at *
        go_wp2_with ((with_reducible refine gate_builtin (b := .append) (xs := #[.tmp 30, .tmp 32]) rfl ?_); at_builtin; refine Kd.R_append Kd.bool (w0 := w) w.heap.size rfl (.tmp 30) (.tmp 32) 42 4 (.bool false) 1 rfl Try.underlying42 info4 rfl (by decide) (by omega) u8 L v [.bool v] (fun k => X < k) (fun _ => False) rfl rfl ?aP (fun _ hk => hk.elim) ?aF ?aO ?aB ?aS ?aL ?_; (case aP => exact rfl); (case aF => exact (fun q hq => Nat.lt_of_lt_of_le hXl hq)); (case aO => exact HO.out); (case aB => exact HB.out); (case aS => exact HB.out.size); (case aL => have := hlen.out; omega); intro v1 w5 ho hb hg hat; have HX1 := Aside0.mk ((hg.block X hXl (fun e => own X (Nat.le_refl _) e.symm)).trans HX.out); have HO1 := Aside0.mk ho; have HB1 := Aside0.mk hb; clear ho hb hg hat)
        go_roundw
        case rel => exact ⟨k + 1, by omega, by go_num, HX1, HB1, ⟨by rw [hx.out]; exact HO1.out⟩⟩
        case measure => simp [intOf]; omega
      · rw [if_neg hno] at hx
        obtain ⟨ad, e1, hc⟩ := Kd.at_bool (Kd.C_below hr.out HB.out) (k : Int) (by omega) (by omega)
        rw [Int.toNat_natCast] at hc
        cases e1
        have i0 : decide ((0 : Int) ≤ (k : Int)) = true := decide_eq_true (by omega)
        generalize rdOf false D0 (k : Int) = r at *
        replace hx := Lib.hid hx
        generalize D.take k = L at *
        by_cases ca : a ≤ (k : Int)
        · have za : decide (a ≤ (k : Int)) = true := decide_eq_true ca
          have zb : decide ((k : Int) < b) = false := decide_eq_false (fun q => hno ⟨ca, q⟩)
          go_wp2_with ((with_reducible refine gate_builtin (b := .append) (xs := #[.tmp 34, .tmp 39]) rfl ?_); at_builtin; refine Kd.R_append Kd.bool (w0 := w) w.heap.size rfl (.tmp 34) (.tmp 39) 42 4 (.bool false) 1 rfl Try.underlying42 info4 rfl (by decide) (by omega) u8 L r [.bool r] (fun k => X < k) (fun _ => False) rfl rfl ?aP (fun _ hk => hk.elim) ?aF ?aO ?aB ?aS ?aL ?_; (case aP => exact rfl); (case aF => exact (fun q hq => Nat.lt_of_lt_of_le hXl hq)); (case aO => exact HO.out); (case aB => exact HB.out); (case aS => exact HB.out.size); (case aL => have := hlen.out; omega); intro v1 w5 ho hb hg hat; have HX1 := Aside0.mk ((hg.block X hXl (fun e => own X (Nat.le_refl _) e.symm)).trans HX.out); have HO1 := Aside0.mk ho; have HB1 := Aside0.mk hb; clear ho hb hg hat)
          go_roundw
          case rel => exact ⟨k + 1, by omega, by go_num, HX1, HB1, ⟨by rw [hx.out]; exact HO1.out⟩⟩
          case measure => simp [intOf]; omega
        · have za : decide (a ≤ (k : Int)) = false := decide_eq_false ca
          go_wp2_with ((with_reducible refine gate_builtin (b := .append) (xs := #[.tmp 34, .tmp 39]) rfl ?_); at_builtin; refine Kd.R_append Kd.bool (w0 := w) w.heap.size rfl (.tmp 34) (.tmp 39) 42 4 (.bool false) 1 rfl Try.underlying42 info4 rfl (by decide) (by omega) u8 L r [.bool r] (fun k => X < k) (fun _ => False) rfl rfl ?aP (fun _ hk => hk.elim) ?aF ?aO ?aB ?aS ?aL ?_; (case aP => exact rfl); (case aF => exact (fun q hq => Nat.lt_of_lt_of_le hXl hq)); (case aO => exact HO.out); (case aB => exact HB.out); (case aS => exact HB.out.size); (case aL => have := hlen.out; omega); intro v1 w5 ho hb hg hat; have HX1 := Aside0.mk ((hg.block X hXl (fun e => own X (Nat.le_refl _) e.symm)).trans HX.out); have HO1 := Aside0.mk ho; have HB1 := Aside0.mk hb; clear ho hb hg hat)
          go_roundw
          case rel => exact ⟨k + 1, by omega, by go_num, HX1, HB1, ⟨by rw [hx.out]; exact HO1.out⟩⟩
          case measure => simp [intOf]; omega
    · obtain rfl : k = 4096 := by omega
      have hfin : ∀ (vv : Value) (ww : World), Kd.R Kd.bool 4 ww w.heap.size (fun k => X < k) vv (D.take 4096) → Below w.heap.size w ww → Aside0 (∃ u, (Ending.returned (.tuple #[vv, .int .i64 0])) = .returned (.tuple #[u, .int .i64 0]) ∧ Kd.R Kd.bool 4 ww w.heap.size (fun _ => True) u D ∧ Below w.heap.size w ww) := fun vv ww h1 h2 => ⟨⟨vv, rfl, by rw [List.take_of_length_le (by rw [h0.out]; omega)] at h1; exact Kd.R_mono h1 (fun _ _ => trivial), h2⟩⟩
      replace hfin := Lib.hid hfin
      go_wp2
      go_ret2
      exact hfin.out _ _ HO.out HB.out
end Go.Proofs.Ytaandjafmmpbkaa.PQ
