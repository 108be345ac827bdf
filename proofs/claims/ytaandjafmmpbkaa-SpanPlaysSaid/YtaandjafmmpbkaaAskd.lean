/- What is told of a span, walked. -/
import Derived.Test.YtaandjafmmpbkaaRefB
import Derived.Test.YtaandjafmmpbkaaDset
import Derived.Outline
import Derived.OwnWalk
import Derived.Deep.RegionHeld3
import Derived.Deep.DeepCutAuto
namespace Go.Proofs.Ytaandjafmmpbkaa.PQ
open Go.RowKit Go.Proofs.YtaandjafmmpbkaaW.PrintWords Go.Proofs.YtaandjafmmpbkaaW.PrintLast Go.Proofs.YtaandjafmmpbkaaW.PrintMore
set_option linter.unusedVariables false
set_option linter.unusedSimpArgs false
theorem refSpans_calls (g : Int → Bool) (v : Bool) (a b : Int) (h0 : 0 ≤ a) (h1 : a ≤ b) (h2 : b ≤ 4096) (A : Option Addr) (c : Nat) (w : World) (hr : Kd.C Kd.bool w A 4096 (dOf g)) (hc : 4096 ≤ c) :
    Calls Try.prog 25 #[.slice A 4096 c, .int .i64 a, .int .i64 b, .bool v] w fun e w' => Aside0 (∃ u R, e = .returned u ∧ OwnS w' w.heap.size u R ∧ Sp (-1) R ∧ (∀ n : Int, inB R n = true ↔ (a ≤ n ∧ n < b) ∧ g n = v) ∧ Below w.heap.size w w') := by
  obtain ⟨R, e1, e2, e3⟩ := refSpans g v a b h0 h1 h2
  have h := deckleref34_Spans.calls 10000 A c (dOf g) a b v R w (by rw [dOf_len]; exact hr) (by rw [dOf_len]; exact hc) e1
  rw [dOf_len] at h
  refine h.mono ?_
  rintro e w' ⟨u, rfl, q1, q2⟩
  exact ⟨⟨u, R, rfl, ownS q1, e2, e3, q2⟩⟩
theorem len_pos {R L : List S27} {a b : Int} {r : Bool} (hs : Sp (-1) R) (hm : mayB a b = true) (hR : ∀ n : Int, inB R n = true ↔ (a ≤ n ∧ n < b) ∧ inB L n = true) (h : r = true ↔ mayB a b = true ∧ ∃ n, a ≤ n ∧ n < b ∧ inB L n = true) : r = decide (0 < R.length) := by
  rw [Bool.eq_iff_iff, h, decide_eq_true_eq]
  constructor
  · rintro ⟨_, n, q0, q1, q2⟩
    rcases R with _ | ⟨x, R⟩
    · exact absurd ((hR n).2 ⟨⟨q0, q1⟩, q2⟩) (in_nil n)
    · simp only [List.length_cons]; omega
  · intro q
    rcases R with _ | ⟨x, R⟩
    · exact absurd q (by simp)
    · have := (hR x.f0).1 ((in_cons x R x.f0).2 (.inl ⟨Int.le_refl _, hs.2.1⟩))
      exact ⟨hm, _, this.1.1, this.1.2, this.2⟩
theorem len_zero {R L : List S27} {a b : Int} {r : Bool} (hs : Sp (-1) R) (hm : mayB a b = true) (hR : ∀ n : Int, inB R n = true ↔ (a ≤ n ∧ n < b) ∧ inB L n = false) (h : r = true ↔ mayB a b = true ∧ ∀ n, a ≤ n → n < b → inB L n = true) : r = ((R.length : Int) == 0) := by
  rw [Bool.eq_iff_iff, h, beq_iff_eq]
  constructor
  · rintro ⟨_, q⟩
    rw [Sp_none hs (fun n q2 => by have := (hR n).1 q2; rw [q n this.1.1 this.1.2] at this; exact absurd this.2 (by decide))]
    rfl
  · intro q
    refine ⟨hm, fun n q0 q1 => ?_⟩
    rw [← Bool.not_eq_false]
    intro q2
    have := (hR n).2 ⟨⟨q0, q1⟩, q2⟩
    rcases R with _ | ⟨x, R⟩
    · exact in_nil n this
    · simp only [List.length_cons] at q; omega
theorem gap_same {R L G : List S27} {a b : Int} (hs : Sp (-1) R) (hG : Sp (-1) G) (hm : mayB a b = true) (hR : ∀ n : Int, inB R n = true ↔ (a ≤ n ∧ n < b) ∧ inB L n = false) (h : GapP L G a b) : G = R :=
  Sp_uniq hG hs (fun n => by rw [h n, hR n, hm, Bool.not_eq_true]; exact ⟨fun q => ⟨q.1.2, q.2⟩, fun q => ⟨⟨rfl, q.1⟩, q.2⟩⟩)
theorem gap_none {L G : List S27} {a b : Int} (hG : Sp (-1) G) (hm : mayB a b = false) (h : GapP L G a b) : G = [] :=
  Sp_none hG (fun n q => by have := (h n).1 q; rw [hm] at this; exact absurd this.1.1 (by decide))
theorem no_of {a b : Int} {r : Bool} {p : Prop} (hm : mayB a b = false) (h : r = true ↔ mayB a b = true ∧ p) : r = false := by
  rw [← Bool.not_eq_true, h, hm]; exact fun q => absurd q.1 (by decide)
set_option maxHeartbeats 8000000 in
set_option maxRecDepth 100000 in
theorem asks_no (L : List S27) (P : Nat) (a b : Int) (w0 w : World) (d : Value) (H : Aside0 (LawAt L P w0 w)) (hm : Hid (mayB a b = false)) :
    Calls Try.prog 20 #[.pointer (some ⟨P, 0, none⟩), d, .agg #[.int .i64 a, .int .i64 b]] w fun e w' => e = .returned (.bool true) ∧ Below w.heap.size w w' := by
  have hM := fun w => refMay_calls a b w
  rw [hm.out] at hM
  replace hM := Lib.hid hM
  have hb0 := Aside0.mk ((Below.refl w.heap.size w).alloc (Nat.le_refl _) (.cells #[.int .i64 a, .int .i64 b] 27))
  have HX := Aside0.mk (heap_alloc_new w (.cells #[.int .i64 a, .int .i64 b] 27))
  go_enter Try.func20, Try.ntmps20
  go_wp2_with fail
  generalize hW : w.alloc (.cells #[.int .i64 a, .int .i64 b] 27) = W at *
  clear hW
  obtain ⟨X, hX⟩ : ∃ X, X = w.heap.size := ⟨_, rfl⟩
  rw [← hX] at HX ⊢
  have hX' := Lib.hid hX
  clear hX
  refine (hM.out _).mono ?_
  rintro e w1 ⟨rfl, hb⟩
  have B1 := Aside0.mk (hb0.out.trans (hb.mono hb0.out.size))
  have HX1 := Aside0.mk (blk_below HX.out hb)
  have L1 := Aside0.mk (H.out.below B1.out)
  clear hb hM HX hb0
  have d0 := (blk_cell HX1.out 0).trans (rfl : _ = some (Value.int .i64 a))
  have d1 := (blk_cell HX1.out 1).trans (rfl : _ = some (Value.int .i64 b))
  have hC := Lib.hid (law_meets L P a b w0 w1 L1)
  go_wp2_with fail
  refine hC.out.mono ?_
  rintro e w2 ⟨⟨r, rfl, hq, hb⟩⟩
  obtain rfl := no_of hm.out hq
  have B2 := Aside0.mk (B1.out.trans (hb.mono B1.out.size))
  have HX2 := Aside0.mk (blk_below HX1.out hb)
  have L2 := Aside0.mk (H.out.below B2.out)
  clear hb hC hq d0 d1 L1 B1 HX1
  have d0 := (blk_cell HX2.out 0).trans (rfl : _ = some (Value.int .i64 a))
  have d1 := (blk_cell HX2.out 1).trans (rfl : _ = some (Value.int .i64 b))
  have hC := Lib.hid (law_covers L P a b w0 w2 L2)
  go_wp2_with fail
  refine hC.out.mono ?_
  rintro e w3 ⟨⟨r, rfl, hq, hb⟩⟩
  obtain rfl := no_of hm.out hq
  have B3 := Aside0.mk (B2.out.trans (hb.mono B2.out.size))
  have HX3 := Aside0.mk (blk_below HX2.out hb)
  have L3 := Aside0.mk (H.out.below B3.out)
  clear hb hC hq d0 d1 L2 B2 HX2
  have d0 := (blk_cell HX3.out 0).trans (rfl : _ = some (Value.int .i64 a))
  have d1 := (blk_cell HX3.out 1).trans (rfl : _ = some (Value.int .i64 b))
  have hC := Lib.hid (law_gaps L P a b w0 w3 L3)
  go_wp2_with fail
  refine hC.out.mono ?_
  rintro e w4 ⟨⟨u, G, rfl, ho, hs, hq, hb⟩⟩
  obtain rfl := gap_none hs hm.out hq
  have B4 := Aside0.mk (B3.out.trans (hb.mono B3.out.size))
  obtain ⟨A, c, rfl⟩ := Kd.R_slice ho
  clear hb hC hq d0 d1 L3 B3 HX3 ho
  go_wp2
  go_ret
  exact ⟨rfl, B4.out⟩
set_option maxHeartbeats 8000000 in
set_option maxRecDepth 100000 in
theorem asks_yes (L : List S27) (P : Nat) (a b : Int) (w0 w : World) (A : Option Addr) (c : Nat) (H : Aside0 (LawAt L P w0 w)) (hr : Aside0 (Kd.C Kd.bool w A 4096 (dOf (inB L)))) (hc : Hid (4096 ≤ c)) (hm : Hid (mayB a b = true)) :
    Calls Try.prog 20 #[.pointer (some ⟨P, 0, none⟩), .slice A 4096 c, .agg #[.int .i64 a, .int .i64 b]] w fun e w' => e = .returned (.bool true) ∧ Below w.heap.size w w' := by
  have hM := fun w => refMay_calls a b w
  rw [hm.out] at hM
  replace hM := Lib.hid hM
  have hmm : Hid (0 ≤ a ∧ a ≤ b ∧ b ≤ 4096) := Lib.hid (of_decide_eq_true hm.out)
  have hS := Lib.hid fun (v : Bool) (W : World) (hb : Below w.heap.size w W) => refSpans_calls (inB L) v a b hmm.out.1 hmm.out.2.1 hmm.out.2.2 A c W (Kd.C_below hr.out hb) hc.out
  clear hr
  have hb0 := Aside0.mk ((Below.refl w.heap.size w).alloc (Nat.le_refl _) (.cells #[.int .i64 a, .int .i64 b] 27))
  have HX := Aside0.mk (heap_alloc_new w (.cells #[.int .i64 a, .int .i64 b] 27))
  go_enter Try.func20, Try.ntmps20
  go_wp2_with fail
  generalize hW : w.alloc (.cells #[.int .i64 a, .int .i64 b] 27) = W at *
  clear hW
  obtain ⟨X, hX⟩ : ∃ X, X = w.heap.size := ⟨_, rfl⟩
  rw [← hX] at HX ⊢
  have hX' := Lib.hid hX
  clear hX
  refine (hM.out _).mono ?_
  rintro e w1 ⟨rfl, hb⟩
  have B1 := Aside0.mk (hb0.out.trans (hb.mono hb0.out.size))
  have HX1 := Aside0.mk (blk_below HX.out hb)
  clear hb hM HX hb0
  have d0 := (blk_cell HX1.out 0).trans (rfl : _ = some (Value.int .i64 a))
  have d1 := (blk_cell HX1.out 1).trans (rfl : _ = some (Value.int .i64 b))
  have hC := Lib.hid (hS.out true w1 B1.out)
  go_wp2_with fail
  refine hC.out.mono ?_
  rintro e w2 ⟨⟨u, R1, rfl, ho1, hs1, hR1, hb⟩⟩
  have B2 := Aside0.mk (B1.out.trans (hb.mono B1.out.size))
  have HX2 := Aside0.mk (blk_below HX1.out hb)
  obtain ⟨A1, c1, rfl⟩ := Kd.R_slice ho1
  have F1 := Aside0.mk hR1
  have S1 := Aside0.mk hs1
  clear hb hC hR1 hs1 ho1 d0 d1 B1 HX1
  have d0 := (blk_cell HX2.out 0).trans (rfl : _ = some (Value.int .i64 a))
  have d1 := (blk_cell HX2.out 1).trans (rfl : _ = some (Value.int .i64 b))
  have hC := Lib.hid (hS.out false w2 B2.out)
  go_wp2_with fail
  refine hC.out.mono ?_
  rintro e w3 ⟨⟨u, R0, rfl, ho0, hs0, hR0, hb⟩⟩
  have B3 := Aside0.mk (B2.out.trans (hb.mono B2.out.size))
  have HX3 := Aside0.mk (blk_below HX2.out hb)
  obtain ⟨A0, c0, rfl⟩ := Kd.R_slice ho0
  have F0 := Aside0.mk hR0
  have S0 := Aside0.mk hs0
  have O0 := Aside0.mk ho0
  have L3 := Aside0.mk (H.out.below B3.out)
  clear hb hC hR0 hs0 ho0 d0 d1 B2 HX2 hS
  have d0 := (blk_cell HX3.out 0).trans (rfl : _ = some (Value.int .i64 a))
  have d1 := (blk_cell HX3.out 1).trans (rfl : _ = some (Value.int .i64 b))
  have hC := Lib.hid (law_meets L P a b w0 w3 L3)
  go_wp2_with fail
  refine hC.out.mono ?_
  rintro e w4 ⟨⟨r, rfl, hq, hb⟩⟩
  obtain rfl := len_pos S1.out hm.out F1.out hq
  have B4 := Aside0.mk (B3.out.trans (hb.mono B3.out.size))
  have HX4 := Aside0.mk (blk_below HX3.out hb)
  have L4 := Aside0.mk (H.out.below B4.out)
  have O4 := Aside0.mk (Kd.R_below O0.out hb)
  clear hb hC hq d0 d1 L3 B3 HX3 O0 F1 S1
  have d0 := (blk_cell HX4.out 0).trans (rfl : _ = some (Value.int .i64 a))
  have d1 := (blk_cell HX4.out 1).trans (rfl : _ = some (Value.int .i64 b))
  have hC := Lib.hid (law_covers L P a b w0 w4 L4)
  obtain ⟨n0, hn⟩ : ∃ n, R0.length = n := ⟨_, rfl⟩
  rw [hn]
  replace hn := Lib.hid hn
  go_wp2_with fail
  refine hC.out.mono ?_
  rintro e w5 ⟨⟨r, rfl, hq, hb⟩⟩
  have hz0 := len_zero S0.out hm.out F0.out hq
  rw [hn.out] at hz0
  obtain rfl := hz0
  have B5 := Aside0.mk (B4.out.trans (hb.mono B4.out.size))
  have HX5 := Aside0.mk (blk_below HX4.out hb)
  have L5 := Aside0.mk (H.out.below B5.out)
  have O5 := Aside0.mk (Kd.R_below O4.out hb)
  clear hb hC hq d0 d1 L4 B4 HX4 O4
  have d0 := (blk_cell HX5.out 0).trans (rfl : _ = some (Value.int .i64 a))
  have d1 := (blk_cell HX5.out 1).trans (rfl : _ = some (Value.int .i64 b))
  have hC := Lib.hid (law_gaps L P a b w0 w5 L5)
  go_wp2_with fail
  refine hC.out.mono ?_
  rintro e w6 ⟨⟨u, G, rfl, ho, hs, hq, hb⟩⟩
  obtain rfl := gap_same S0.out hs hm.out F0.out hq
  have B6 := Aside0.mk (B5.out.trans (hb.mono B5.out.size))
  have O6 := Aside0.mk (Kd.R_below O5.out hb)
  obtain ⟨A9, c9, rfl⟩ := Kd.R_slice ho
  have hR := Kd.R_reads' ho
  have hR' := Kd.R_reads' O6.out
  obtain rfl := hn.out
  have hS1 := Lib.hid (same_calls G (by have := hs.short; omega) A9 A0 c9 c0 w6 hR.2.2 hR.2.1 hR'.2.2 hR'.2.1)
  clear hb hC hq d0 d1 L5 B5 HX5 ho hs hR hR' O5 O6 F0 S0
  go_wp2_with fail
  refine hS1.out.mono ?_
  rintro e w7 ⟨rfl, hb⟩
  have B7 := Aside0.mk (B6.out.trans (hb.mono B6.out.size))
  clear hb hS1
  go_wp2
  go_ret
  exact ⟨rfl, B7.out⟩
end Go.Proofs.Ytaandjafmmpbkaa.PQ
