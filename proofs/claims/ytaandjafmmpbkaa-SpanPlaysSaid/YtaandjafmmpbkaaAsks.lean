/- Meets, Covers and Has, walked. -/
import Derived.Test.YtaandjafmmpbkaaNext
import Derived.Test.YtaandjafmmpbkaaGaps
import Derived.Test.YtaandjafmmpbkaaRemove
import Derived.Outline
import Derived.OwnWalk
namespace Go.Proofs.Ytaandjafmmpbkaa.PQ
open Go.RowKit Go.Proofs.YtaandjafmmpbkaaW.PrintWords Go.Proofs.YtaandjafmmpbkaaW.PrintLast Go.Proofs.YtaandjafmmpbkaaW.PrintMore
set_option linter.unusedVariables false
set_option linter.unusedSimpArgs false
set_option maxHeartbeats 2000000 in
set_option maxRecDepth 100000 in
theorem meets_no (P : Nat) (a b : Int) (w : World) (h : ¬ (0 ≤ a ∧ a ≤ b ∧ b ≤ 4096)) :
    Calls Try.prog 16 #[.pointer (some ⟨P, 0, none⟩), .agg #[.int .i64 a, .int .i64 b]] w fun e w' => e = .returned (.bool false) ∧ Below w.heap.size w w' := by
  have hM := fun w => may_calls a b w
  rw [show mayB a b = false from decide_eq_false h] at hM
  have hM' := Lib.hid hM
  have hb0 := Aside0.mk ((Below.refl w.heap.size w).alloc (Nat.le_refl _) (.cells #[.int .i64 a, .int .i64 b] 27))
  clear hM h
  go_enter Try.func16, Try.ntmps16
  go_wp2_with fail
  generalize w.alloc (.cells #[.int .i64 a, .int .i64 b] 27) = W at *
  refine (hM'.out _).mono ?_
  rintro e w1 ⟨rfl, hb⟩
  have hb1 := Aside0.mk (hb0.out.trans (hb.mono hb0.out.size))
  clear hb hM'
  go_wp2
  go_ret
  exact ⟨rfl, hb1.out⟩
set_option maxHeartbeats 2000000 in
set_option maxRecDepth 100000 in
theorem meets_empty (P : Nat) (a : Int) (w : World) (h : 0 ≤ a ∧ a ≤ 4096) :
    Calls Try.prog 16 #[.pointer (some ⟨P, 0, none⟩), .agg #[.int .i64 a, .int .i64 a]] w fun e w' => e = .returned (.bool false) ∧ Below w.heap.size w w' := by
  have hM := fun w => may_calls a a w
  have hE := fun w => empty_calls a a w
  rw [show mayB a a = true from decide_eq_true ⟨h.1, Int.le_refl _, h.2⟩] at hM
  rw [decide_eq_true (Int.le_refl a)] at hE
  have hM' := Lib.hid hM
  have hE' := Lib.hid hE
  have hb0 := Aside0.mk ((Below.refl w.heap.size w).alloc (Nat.le_refl _) (.cells #[.int .i64 a, .int .i64 a] 27))
  have HX := Aside0.mk (heap_alloc_new w (.cells #[.int .i64 a, .int .i64 a] 27))
  clear hM h hE
  go_enter Try.func16, Try.ntmps16
  go_wp2_with fail
  generalize w.alloc (.cells #[.int .i64 a, .int .i64 a] 27) = W at *
  refine (hM'.out _).mono ?_
  rintro e w1 ⟨rfl, hb⟩
  have hb1 := Aside0.mk (hb0.out.trans (hb.mono hb0.out.size))
  have HX1 := Aside0.mk (blk_below HX.out hb)
  have d0 := (blk_cell HX1.out 0).trans (rfl : _ = some (Value.int .i64 a))
  have d1 := (blk_cell HX1.out 1).trans (rfl : _ = some (Value.int .i64 a))
  clear hb hM' HX hb0
  go_wp2_with fail
  refine (hE'.out _).mono ?_
  rintro e w2 ⟨rfl, hb⟩
  have hb2 := Aside0.mk (hb1.out.trans (hb.mono hb1.out.size))
  clear hb hE'
  go_wp2
  go_ret
  exact ⟨rfl, hb2.out⟩
set_option maxHeartbeats 2000000 in
set_option maxRecDepth 100000 in
theorem covers_no (P : Nat) (a b : Int) (w : World) (h : ¬ (0 ≤ a ∧ a ≤ b ∧ b ≤ 4096)) :
    Calls Try.prog 15 #[.pointer (some ⟨P, 0, none⟩), .agg #[.int .i64 a, .int .i64 b]] w fun e w' => e = .returned (.bool false) ∧ Below w.heap.size w w' := by
  have hM := fun w => may_calls a b w
  rw [show mayB a b = false from decide_eq_false h] at hM
  have hM' := Lib.hid hM
  have hb0 := Aside0.mk ((Below.refl w.heap.size w).alloc (Nat.le_refl _) (.cells #[.int .i64 a, .int .i64 b] 27))
  clear hM h
  go_enter Try.func15, Try.ntmps15
  go_wp2_with fail
  generalize w.alloc (.cells #[.int .i64 a, .int .i64 b] 27) = W at *
  refine (hM'.out _).mono ?_
  rintro e w1 ⟨rfl, hb⟩
  have hb1 := Aside0.mk (hb0.out.trans (hb.mono hb0.out.size))
  clear hb hM'
  go_wp2
  go_ret
  exact ⟨rfl, hb1.out⟩
set_option maxHeartbeats 2000000 in
set_option maxRecDepth 100000 in
theorem meets_core (l : List S27) (P base : Nat) (v : Value) (a b : Int) (lo : Int) (w : World) (H : Aside0 (SetAt l P base v w)) (hS : Aside0 (Sp lo l)) (hlo : -1 ≤ lo) (hlen : l.length ≤ 10000) (ha : 0 ≤ a) (hab : a < b) (hb4 : b ≤ 4096) :
    Calls Try.prog 16 #[.pointer (some ⟨P, 0, none⟩), .agg #[.int .i64 a, .int .i64 b]] w fun e w' => Aside0 (∃ i, e = .returned (.bool (decide (0 ≤ nextAt l a i) && decide (nextAt l a i < b))) ∧ At l (a + 1) i ∧ Below w.heap.size w w') := by
  have hM := fun w => may_calls a b w
  have hE := fun w => empty_calls a b w
  rw [show mayB a b = true from decide_eq_true ⟨ha, by omega, hb4⟩] at hM
  rw [decide_eq_false (show ¬ b ≤ a by omega)] at hE
  have hM' := Lib.hid hM
  have hE' := Lib.hid hE
  have hb0 := Aside0.mk ((Below.refl w.heap.size w).alloc (Nat.le_refl _) (.cells #[.int .i64 a, .int .i64 b] 27))
  have HX := Aside0.mk (heap_alloc_new w (.cells #[.int .i64 a, .int .i64 b] 27))
  clear hM hE
  go_enter Try.func16, Try.ntmps16
  go_wp2_with fail
  generalize hW : w.alloc (.cells #[.int .i64 a, .int .i64 b] 27) = W at *
  clear hW
  obtain ⟨X, hX⟩ : ∃ X, X = w.heap.size := ⟨_, rfl⟩
  rw [← hX] at HX ⊢
  have hX' := Lib.hid hX
  clear hX
  refine (hM'.out _).mono ?_
  rintro e w1 ⟨rfl, hb⟩
  have hb1 := Aside0.mk (hb0.out.trans (hb.mono hb0.out.size))
  have HX1 := Aside0.mk (blk_below HX.out hb)
  have d0 := (blk_cell HX1.out 0).trans (rfl : _ = some (Value.int .i64 a))
  have d1 := (blk_cell HX1.out 1).trans (rfl : _ = some (Value.int .i64 b))
  clear hb hM' HX hb0
  go_wp2_with fail
  refine (hE'.out _).mono ?_
  rintro e w2 ⟨rfl, hb⟩
  have hb2 := Aside0.mk (hb1.out.trans (hb.mono hb1.out.size))
  have HX2 := Aside0.mk (blk_below HX1.out hb)
  have H2 := Aside0.mk (H.out.below hb2.out)
  clear d0 d1 hb hE' hb1 HX1
  clear w1 W
  have d0 := (blk_cell HX2.out 0).trans (rfl : _ = some (Value.int .i64 a))
  have d1 := (blk_cell HX2.out 1).trans (rfl : _ = some (Value.int .i64 b))
  have hC := Lib.hid (next_core l P base v a lo w2 H2 hS hlo hlen (by omega))
  rw [show max a 0 = a by omega] at hC
  go_wp2_with fail
  refine hC.out.mono ?_
  rintro e w3 ⟨⟨i, rfl, hi, hb⟩⟩
  have HX3 := Aside0.mk (blk_below HX2.out hb)
  clear d0 d1 HX2
  have d1 := (blk_cell HX3.out 1).trans (rfl : _ = some (Value.int .i64 b))
  have hfin : Aside0 (∃ i', (decide (0 ≤ nextAt l a i) && decide (nextAt l a i < b)) = (decide (0 ≤ nextAt l a i') && decide (nextAt l a i' < b)) ∧ At l (a + 1) i' ∧ Below w.heap.size w w3) := ⟨⟨i, rfl, hi, hb2.out.trans (hb.mono hb2.out.size)⟩⟩
  clear hi hb hb2 H2 hC
  generalize nextAt l a i = x at *
  by_cases h0 : 0 ≤ x
  · have z0 : decide (0 ≤ x) = true := decide_eq_true h0
    go_wp2
    go_ret
    obtain ⟨⟨i', e, h⟩⟩ := hfin
    exact ⟨⟨i', by rw [← e, z0]; rfl, h⟩⟩
  · have z0 : decide (0 ≤ x) = false := decide_eq_false h0
    go_wp2
    go_ret
    obtain ⟨⟨i', e, h⟩⟩ := hfin
    exact ⟨⟨i', by rw [← e, z0]; rfl, h⟩⟩
set_option maxHeartbeats 2000000 in
set_option maxRecDepth 100000 in
theorem covers_empty (P : Nat) (a : Int) (w : World) (h : 0 ≤ a ∧ a ≤ 4096) :
    Calls Try.prog 15 #[.pointer (some ⟨P, 0, none⟩), .agg #[.int .i64 a, .int .i64 a]] w fun e w' => e = .returned (.bool true) ∧ Below w.heap.size w w' := by
  have hM := fun w => may_calls a a w
  rw [show mayB a a = true from decide_eq_true ⟨h.1, Int.le_refl _, h.2⟩] at hM
  have hM' := Lib.hid hM
  have hG := Lib.hid fun w => gaps_empty P a w h
  have hb0 := Aside0.mk ((Below.refl w.heap.size w).alloc (Nat.le_refl _) (.cells #[.int .i64 a, .int .i64 a] 27))
  have HX := Aside0.mk (heap_alloc_new w (.cells #[.int .i64 a, .int .i64 a] 27))
  clear hM h
  go_enter Try.func15, Try.ntmps15
  go_wp2_with fail
  generalize w.alloc (.cells #[.int .i64 a, .int .i64 a] 27) = W at *
  refine (hM'.out _).mono ?_
  rintro e w1 ⟨rfl, hb⟩
  have hb1 := Aside0.mk (hb0.out.trans (hb.mono hb0.out.size))
  have HX1 := Aside0.mk (blk_below HX.out hb)
  have d0 := (blk_cell HX1.out 0).trans (rfl : _ = some (Value.int .i64 a))
  have d1 := (blk_cell HX1.out 1).trans (rfl : _ = some (Value.int .i64 a))
  clear hb hM' HX hb0
  go_wp2_with fail
  refine (hG.out _).mono ?_
  rintro e w2 ⟨rfl, hb⟩
  have hb2 := Aside0.mk (hb1.out.trans (hb.mono hb1.out.size))
  clear hb hG
  go_wp2
  go_ret
  exact ⟨rfl, hb2.out⟩
set_option maxHeartbeats 2000000 in
set_option maxRecDepth 100000 in
theorem covers_core (l : List S27) (P base : Nat) (v : Value) (a b : Int) (lo : Int) (w : World) (H : Aside0 (SetAt l P base v w)) (hS : Aside0 (Sp lo l)) (hlo : -1 ≤ lo) (hlen : l.length ≤ 10000) (ha : 0 ≤ a) (hab : a < b) (hb4 : b ≤ 4096) :
    Calls Try.prog 15 #[.pointer (some ⟨P, 0, none⟩), .agg #[.int .i64 a, .int .i64 b]] w fun e w' => Aside0 (∃ i, e = .returned (.bool (decide ((gapL l a b i).length = 0))) ∧ At l (a + 1) i ∧ Below w.heap.size w w') := by
  have hM := fun w => may_calls a b w
  rw [show mayB a b = true from decide_eq_true ⟨ha, by omega, hb4⟩] at hM
  have hM' := Lib.hid hM
  have hb0 := Aside0.mk ((Below.refl w.heap.size w).alloc (Nat.le_refl _) (.cells #[.int .i64 a, .int .i64 b] 27))
  have HX := Aside0.mk (heap_alloc_new w (.cells #[.int .i64 a, .int .i64 b] 27))
  clear hM
  go_enter Try.func15, Try.ntmps15
  go_wp2_with fail
  generalize w.alloc (.cells #[.int .i64 a, .int .i64 b] 27) = W at *
  refine (hM'.out _).mono ?_
  rintro e w1 ⟨rfl, hb⟩
  have hb1 := Aside0.mk (hb0.out.trans (hb.mono hb0.out.size))
  have HX1 := Aside0.mk (blk_below HX.out hb)
  have H1 := Aside0.mk (H.out.below hb1.out)
  have d0 := (blk_cell HX1.out 0).trans (rfl : _ = some (Value.int .i64 a))
  have d1 := (blk_cell HX1.out 1).trans (rfl : _ = some (Value.int .i64 b))
  have hG := Lib.hid (gaps_core l P base v a b lo w1 H1 hS hlo hlen ha hab hb4)
  clear hb hM' HX hb0
  go_wp2_with fail
  refine hG.out.mono ?_
  rintro e w2 ⟨⟨i, u, rfl, hi, ho, hb⟩⟩
  have hb2 := Aside0.mk (hb1.out.trans (hb.mono hb1.out.size))
  obtain ⟨A, c, rfl⟩ := Kd.R_slice ho
  have hi' := Aside0.mk hi
  clear hb hG hi ho H1 HX1 d0 d1
  generalize hL : (gapL l a b i).length = n
  replace hL := Lib.hid hL
  by_cases hz : n = 0
  · subst hz
    go_wp2
    go_ret
    exact ⟨⟨i, by rw [hL.out]; rfl, hi'.out, hb2.out⟩⟩
  · have z : ((n : Int) == 0) = false := beq_eq_false_iff_ne.2 (by omega)
    go_wp2
    go_ret
    exact ⟨⟨i, by rw [hL.out]; simp [hz], hi'.out, hb2.out⟩⟩
/-- Is a number in one of the spans? -/
def inB (l : List S27) (n : Int) : Bool := l.any fun x => decide (x.f0 ≤ n) && decide (n < x.f1)
theorem in_iff : ∀ (l : List S27) (n : Int), inB l n = true ↔ ∃ k : Nat, k < l.length ∧ (rd_T27 l k).f0 ≤ n ∧ n < (rd_T27 l k).f1
  | [], n => by simp [inB]
  | x :: l, n => by
    have ih := in_iff l n
    unfold inB at ih ⊢
    rw [List.any_cons, Bool.or_eq_true, ih]
    constructor
    · rintro (h | ⟨k, hk, h⟩)
      · (rw [Bool.and_eq_true, decide_eq_true_eq, decide_eq_true_eq] at h; exact ⟨0, by simp, h⟩)
      · exact ⟨k + 1, by simpa using hk, by rw [rd27_s]; exact h⟩
    · rintro ⟨k, hk, h⟩
      rcases k with _ | k
      · (left; rw [Bool.and_eq_true, decide_eq_true_eq, decide_eq_true_eq]; exact h)
      · exact .inr ⟨k, by simpa using hk, by rw [rd27_s] at h; exact h⟩
theorem next_in {l : List S27} {lo n : Int} {i : Nat} (hS : Sp lo l) (hlo : -1 ≤ lo) (hi : At l (n + 1) i) (hn : 0 ≤ n) : decide (nextAt l n i = n) = inB l n := by
  rw [Bool.eq_iff_iff, decide_eq_true_eq, in_iff]
  unfold nextAt
  by_cases h : i = l.length
  · rw [if_pos h]
    constructor
    · intro e; omega
    · rintro ⟨k, hk, h0, h1⟩
      have := hi.lo k (by omega)
      omega
  · rw [if_neg h]
    have hl := hi.le
    have h2 := hi.hi i (Nat.le_refl _) (by omega)
    constructor
    · intro e
      exact ⟨i, by omega, by omega, by omega⟩
    · rintro ⟨k, hk, h0, h1⟩
      have : i ≤ k := by
        rcases Nat.lt_or_ge k i with c | c
        · have := hi.lo k c; omega
        · exact c
      have h3 : (rd_T27 l i).f0 ≤ (rd_T27 l k).f0 := by
        rcases Nat.lt_or_ge i k with c | c
        · have h4 := hS.mono i k c hk
          have h5 := hS.each i (by omega)
          omega
        · obtain rfl : i = k := by omega
          exact Int.le_refl _
      omega
set_option maxHeartbeats 2000000 in
set_option maxRecDepth 100000 in
theorem has_core (l : List S27) (P base : Nat) (v : Value) (n lo : Int) (w : World) (H : Aside0 (SetAt l P base v w)) (hS : Aside0 (Sp lo l)) (hlo : -1 ≤ lo) (hlen : l.length ≤ 10000) :
    Calls Try.prog 12 #[.pointer (some ⟨P, 0, none⟩), .int .i64 n] w fun e w' => e = .returned (.bool (inB l n)) ∧ Below w.heap.size w w' := by
  have hneg : n < 0 → inB l n = false := fun h => by
    rw [← Bool.not_eq_true, in_iff]
    rintro ⟨k, hk, h0, _⟩
    have := hS.out.each k hk
    omega
  have hbig : 4096 < n → inB l n = false := fun h => by
    rw [← Bool.not_eq_true, in_iff]
    rintro ⟨k, hk, h0, _⟩
    have := hS.out.each k hk
    omega
  by_cases h0 : n < 0
  · have z : decide (0 ≤ n) = false := decide_eq_false (by omega)
    have he := Lib.hid (hneg h0)
    clear hneg hbig
    go_enter Try.func12, Try.ntmps12
    go_wp2
    go_ret
    exact ⟨by rw [he.out]; rfl, Below.refl _ _⟩
  · have z : decide (0 ≤ n) = true := decide_eq_true (by omega)
    by_cases h1 : 4096 < n
    · have he := Lib.hid (hbig h1)
      have hC := Lib.hid (next_big P n w h1)
      have z2 : ((-1 : Int) == n) = false := beq_eq_false_iff_ne.2 (by omega)
      clear hneg hbig
      go_enter Try.func12, Try.ntmps12
      go_wp2_with fail
      refine hC.out.mono ?_
      rintro e w2 ⟨rfl, rfl⟩
      go_wp2
      go_ret
      exact ⟨by rw [he.out]; rfl, Below.refl _ _⟩
    · have hC := next_core l P base v n lo w H hS hlo hlen (by omega)
      rw [show max n 0 = n by omega] at hC
      replace hC := Lib.hid hC
      clear hneg hbig
      go_enter Try.func12, Try.ntmps12
      go_wp2_with fail
      refine hC.out.mono ?_
      rintro e w2 ⟨⟨i, rfl, hi, hb⟩⟩
      have he := Lib.hid (next_in hS.out hlo hi (by omega))
      have hb' := Aside0.mk hb
      clear hi hb hC
      generalize nextAt l n i = x at *
      by_cases hx : x = n
      · have z3 : (x == n) = true := beq_iff_eq.2 hx
        go_wp2
        go_ret
        exact ⟨by rw [← he.out, decide_eq_true hx]; rfl, hb'.out⟩
      · have z3 : (x == n) = false := beq_eq_false_iff_ne.2 hx
        go_wp2
        go_ret
        exact ⟨by rw [← he.out, decide_eq_false hx]; rfl, hb'.out⟩
end Go.Proofs.Ytaandjafmmpbkaa.PQ
