/- The next number of a set, walked. -/
import Derived.Test.YtaandjafmmpbkaaCount
import Derived.Outline
namespace Go.Proofs.Ytaandjafmmpbkaa.PQ
open Go.RowKit Go.Proofs.YtaandjafmmpbkaaW.PrintWords Go.Proofs.YtaandjafmmpbkaaW.PrintLast Go.Proofs.YtaandjafmmpbkaaW.PrintMore
set_option linter.unusedVariables false
set_option linter.unusedSimpArgs false
/-- What Next answers, where the place is i. -/
def nextAt (l : List S27) (m : Int) (i : Nat) : Int := if i = l.length then -1 else max m (rd_T27 l i).f0
set_option maxHeartbeats 2000000 in
set_option maxRecDepth 100000 in
theorem next_big (P : Nat) (n : Int) (w : World) (hn : 4096 < n) :
    Calls Try.prog 14 #[.pointer (some ⟨P, 0, none⟩), .int .i64 n] w fun e w' => e = .returned (.int .i64 (-1)) ∧ w' = w := by
  have z := decide_eq_true hn
  clear hn
  go_enter Try.func14, Try.ntmps14
  go_wp2
  go_ret
  exact ⟨rfl, rfl⟩
set_option maxHeartbeats 2000000 in
set_option maxRecDepth 100000 in
theorem next_pos (l : List S27) (P base : Nat) (v : Value) (n lo : Int) (w : World) (H : Aside0 (SetAt l P base v w)) (hS : Aside0 (Sp lo l)) (hlo : -1 ≤ lo) (hlen : l.length ≤ 10000) (hn : n ≤ 4096) (hn0 : 0 < n) :
    Calls Try.prog 14 #[.pointer (some ⟨P, 0, none⟩), .int .i64 n] w fun e w' => Aside0 (∃ i : Nat, e = .returned (.int .i64 (nextAt l n i)) ∧ At l (n + 1) i ∧ Below w.heap.size w w') := by
  have z := decide_eq_false (show ¬ 4096 < n by omega)
  have hC := Lib.hid (at_core l P base v (n + 1) lo w H hS hlen)
  go_enter Try.func14, Try.ntmps14
  go_wp2_with fail
  refine hC.out.mono ?_
  rintro e w2 ⟨⟨i, rfl, hi, hb⟩⟩
  have hi' := Aside0.mk hi
  have hb' := Aside0.mk hb
  have H2 := Aside0.mk (H.out.below hb)
  have hle := hi.le
  clear hi hb hC H
  obtain ⟨A, c, rfl⟩ := H2.out.slice
  have hP := H2.out.head0
  by_cases h : i < l.length
  · obtain ⟨g, rfl, c0, c1⟩ := H2.out.elem i h
    have hne : ((i : Int) == (l.length : Int)) = false := beq_eq_false_iff_ne.2 (by omega)
    have hv0 : nextAt l n i = max n (rd_T27 l i).f0 := if_neg (by omega)
    have b := hS.out.each i h
    generalize (rd_T27 l i).f0 = x0 at *
    generalize (rd_T27 l i).f1 = x1 at *
    by_cases hx : n < x0
    · have hv : Hid (nextAt l n i = x0) := Lib.hid (by rw [hv0]; omega)
      clear hv0
      go_wp2
      go_ret
      exact ⟨⟨i, by rw [hv.out]; rfl, hi'.out, hb'.out⟩⟩
    · have hv : Hid (nextAt l n i = n) := Lib.hid (by rw [hv0]; omega)
      have hx2 : x0 ≤ n := by omega
      clear hv0
      go_wp2
      go_ret
      exact ⟨⟨i, by rw [hv.out]; rfl, hi'.out, hb'.out⟩⟩
  · obtain rfl : i = l.length := by omega
    have hv : Hid (nextAt l n l.length = -1) := Lib.hid (if_pos rfl)
    go_wp2
    go_ret
    exact ⟨⟨l.length, by rw [hv.out]; rfl, hi'.out, hb'.out⟩⟩
set_option maxHeartbeats 2000000 in
set_option maxRecDepth 100000 in
theorem next_neg (l : List S27) (P base : Nat) (v : Value) (n lo : Int) (w : World) (H : Aside0 (SetAt l P base v w)) (hS : Aside0 (Sp lo l)) (hlo : -1 ≤ lo) (hlen : l.length ≤ 10000) (hn0 : n ≤ 0) :
    Calls Try.prog 14 #[.pointer (some ⟨P, 0, none⟩), .int .i64 n] w fun e w' => Aside0 (∃ i : Nat, e = .returned (.int .i64 (nextAt l 0 i)) ∧ At l 1 i ∧ Below w.heap.size w w') := by
  have z := decide_eq_false (show ¬ 4096 < n by omega)
  have hC := Lib.hid (at_core l P base v 1 lo w H hS hlen)
  rcases (show n < 0 ∨ n = 0 by omega) with hn | rfl
  all_goals
    go_enter Try.func14, Try.ntmps14
    go_wp2_with fail
    refine hC.out.mono ?_
    rintro e w2 ⟨⟨i, rfl, hi, hb⟩⟩
    have hi' := Aside0.mk hi
    have hb' := Aside0.mk hb
    have H2 := Aside0.mk (H.out.below hb)
    have hle := hi.le
    clear hi hb hC H
    obtain ⟨A, c, rfl⟩ := H2.out.slice
    have hP := H2.out.head0
    by_cases h : i < l.length
    · obtain ⟨g, rfl, c0, c1⟩ := H2.out.elem i h
      have hne : ((i : Int) == (l.length : Int)) = false := beq_eq_false_iff_ne.2 (by omega)
      have hv0 : nextAt l 0 i = max 0 (rd_T27 l i).f0 := if_neg (by omega)
      have b := hS.out.each i h
      generalize (rd_T27 l i).f0 = x0 at *
      generalize (rd_T27 l i).f1 = x1 at *
      by_cases hx : 0 < x0
      · have hv : Hid (nextAt l 0 i = x0) := Lib.hid (by rw [hv0]; omega)
        clear hv0
        go_wp2
        go_ret
        exact ⟨⟨i, by rw [hv.out]; rfl, hi'.out, hb'.out⟩⟩
      · have hv : Hid (nextAt l 0 i = 0) := Lib.hid (by rw [hv0]; omega)
        have hx2 : x0 ≤ 0 := by omega
        clear hv0
        go_wp2
        go_ret
        exact ⟨⟨i, by rw [hv.out]; rfl, hi'.out, hb'.out⟩⟩
    · obtain rfl : i = l.length := by omega
      have hv : Hid (nextAt l 0 l.length = -1) := Lib.hid (if_pos rfl)
      go_wp2
      go_ret
      exact ⟨⟨l.length, by rw [hv.out]; rfl, hi'.out, hb'.out⟩⟩
theorem next_core (l : List S27) (P base : Nat) (v : Value) (n lo : Int) (w : World) (H : Aside0 (SetAt l P base v w)) (hS : Aside0 (Sp lo l)) (hlo : -1 ≤ lo) (hlen : l.length ≤ 10000) (hn : n ≤ 4096) :
    Calls Try.prog 14 #[.pointer (some ⟨P, 0, none⟩), .int .i64 n] w fun e w' => Aside0 (∃ i : Nat, e = .returned (.int .i64 (nextAt l (max n 0) i)) ∧ At l (max n 0 + 1) i ∧ Below w.heap.size w w') := by
  by_cases h : 0 < n
  · rw [show max n 0 = n by omega]
    exact next_pos l P base v n lo w H hS hlo hlen hn h
  · rw [show max n 0 = 0 by omega]
    exact next_neg l P base v n lo w H hS hlo hlen (by omega)
end Go.Proofs.Ytaandjafmmpbkaa.PQ
