/- The example, walked. -/
import Derived.Test.YtihggmhmfocnpaaRank
import Derived.Test.YtihggmhmfocnpaaPQx1
import Derived.Test.YtihggmhmfocnpaaPQx2
namespace Go.Proofs.Ytihggmhmfocnpaa.PQ
open Go.RowKit Go.Proofs.YtihggmhmfocnpaaW.PrintWords Go.Proofs.YtihggmhmfocnpaaW.PrintLast Go.Proofs.YtihggmhmfocnpaaW.PrintMore
set_option linter.unusedVariables false
set_option linter.unusedSimpArgs false
theorem same_l0 (l : List Int) (hl : l.length ≤ 10000) : ∀ (d i : Nat), i + d = l.length → decklebook_SameInts.l0 (d + 1) l l true (i : Int) = some true
  | 0, i, h => by
    rw [decklebook_SameInts.l0, if_pos rfl, if_neg (by omega)]
  | d + 1, i, h => by
    have ih := same_l0 l hl d (i + 1) (by omega)
    have e : ((rd l (i : Int)) == (rd l (i : Int))) = true := beq_iff_eq.2 rfl
    have hw : wrap64 ((i : Int) + 1) = ((i + 1 : Nat) : Int) := by rw [Go.IntWalk.wrap64_in _ ⟨by omega, by omega⟩]; omega
    rw [decklebook_SameInts.l0, if_pos rfl, if_pos (by omega), if_pos (by omega), if_pos (by omega), e, hw]
    exact ih
theorem same_calls (l : List Int) (hl : l.length ≤ 10000) (A0 A1 : Option Addr) (c0 c1 : Nat) (w : World) (hr0 : Kd.C (Kd.int .i64) w A0 l.length l) (hc0 : l.length ≤ c0) (hr1 : Kd.C (Kd.int .i64) w A1 l.length l) (hc1 : l.length ≤ c1) :
    Calls Try.prog 15 #[.slice A0 l.length c0, .slice A1 l.length c1] w fun e w' => e = .returned (.bool true) ∧ Below w.heap.size w w' := by
  refine (decklebook_SameInts.calls (l.length + 1) A0 c0 l A1 c1 l true w hr0 hc0 hr1 hc1 ?_).mono fun e w' h => ⟨h.1, drawn_any h.2⟩
  unfold decklebook_SameInts.f
  rw [beq_iff_eq.2 rfl]
  exact same_l0 l hl l.length 0 (by omega)
section
variable {cs : List Int} {t : Int} {P B c : Nat} {w0 w : World}
theorem Own.hot (h : Own cs t P B c w0 w) (i : Int) : Calls Try.prog 12 #[.pointer (some ⟨P, 0, none⟩), .int .i64 i] w fun e w' => e = .returned (.bool (hotC cs i)) ∧ Aside0 (Own cs t P B c w0 w' ∧ Below w.heap.size w w') :=
  (hot_calls cs t P B c w i ⟨h.at_⟩ ⟨h.ok⟩).mono fun e w' h' => ⟨h'.1, ⟨h.below h'.2, h'.2⟩⟩
theorem Own.count (h : Own cs t P B c w0 w) (i : Int) : Calls Try.prog 10 #[.pointer (some ⟨P, 0, none⟩), .int .i64 i] w fun e w' => e = .returned (.int .i64 (cntC cs i)) ∧ w' = w := count_calls cs t P B c w i ⟨h.at_⟩ ⟨h.ok⟩
theorem Own.total (h : Own cs t P B c w0 w) : Calls Try.prog 17 #[.pointer (some ⟨P, 0, none⟩)] w fun e w' => e = .returned (.int .i64 (sumC cs)) ∧ w' = w := total_calls cs t P B c w ⟨h.at_⟩ ⟨h.ok⟩
theorem Own.rank (h : Own cs t P B c w0 w) (n : Int) : Calls Try.prog 14 #[.pointer (some ⟨P, 0, none⟩), .int .i64 n] w fun e w' => Aside0 (∃ A, e = .returned (.slice A (rankL cs n).length (rankL cs n).length) ∧ Kd.C (Kd.int .i64) w' A (rankL cs n).length (rankL cs n) ∧ Own cs t P B c w0 w' ∧ Below w.heap.size w w') := by
  refine (rank_calls cs t P B c w n ⟨h.at_⟩ ⟨h.ok⟩).mono ?_
  rintro e w' ⟨⟨v, rfl, hb, A, rfl, hc, _⟩⟩
  exact ⟨⟨A, rfl, hc, h.below hb, hb⟩⟩
end
theorem rankL_short {cs : List Int} {t : Int} (h : OkC cs t) (n : Int) : (rankL cs n).length ≤ 4096 := by
  rw [rankL_len]; have := hotN_le cs; have := h.len; omega
theorem works_rank : rankL [1, 0, 3, 0] 9 = [2, 0] := by
  have h : hotN [1, 0, 3, 0] = [0, 2] := by decide
  unfold rankL sortN
  rw [h]
  have h2 : ltN [1, 0, 3, 0] 2 0 = true := by decide
  simp [List.mergeSort, List.MergeSort.Internal.splitInTwo, h2]
  rfl
theorem rank_one (cs : List Int) (x : Nat) (h : hotN cs = [x]) (n : Int) (hn : 1 ≤ n) : rankL cs n = [(x : Int)] := by
  unfold rankL sortN
  rw [h]
  obtain ⟨k, hk⟩ : ∃ k, (max n 0).toNat = k + 1 := ⟨(max n 0).toNat - 1, by omega⟩
  rw [hk]
  simp
theorem below_ex (a b : Int) (hb : 0 < b) (hb2 : b ≤ 100000) : ∃ x, decklebook_Below.f a b = some x ∧ 0 ≤ x ∧ x < b := by
  unfold decklebook_Below.f
  rw [if_neg (by omega)]
  have h1 := Int.tmod_lt_of_pos a hb
  have h2 : -b < Int.tmod a b := by have := Int.lt_tmod_of_pos a hb; omega
  by_cases h : Int.tmod a b < 0
  · rw [if_pos h]
    exact ⟨_, rfl, by rw [Go.IntWalk.wrap64_in _ ⟨by omega, by omega⟩]; omega, by rw [Go.IntWalk.wrap64_in _ ⟨by omega, by omega⟩]; omega⟩
  · rw [if_neg h]
    exact ⟨_, rfl, by omega, by omega⟩
theorem below_calls (a b : Int) (hb : 0 < b) (hb2 : b ≤ 100000) : ∃ x : Nat, (x : Int) < b ∧ ∀ w, Calls Try.prog 20 #[.int .i64 a, .int .i64 b] w fun e w' => e = .returned (.int .i64 (x : Int)) ∧ Below w.heap.size w w' := by
  obtain ⟨x, h1, h2, h3⟩ := below_ex a b hb hb2
  obtain ⟨k, rfl⟩ := Int.eq_ofNat_of_zero_le h2
  exact ⟨k, h3, fun w => (decklebook_Below.calls a b (k : Int) w h1).mono fun e w' h => ⟨h.1, drawn_any h.2⟩⟩
set_option maxHeartbeats 8000000 in
set_option maxRecDepth 100000 in
theorem works_calls (w : World) : Calls Try.prog 7 #[] w fun e w' => e = .returned (.bool true) ∧ Below w.heap.size w w' := by
  have hN := Lib.hid (new_calls 4 w (by decide) (by decide))
  go_enter Try.func7, Try.ntmps7
  go_wp2_with fail
  refine hN.out.mono ?_
  rintro e w1 ⟨⟨P, B, c, rfl, hO⟩⟩
  have O1 : Aside0 (Own [0, 0, 0, 0] 0 P B c w w1) := ⟨hO⟩
  clear hO hN
  have hC := Lib.hid (O1.out.touch 2 (by decide))
  go_wp2_with fail
  refine hC.out.mono ?_
  rintro e w2 ⟨rfl, ⟨hO, _⟩⟩
  have O2 : Aside0 (Own [0, 0, 1, 0] 1 P B c w w2) := ⟨hO⟩
  clear hO hC O1
  have hC := Lib.hid (O2.out.touch 0 (by decide))
  go_wp2_with fail
  refine hC.out.mono ?_
  rintro e w3 ⟨rfl, ⟨hO, _⟩⟩
  have O3 : Aside0 (Own [1, 0, 1, 0] 2 P B c w w3) := ⟨hO⟩
  clear hO hC O2
  have hC := Lib.hid (O3.out.touch 2 (by decide))
  go_wp2_with fail
  refine hC.out.mono ?_
  rintro e w4 ⟨rfl, ⟨hO, _⟩⟩
  have O4 : Aside0 (Own [1, 0, 2, 0] 3 P B c w w4) := ⟨hO⟩
  clear hO hC O3
  have hC := Lib.hid (O4.out.touch 2 (by decide))
  go_wp2_with fail
  refine hC.out.mono ?_
  rintro e w5 ⟨rfl, ⟨hO, _⟩⟩
  have O5 : Aside0 (Own [1, 0, 3, 0] 4 P B c w w5) := ⟨hO⟩
  clear hO hC O4
  have hC := Lib.hid (touch_no [1, 0, 3, 0] 4 P B c w5 4 ⟨O5.out.at_⟩ (by decide))
  go_wp2_with fail
  refine hC.out.mono ?_
  rintro e w6 ⟨rfl, rfl⟩
  clear hC
  have hC := O5.out.rank 9
  rw [works_rank] at hC
  replace hC := Lib.hid hC
  go_wp2_with fail
  refine hC.out.mono ?_
  rintro e w7 ⟨⟨A, rfl, hr, hO, _⟩⟩
  have O7 := Aside0.mk hO
  have hr7 := Aside0.mk hr
  clear hO hr hC O5
  have hS := Lib.hid (same_calls [2, 0] (by decide) A (some ⟨w7.heap.size, 0, none⟩) 2 2 (w7.alloc (.cells #[.int .i64 2, .int .i64 0] 3)) (Kd.C_alloc hr7.out _) (by decide) (C_cells (by decide) (fun k hk => by
    have h2 : k < 2 := hk
    rcases (show k = 0 ∨ k = 1 by omega) with rfl | rfl
    · exact (blk_cell (blk_new w7 _) 0).trans rfl
    · exact (blk_cell (blk_new w7 _) 1).trans rfl)) (by decide))
  go_wp2_with fail
  refine hS.out.mono ?_
  rintro e w8 ⟨rfl, hb⟩
  have O8 := Aside0.mk (O7.out.below (((Below.refl _ _).alloc (Nat.le_refl _) _).trans (hb.mono ((Below.refl w7.heap.size w7).alloc (Nat.le_refl _) _).size)))
  clear hb hS O7 hr7
  have hC := O8.out.hot 2
  rw [show hotC [1, 0, 3, 0] 2 = true by decide] at hC
  replace hC := Lib.hid hC
  go_wp2_with fail
  refine hC.out.mono ?_
  rintro e w9 ⟨rfl, ⟨hO, _⟩⟩
  have O9 := Aside0.mk hO
  clear hO hC O8
  have hC := O9.out.hot 0
  rw [show hotC [1, 0, 3, 0] 0 = false by decide] at hC
  replace hC := Lib.hid hC
  go_wp2_with fail
  refine hC.out.mono ?_
  rintro e w10 ⟨rfl, ⟨hO, _⟩⟩
  have O10 := Aside0.mk hO
  clear hO hC O9
  have hC := O10.out.total
  rw [show sumC [1, 0, 3, 0] = 4 by decide] at hC
  replace hC := Lib.hid hC
  go_wp2_with fail
  refine hC.out.mono ?_
  rintro e w11 ⟨rfl, rfl⟩
  clear hC
  have hC := O10.out.count 2
  rw [show cntC [1, 0, 3, 0] 2 = 3 by decide] at hC
  replace hC := Lib.hid hC
  go_wp2_with fail
  refine hC.out.mono ?_
  rintro e w12 ⟨rfl, rfl⟩
  clear hC
  go_wp2
  go_ret
  exact ⟨rfl, O10.out.bel⟩
end Go.Proofs.Ytihggmhmfocnpaa.PQ
