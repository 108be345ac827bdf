/- The law HeatAlone: its function answers true. -/
import Derived.Test.YtihggmhmfocnpaaWorks
namespace Go.Proofs.Ytihggmhmfocnpaa.PQ
open Go.RowKit Go.Proofs.YtihggmhmfocnpaaW.PrintWords Go.Proofs.YtihggmhmfocnpaaW.PrintLast Go.Proofs.YtihggmhmfocnpaaW.PrintMore
set_option linter.unusedVariables false
set_option linter.unusedSimpArgs false
/-- Counts of which one alone is above 0. -/
def one (n x : Nat) (v : Int) : List Int := (List.replicate n 0).set x v
theorem one_len (n x : Nat) (v : Int) : (one n x v).length = n := by unfold one; simp
theorem one_zero (n x : Nat) : one n x 0 = List.replicate n 0 := by
  unfold one
  apply List.ext_getElem
  · simp
  · intro i h1 h2
    rw [List.getElem_set]
    simp
theorem one_rd (n x : Nat) (v : Int) (i : Nat) (hi : i < n) : rd (one n x v) (i : Int) = if i = x then v else 0 := by
  rw [rd_get (by rw [one_len]; exact hi)]
  unfold one
  rw [List.getElem_set]
  by_cases h : x = i
  · rw [if_pos h, if_pos h.symm]
  · rw [if_neg h, if_neg (fun e => h e.symm), List.getElem_replicate]
theorem half_one (n x : Nat) (v : Int) : half (one n x v) = one n x (v / 2) := by
  unfold half one
  rw [List.map_set, List.map_replicate]
  rfl
theorem touch_one (n x : Nat) (v t : Int) (hx : x < n) : touchC (one n x v) t x = if t + 1 = 8 * (n : Int) then (one n x ((if v < 255 then v + 1 else v) / 2), 0) else (one n x (if v < 255 then v + 1 else v), t + 1) := by
  have h1 : touch1 (one n x v) x = one n x (if v < 255 then v + 1 else v) := by
    unfold touch1
    rw [one_rd n x v x hx, if_pos rfl]
    by_cases h : v < 255
    · rw [if_pos h, if_pos h]; unfold one; rw [List.set_set]
    · rw [if_neg h, if_neg h]
  unfold touchC
  rw [h1, one_len, half_one]
theorem sumC_rep : ∀ n : Nat, sumC (List.replicate n 0) = 0
  | 0 => rfl
  | n + 1 => by rw [List.replicate_succ, sumC, sumC_rep n]; rfl
theorem sumC_one : ∀ (n x : Nat) (v : Int), x < n → sumC (one n x v) = v
  | 0, _, _, h => absurd h (by omega)
  | n + 1, 0, v, _ => by
    unfold one
    rw [List.replicate_succ, List.set_cons_zero, sumC, sumC_rep, Int.add_zero]
  | n + 1, x + 1, v, h => by
    have ih := sumC_one n x v (by omega)
    unfold one at ih ⊢
    rw [List.replicate_succ, List.set_cons_succ, sumC, ih, Int.zero_add]
theorem filter_eq (x : Nat) : ∀ n : Nat, (List.range n).filter (fun i => decide (i = x)) = if x < n then [x] else []
  | 0 => by simp
  | n + 1 => by
    rw [List.range_succ, List.filter_append, filter_eq x n]
    by_cases h : x < n
    · have h2 : ¬ (n = x) := by omega
      rw [if_pos h, if_pos (by omega), List.filter_cons, if_neg (by simpa using h2)]; rfl
    · by_cases h2 : n = x
      · rw [if_neg h, if_pos (by omega), List.filter_cons, if_pos (by simpa using h2), h2]; rfl
      · rw [if_neg h, if_neg (by omega), List.filter_cons, if_neg (by simpa using h2)]; rfl
theorem hotN_one (n x : Nat) (v : Int) (hx : x < n) (hv : 0 < v) : hotN (one n x v) = [x] := by
  have h := filter_eq x n
  rw [if_pos hx] at h
  rw [← h]
  unfold hotN
  rw [one_len]
  apply List.filter_congr
  intro i hi
  have hi' := List.mem_range.1 hi
  rw [one_rd n x v i hi']
  by_cases e : i = x
  · rw [if_pos e]; simp [e, hv]
  · rw [if_neg e]; simp [e]
theorem cnt_one (n x : Nat) (v : Int) (hx : x < n) : cntC (one n x v) (x : Int) = v := by
  unfold cntC
  rw [if_pos ⟨by omega, by rw [one_len]; omega⟩, one_rd n x v x hx, if_pos rfl]
theorem hot_one (n x : Nat) (v : Int) (hx : x < n) (hv : 0 < v) (hn : 3 ≤ n) : hotC (one n x v) (x : Int) = true := by
  unfold hotC
  rw [cnt_one n x v hx, sumC_one n x v hx, one_len]
  refine decide_eq_true ⟨hv, ?_⟩
  have : v * 3 ≤ v * (n : Int) := Int.mul_le_mul_of_nonneg_left (by omega) (by omega)
  omega
/-- What the loop keeps: the one count is not nothing, nor less than the touches since. -/
structure AP (n x k : Nat) (v t : Int) : Prop where
  v0 : 0 ≤ v ∧ v ≤ 255
  vt : (2 ≤ v ∨ t ≤ v) ∧ 0 ≤ t
  vk : k = 0 ∨ 1 ≤ v
theorem AP.next {n x k : Nat} {v t : Int} (h : AP n x k v t) (hn : 3 ≤ n) (hx : x < n) : ∃ v' t', touchC (one n x v) t x = (one n x v', t') ∧ AP n x (k + 1) v' t' := by
  rw [touch_one n x v t hx]
  obtain ⟨⟨a1, a2⟩, ⟨b1, b2⟩, c⟩ := h
  by_cases e : t + 1 = 8 * (n : Int)
  · rw [if_pos e]
    refine ⟨_, _, rfl, ?_, ?_, ?_⟩
    · split <;> omega
    · split <;> omega
    · right
      split <;> omega
  · rw [if_neg e]
    refine ⟨_, _, rfl, ?_, ?_, ?_⟩
    · split <;> omega
    · split <;> omega
    · right
      split <;> omega
set_option maxHeartbeats 8000000 in
set_option maxRecDepth 100000 in
theorem heatAlone_walk (a0 a1 a2 : Int) (w : World) (w0 : (Lit.int .i64 a0).wf = true) (w1 : (Lit.int .i64 a1).wf = true) (w2 : (Lit.int .i64 a2).wf = true) : Calls Try.prog 5 #[.int .i64 a0, .int .i64 a1, .int .i64 a2] w fun e w' => e = .returned (.bool true) ∧ Below w.heap.size w w' := by
  clear w0 w1 w2
  have hW := Lib.hid (works_calls w)
  obtain ⟨b0, hb0, q0⟩ := below_calls a0 30 (by decide) (by decide)
  obtain ⟨x, hx, q1⟩ := below_calls a1 ((3 + b0 : Nat) : Int) (by omega) (by omega)
  obtain ⟨b2, hb2, q2⟩ := below_calls a2 1000 (by decide) (by decide)
  have e3 : wrap64 (3 + (b0 : Int)) = ((3 + b0 : Nat) : Int) := by rw [Go.IntWalk.wrap64_in _ ⟨by omega, by omega⟩]; omega
  have e4 : wrap64 (1 + (b2 : Int)) = ((1 + b2 : Nat) : Int) := by rw [Go.IntWalk.wrap64_in _ ⟨by omega, by omega⟩]; omega
  replace q0 := Lib.hid q0
  replace q1 := Lib.hid q1
  replace q2 := Lib.hid q2
  obtain ⟨n, hn⟩ : ∃ n, n = 3 + b0 := ⟨_, rfl⟩
  obtain ⟨T, hT⟩ : ∃ T, T = 1 + b2 := ⟨_, rfl⟩
  rw [← hn] at hx q1 e3
  rw [← hT] at e4
  have hn3 : 3 ≤ n ∧ n ≤ 4096 := by omega
  have hxn : x < n := by omega
  have hT1 : 1 ≤ T ∧ T ≤ 1000 := by omega
  clear hn hT hx hb0 hb2
  go_enter Try.func5, Try.ntmps5
  go_wp2_with fail
  refine hW.out.mono ?_
  rintro e w1 ⟨rfl, hb⟩
  have B1 := Aside0.mk hb
  clear hb hW
  go_wp2_with fail
  refine (q0.out _).mono ?_
  rintro e w2 ⟨rfl, hb⟩
  have B2 := Aside0.mk (B1.out.trans (hb.mono B1.out.size))
  clear hb q0 B1
  go_wp2_with fail
  refine (q1.out _).mono ?_
  rintro e w3 ⟨rfl, hb⟩
  have B3 := Aside0.mk (B2.out.trans (hb.mono B2.out.size))
  clear hb q1 B2
  have hN := Lib.hid (new_calls n w3 (by omega) hn3.2)
  go_wp2_with fail
  refine hN.out.mono ?_
  rintro e w4 ⟨⟨P, B, c, rfl, hO⟩⟩
  have O4 : Aside0 (Own (one n x 0) 0 P B c w w4) := ⟨by rw [one_zero]; exact ⟨hO.at_, hO.ok, B3.out.trans (hO.bel.mono B3.out.size), by have := hO.ge; have := B3.out.size; omega⟩⟩
  clear hO hN B3
  go_wp2_with fail
  refine (q2.out _).mono ?_
  rintro e w5 ⟨rfl, hb⟩
  have O5 := Aside0.mk (O4.out.below hb)
  clear hb q2 O4
  go_wp2
  rw [e4]
  go_loopw [27] (fun y wr => ∃ (k : Nat) (v t : Int), k ≤ T ∧ y = .int .i64 k ∧ Aside0 (AP n x k v t) ∧ Aside0 (Own (one n x v) t P B c w wr)) (fun y _ => T - (intOf y).toNat)
  case atStart => exact ⟨0, 0, 0, Nat.zero_le _, rfl, ⟨by omega, by omega, .inl rfl⟩, O5⟩
  case round =>
    clear O5
    obtain ⟨k, v, t, hk, rfl, HP, HO⟩ := hrel
    by_cases hlt : k < T
    · have yk : decide ((k : Int) < (T : Int)) = true := decide_eq_true (by omega)
      obtain ⟨v', t', ht, hp⟩ := HP.out.next hn3.1 hxn
      have hC := HO.out.touch x (by rw [one_len]; exact hxn)
      rw [ht] at hC
      replace hC := Lib.hid hC
      have HP1 := Aside0.mk hp
      have hv : 1 ≤ v' ∧ v' ≤ 255 := by have := hp.vk; have := hp.v0; omega
      clear ht hp HP
      go_wp2_with fail
      refine hC.out.mono ?_
      rintro e w6 ⟨rfl, ⟨hO, _⟩⟩
      have O6 : Aside0 (Own (one n x v') t' P B c w w6) := ⟨hO⟩
      clear hO hC HO
      have hC := O6.out.hot x
      rw [hot_one n x v' hxn (by omega) hn3.1] at hC
      replace hC := Lib.hid hC
      go_wp2_with fail
      refine hC.out.mono ?_
      rintro e w7 ⟨rfl, ⟨hO, _⟩⟩
      have O7 := Aside0.mk hO
      clear hO hC O6
      have hC := O7.out.count x
      rw [cnt_one n x v' hxn] at hC
      replace hC := Lib.hid hC
      have z1 : decide (v' < 1) = false := decide_eq_false (by omega)
      go_wp2_with fail
      refine hC.out.mono ?_
      rintro e w8 ⟨rfl, rfl⟩
      have hD := O7.out.total
      rw [sumC_one n x v' hxn] at hD
      replace hD := Lib.hid hD
      go_wp2_with fail
      refine hD.out.mono ?_
      rintro e w9 ⟨rfl, rfl⟩
      go_wp2_with fail
      refine hC.out.mono ?_
      rintro e w10 ⟨rfl, rfl⟩
      clear hC hD
      go_wp2
      go_roundw
      case rel => exact ⟨k + 1, v', t', by omega, by go_num, HP1, O7⟩
      case measure => simp [intOf]; omega
    · obtain rfl : k = T := by omega
      have hv : 1 ≤ v := by have := HP.out.vk; omega
      have hC := HO.out.rank 3
      rw [rank_one _ x (hotN_one n x v hxn (by omega)) 3 (by decide)] at hC
      replace hC := Lib.hid hC
      clear HP
      go_wp2_with fail
      refine hC.out.mono ?_
      rintro e w6 ⟨⟨A, rfl, hr, hO, _⟩⟩
      have O6 := Aside0.mk hO
      have hS := Lib.hid (same_calls [(x : Int)] (by simp) A (some ⟨w6.heap.size, 0, none⟩) 1 1 (w6.alloc (.cells #[.int .i64 x] 3)) (Kd.C_alloc hr _) (by simp) (C_cells (by simp) (fun j hj => by
        obtain rfl : j = 0 := by simpa using hj
        exact (blk_cell (blk_new w6 _) 0).trans rfl)) (by simp))
      clear hO hr hC HO
      go_wp2_with fail
      refine hS.out.mono ?_
      rintro e w7 ⟨rfl, hb⟩
      have O7 := Aside0.mk (O6.out.below (((Below.refl _ _).alloc (Nat.le_refl _) _).trans (hb.mono ((Below.refl w6.heap.size w6).alloc (Nat.le_refl _) _).size)))
      clear hb hS O6
      go_wp2
      go_ret
      exact ⟨rfl, O7.out.bel⟩
end Go.Proofs.Ytihggmhmfocnpaa.PQ
