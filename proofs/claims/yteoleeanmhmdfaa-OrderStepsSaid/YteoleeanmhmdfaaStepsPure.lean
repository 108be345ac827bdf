/- What the order's functions and the document's come to, in plain terms: they are the same. -/
import Derived.Test.YteoleeanmhmdfaaPSx0
import Derived.Test.YteoleeanmhmdfaaPSx1
import Derived.Test.YteoleeanmhmdfaaPSx2
import Derived.Test.YteoleeanmhmdfaaPSx3
import Derived.Test.YteoleeanmhmdfaaPSx4
import Derived.Test.YteoleeanmhmdfaaPSx5
import Derived.Test.YteoleeanmhmdfaaPSx6
import Derived.Test.YteoleeanmhmdfaaPSx7
import Derived.Test.YteoleeanmhmdfaaPSx8
import Derived.Test.YteoleeanmhmdfaaPSx9
namespace Go.Proofs.Yteoleeanmhmdfaa.PS
open Go.RowKit Go.Proofs.YteoleeanmhmdfaaW.PrintWords Go.Proofs.YteoleeanmhmdfaaW.PrintLast Go.Proofs.YteoleeanmhmdfaaW.PrintMore
set_option linter.unusedVariables false
set_option linter.unusedSimpArgs false

theorem w64 {x : Int} (h0 : -9223372036854775808 ≤ x) (h1 : x ≤ 9223372036854775807) : wrap64 x = x := by
  unfold wrap64; omega

def atL (n k : Int) : Int := if k = 2 * n - 1 then n - 1 else if k = 0 then 0 else if k % 2 = 1 then (k + 1) / 2 else k / 2 - 1
def atF (n k : Int) : Bool := if k = 2 * n - 1 then true else if k = 0 then false else if k % 2 = 1 then false else true
def plF (l : Int) : Int := if l = 0 then 0 else 2 * l - 1
def plS (n l : Int) : Int := if l = n - 1 then 2 * n - 1 else 2 * l + 2
def aft (n k l : Int) : Int := if k > plS n l then 2 else if k > plF l then 1 else 0

theorem may_ok (n : Int) (h1 : 1 ≤ n) (h2 : n ≤ 64) : order_may.f n = some true := by
  unfold order_may.f
  rw [if_pos (by omega)]
  simp [h2]

theorem at_ok (n k : Int) (m : Nat) (h1 : 1 ≤ n) (h2 : n ≤ 64) (h3 : 0 ≤ k) (h4 : k < 2 * n) :
    order_At.f (m + 1) n k = some (atL n k, atF n k, 0) := by
  unfold order_At.f
  rw [may_ok n h1 h2]
  simp only [Option.bind_some, if_true]
  rw [if_neg (by omega), w64 (x := 2 * n) (by omega) (by omega), decide_eq_false (show ¬ (k ≥ 2 * n) by omega)]
  simp only [order_At.j0]
  rw [if_neg (by simp), w64 (x := 2 * n) (by omega) (by omega), w64 (x := 2 * n - 1) (by omega) (by omega), w64 (x := n - 1) (by omega) (by omega)]
  rw [w64 (x := k + 1) (by omega) (by omega), Int.tdiv_eq_ediv_of_nonneg (by omega), Int.tdiv_eq_ediv_of_nonneg (by omega), Int.tmod_eq_emod_of_nonneg (by omega)]
  rw [w64 (x := (k + 1) / 2) (by omega) (by omega), w64 (x := k / 2) (by omega) (by omega), w64 (x := k / 2 - 1) (by omega) (by omega)]
  unfold atL atF
  by_cases a : k = 2 * n - 1
  · simp only [if_pos a]
  · simp only [if_neg a]
    by_cases b : k = 0
    · simp only [if_pos b]; subst b; rfl
    · simp only [if_neg b]
      by_cases c : k % 2 = 1
      · simp only [if_pos c]
      · simp only [if_neg c]

theorem place_ok (n l : Int) (f : Bool) (m : Nat) (h1 : 1 ≤ n) (h2 : n ≤ 64) (h3 : 0 ≤ l) (h4 : l < n) :
    order_Place.f (m + 1) n l f = some (if f = true then plS n l else plF l, 0) := by
  unfold order_Place.f
  rw [may_ok n h1 h2]
  simp only [Option.bind_some, if_true]
  rw [if_neg (by omega), decide_eq_false (show ¬ (l ≥ n) by omega)]
  simp only [order_Place.j0]
  rw [if_neg (by simp), w64 (x := 2 * n) (by omega) (by omega), w64 (x := 2 * l) (by omega) (by omega), w64 (x := n - 1) (by omega) (by omega)]
  rw [w64 (x := 2 * l + 2) (by omega) (by omega), w64 (x := 2 * l - 1) (by omega) (by omega), w64 (x := 2 * n - 1) (by omega) (by omega)]
  unfold plS plF mx
  cases f with
  | true =>
    simp only [if_true]
    by_cases a : l = n - 1
    · simp only [if_pos a]
    · simp only [if_neg a]
  | false =>
    simp only [Bool.false_eq_true, if_false]
    by_cases a : l = 0
    · subst a; rfl
    · rw [if_neg a, if_neg (by omega)]

theorem after_ok (n k l : Int) (m : Nat) (h1 : 1 ≤ n) (h2 : n ≤ 64) (h3 : 0 ≤ k) (h4 : k ≤ 2 * n) (h5 : 0 ≤ l) (h6 : l < n) :
    order_After.f (m + 2) n k l = some (aft n k l, 0) := by
  unfold order_After.f
  rw [may_ok n h1 h2]
  simp only [Option.bind_some, if_true]
  rw [if_neg (by omega), w64 (x := 2 * n) (by omega) (by omega), if_neg (by omega), if_neg (by omega), decide_eq_false (show ¬ (l ≥ n) by omega)]
  simp only [order_After.j0]
  rw [if_neg (by simp), place_ok n l false m h1 h2 h5 h6, place_ok n l true m h1 h2 h5 h6]
  simp only [Option.bind_some, if_true, Bool.false_eq_true, if_false]
  unfold aft
  by_cases a : k > plS n l
  · simp only [if_pos a]
  · simp only [if_neg a]
    by_cases b : k > plF l
    · simp only [if_pos b]
    · simp only [if_neg b]

theorem works_ok (m : Nat) : decklelaw07_works.f (m + 20) = some true := by
  have h : ∀ j, decklelaw07_works.f (20 + j) = some true := by
    intro j
    induction j with
    | zero => decide +kernel
    | succ j ih => exact decklelaw07_works.mono (20 + j) _ ih
  rw [Nat.add_comm]; exact h m
/-- Step k of n lines. -/
def stp (n k : Int) : S24 := ⟨atL n k, atF n k⟩
/-- All steps of n lines. -/
def G (n : Nat) : List S24 := (List.range (2 * n)).map fun k : Nat => stp n k
theorem G_len (n : Nat) : (G n).length = 2 * n := by unfold G; rw [List.length_map, List.length_range]
theorem G_rd (n k : Nat) (h : k < 2 * n) : rd_T24 (G n) (k : Int) = stp n k := by
  unfold rd_T24 G
  rw [Int.toNat_natCast, List.getD_eq_getElem?_getD, List.getElem?_map, List.getElem?_range h]
  rfl
theorem stp_odd (n i : Nat) (h0 : 1 ≤ i) (h1 : i < n) : stp n ((2 * i - 1 : Nat) : Int) = ⟨(i : Int), false⟩ := by
  unfold stp atL atF
  rw [if_neg (by omega), if_neg (by omega), if_pos (by omega), if_neg (by omega), if_neg (by omega), if_pos (by omega)]
  congr 1
  omega
theorem stp_even (n i : Nat) (h0 : 1 ≤ i) (h1 : i < n) : stp n ((2 * i : Nat) : Int) = ⟨(i : Int) - 1, true⟩ := by
  unfold stp atL atF
  rw [if_neg (by omega), if_neg (by omega), if_neg (by omega), if_neg (by omega), if_neg (by omega), if_neg (by omega)]
  congr 1
  omega
theorem stp_last (n : Nat) (h0 : 1 ≤ n) : stp n ((2 * n - 1 : Nat) : Int) = ⟨(n : Int) - 1, true⟩ := by
  unfold stp atL atF
  rw [if_pos (by omega), if_pos (by omega)]
theorem stp_zero (n : Nat) (h0 : 1 ≤ n) : stp n ((0 : Nat) : Int) = ⟨0, false⟩ := by
  unfold stp atL atF
  rw [if_neg (by omega), if_pos (by omega), if_neg (by omega), if_pos (by omega)]
def H (n i : Nat) : List S24 := (List.range (2 * i - 1)).map fun k : Nat => stp n k
theorem H_len (n i : Nat) : (H n i).length = 2 * i - 1 := by unfold H; rw [List.length_map, List.length_range]
theorem H_succ (n i : Nat) (h0 : 1 ≤ i) (h1 : i < n) : H n i ++ [⟨(i : Int), false⟩, ⟨(i : Int) - 1, true⟩] = H n (i + 1) := by
  unfold H
  rw [show 2 * (i + 1) - 1 = (2 * i - 1) + 1 + 1 by omega, List.range_succ, List.range_succ, List.map_append, List.map_append, List.map_singleton, List.map_singleton, show 2 * i - 1 + 1 = 2 * i by omega, stp_even n i h0 h1, stp_odd n i h0 h1, List.append_assoc]
  rfl
theorem H_end (n : Nat) (h0 : 1 ≤ n) : H n n ++ [⟨(n : Int) - 1, true⟩] = G n := by
  unfold H G
  rw [show 2 * n = (2 * n - 1) + 1 by omega, List.range_succ, List.map_append, List.map_singleton, show 2 * n - 1 + 1 - 1 = 2 * n - 1 by omega, stp_last n h0]
theorem H_one (n : Nat) (h0 : 1 ≤ n) : H n 1 = [⟨0, false⟩] := by
  unfold H
  rw [show 2 * 1 - 1 = 0 + 1 by omega, List.range_succ, List.map_append, List.map_singleton, stp_zero n h0]
  rfl
theorem refSteps_l (n : Nat) (h1 : 1 ≤ n) (h2 : n ≤ 64) : ∀ (d m i : Nat), i + d = n → 1 ≤ i → d < m → deckleref07_Steps.l0 m n (H n i) (i : Int) = some (G n)
  | 0, m, i, h, hi, hm => by
    obtain ⟨m, rfl⟩ : ∃ j, m = j + 1 := ⟨m - 1, by omega⟩
    obtain rfl : i = n := by omega
    simp only [deckleref07_Steps.l0]
    rw [if_neg (by omega), if_pos (by rw [H_len]; omega), w64 (x := (i : Int) - 1) (by omega) (by omega), H_end i h1]
  | d + 1, m, i, h, hi, hm => by
    obtain ⟨m, rfl⟩ : ∃ j, m = j + 1 := ⟨m - 1, by omega⟩
    have ih := refSteps_l n h1 h2 d m (i + 1) (by omega) (by omega) (by omega)
    simp only [deckleref07_Steps.l0]
    rw [if_pos (by omega)]
    show (if (H n i).length + 2 < 8796093022208 then _ else _) = _
    rw [if_pos (by rw [H_len]; omega), w64 (x := (i : Int) - 1) (by omega) (by omega), w64 (x := (i : Int) + 1) (by omega) (by omega), H_succ n i hi (by omega)]
    exact ih
def Ls (n : Int) : List S24 := if 1 ≤ n ∧ n ≤ 64 then G n.toNat else []
theorem Ls_in {n : Int} (h1 : 1 ≤ n) (h2 : n ≤ 64) : Ls n = G n.toNat := if_pos ⟨h1, h2⟩
theorem Ls_out {n : Int} (h : ¬ (1 ≤ n ∧ n ≤ 64)) : Ls n = [] := if_neg h
theorem Ls_len (n : Int) : ((Ls n).length : Int) = if 1 ≤ n ∧ n ≤ 64 then 2 * n else 0 := by
  by_cases h : 1 ≤ n ∧ n ≤ 64
  · rw [Ls_in h.1 h.2, G_len, if_pos h]; omega
  · rw [Ls_out h, if_neg h]; rfl
theorem Ls_rd {n k : Int} (h1 : 1 ≤ n) (h2 : n ≤ 64) (h3 : 0 ≤ k) (h4 : k < 2 * n) : rd_T24 (Ls n) k = stp n k := by
  obtain ⟨m, rfl⟩ := Int.eq_ofNat_of_zero_le (show 0 ≤ n by omega)
  obtain ⟨j, rfl⟩ := Int.eq_ofNat_of_zero_le h3
  rw [Ls_in h1 h2, Int.toNat_natCast, G_rd m j (by omega)]
theorem refSteps (n : Int) : deckleref07_Steps.f 300 n = some (Ls n) := by
  unfold deckleref07_Steps.f
  by_cases a : n < 1
  · rw [if_pos a, Ls_out (by omega)]; simp [deckleref07_Steps.j0]
  · rw [if_neg a]
    by_cases b : n > 64
    · rw [decide_eq_true b, Ls_out (by omega)]; simp [deckleref07_Steps.j0]
    · obtain ⟨m, rfl⟩ := Int.eq_ofNat_of_zero_le (show 0 ≤ n by omega)
      rw [decide_eq_false b, Ls_in (by omega) (by omega), Int.toNat_natCast]
      simp only [deckleref07_Steps.j0]
      rw [if_neg (by decide), ← H_one m (by omega)]
      exact refSteps_l m (by omega) (by omega) (m - 1) 299 1 (by omega) (by omega) (by omega)
theorem may_no (n : Int) (h : ¬ (1 ≤ n ∧ n ≤ 64)) : order_may.f n = some false := by
  unfold order_may.f
  by_cases a : n ≥ 1
  · rw [if_pos a, decide_eq_false (by omega)]
  · rw [if_neg a]
theorem at_no (n k : Int) (m : Nat) (h : ¬ (1 ≤ n ∧ n ≤ 64) ∨ k < 0 ∨ 2 * n ≤ k) : order_At.f (m + 1) n k = some (0, false, 1) := by
  unfold order_At.f
  by_cases a : 1 ≤ n ∧ n ≤ 64
  · rw [may_ok n a.1 a.2]
    simp only [Option.bind_some, if_true]
    by_cases b : k < 0
    · rw [if_pos b]; simp [order_At.j0]
    · rw [if_neg b, w64 (x := 2 * n) (by omega) (by omega), decide_eq_true (by omega)]; simp [order_At.j0]
  · rw [may_no n a]; simp [order_At.j0]
theorem at_same (n k : Int) : ∃ a b c, order_At.f 300 n k = some (a, b, c) ∧ deckleref07_At.f 300 n k = some (a, b, c) := by
  unfold deckleref07_At.f
  rw [refSteps]
  simp only [Option.bind_some]
  by_cases h : (1 ≤ n ∧ n ≤ 64) ∧ 0 ≤ k ∧ k < 2 * n
  · obtain ⟨⟨h1, h2⟩, h3, h4⟩ := h
    refine ⟨_, _, _, at_ok n k 299 h1 h2 h3 h4, ?_⟩
    have hl := Ls_len n
    rw [if_pos ⟨h1, h2⟩] at hl
    rw [if_neg (by omega), if_neg (by omega), if_pos h3, if_pos (by omega), Ls_rd h1 h2 h3 h4]
    rfl
  · refine ⟨_, _, _, at_no n k 299 (by omega), ?_⟩
    have hl := Ls_len n
    by_cases b : k < 0
    · rw [if_pos b]
    · rw [if_neg b, if_pos]
      rw [hl]
      split <;> omega
def plc (n l : Int) (f : Bool) : Int := if f = true then plS n l else plF l
theorem plc_stp (n x : Int) (h1 : 1 ≤ n) (h3 : 0 ≤ x) (h4 : x < 2 * n) : plc n (atL n x) (atF n x) = x := by
  unfold plc atF atL plS plF
  by_cases a : x = 2 * n - 1
  · simp only [if_pos a, if_true]; omega
  · simp only [if_neg a]
    by_cases b : x = 0
    · simp [b]
    · simp only [if_neg b]
      by_cases c : x % 2 = 1
      · simp only [if_pos c, Bool.false_eq_true, if_false]; rw [if_neg (by omega)]; omega
      · simp only [if_neg c, if_true]; rw [if_neg (by omega)]; omega
theorem stp_plc (n l : Int) (f : Bool) (h1 : 1 ≤ n) (h3 : 0 ≤ l) (h4 : l < n) : atL n (plc n l f) = l ∧ atF n (plc n l f) = f ∧ 0 ≤ plc n l f ∧ plc n l f < 2 * n := by
  cases f with
  | true =>
    have e : plc n l true = plS n l := rfl
    rw [e]
    unfold plS atF atL
    by_cases a : l = n - 1
    · simp only [if_pos a, if_true]; exact ⟨by omega, trivial, by omega, by omega⟩
    · simp only [if_neg a]
      rw [if_neg (by omega), if_neg (by omega), if_neg (by omega), if_neg (by omega), if_neg (by omega), if_neg (by omega)]
      exact ⟨by omega, rfl, by omega, by omega⟩
  | false =>
    have e : plc n l false = plF l := rfl
    rw [e]
    unfold plF atF atL
    by_cases a : l = 0
    · simp only [if_pos a]
      rw [if_neg (by omega), if_pos trivial, if_neg (by omega), if_pos trivial]
      exact ⟨by omega, rfl, by omega, by omega⟩
    · simp only [if_neg a]
      rw [if_neg (by omega), if_neg (by omega), if_pos (by omega), if_neg (by omega), if_neg (by omega), if_pos (by omega)]
      exact ⟨by omega, rfl, by omega, by omega⟩
theorem atL_in (n x : Int) (h1 : 1 ≤ n) (h3 : 0 ≤ x) (h4 : x < 2 * n) : 0 ≤ atL n x ∧ atL n x < n := by unfold atL; omega
theorem eqS (n x l : Int) (f : Bool) : (((stp n x).f0) == l && (((stp n x).f1) == f)) = true ↔ atL n x = l ∧ atF n x = f := by
  rw [Bool.and_eq_true, beq_iff_eq, beq_iff_eq]; rfl
theorem refPlace_l (n : Int) (h1 : 1 ≤ n) (h2 : n ≤ 64) (l : Int) (f : Bool) (h3 : 0 ≤ l) (h4 : l < n) : ∀ (d m : Nat) (i : Int), 0 ≤ i → i + d = plc n l f → d < m → deckleref07_Place.l0 m (Ls n) i l f = some (plc n l f, 0)
  | 0, m, i, h0, h, hm => by
    obtain ⟨m, rfl⟩ : ∃ j, m = j + 1 := ⟨m - 1, by omega⟩
    obtain ⟨q1, q2, q3, q4⟩ := stp_plc n l f h1 h3 h4
    have hi : i = plc n l f := by omega
    have hl := Ls_len n
    rw [if_pos ⟨h1, h2⟩] at hl
    simp only [deckleref07_Place.l0]
    rw [hi, if_pos (by omega), if_pos q3, Ls_rd h1 h2 q3 q4, if_pos ((eqS n _ l f).2 ⟨q1, q2⟩)]
  | d + 1, m, i, h0, h, hm => by
    obtain ⟨m, rfl⟩ : ∃ j, m = j + 1 := ⟨m - 1, by omega⟩
    obtain ⟨q1, q2, q3, q4⟩ := stp_plc n l f h1 h3 h4
    have hl := Ls_len n
    rw [if_pos ⟨h1, h2⟩] at hl
    have ih := refPlace_l n h1 h2 l f h3 h4 d m (i + 1) (by omega) (by omega) (by omega)
    simp only [deckleref07_Place.l0]
    rw [if_pos (by omega), if_pos h0, Ls_rd h1 h2 h0 (by omega), if_neg, w64 (x := i + 1) (by omega) (by omega)]
    · exact ih
    · rw [eqS]
      rintro ⟨e1, e2⟩
      have := plc_stp n i h1 h0 (by omega)
      rw [e1, e2] at this
      omega
theorem refPlace_n (n : Int) (h1 : 1 ≤ n) (h2 : n ≤ 64) (l : Int) (f : Bool) (hl : ¬ (0 ≤ l ∧ l < n)) : ∀ (d m : Nat) (i : Int), 0 ≤ i → i + d = 2 * n → d < m → deckleref07_Place.l0 m (Ls n) i l f = some (0, 1)
  | 0, m, i, h0, h, hm => by
    obtain ⟨m, rfl⟩ : ∃ j, m = j + 1 := ⟨m - 1, by omega⟩
    have hl := Ls_len n
    rw [if_pos ⟨h1, h2⟩] at hl
    simp only [deckleref07_Place.l0]
    rw [if_neg (by omega)]
  | d + 1, m, i, h0, h, hm => by
    obtain ⟨m, rfl⟩ : ∃ j, m = j + 1 := ⟨m - 1, by omega⟩
    have hl' := Ls_len n
    rw [if_pos ⟨h1, h2⟩] at hl'
    have ih := refPlace_n n h1 h2 l f hl d m (i + 1) (by omega) (by omega) (by omega)
    simp only [deckleref07_Place.l0]
    rw [if_pos (by omega), if_pos h0, Ls_rd h1 h2 h0 (by omega), if_neg, w64 (x := i + 1) (by omega) (by omega)]
    · exact ih
    · rw [eqS]
      rintro ⟨e1, e2⟩
      have := atL_in n i h1 h0 (by omega)
      omega
theorem place_no (n l : Int) (f : Bool) (m : Nat) (h : ¬ (1 ≤ n ∧ n ≤ 64) ∨ l < 0 ∨ n ≤ l) : order_Place.f (m + 1) n l f = some (0, 1) := by
  unfold order_Place.f
  by_cases a : 1 ≤ n ∧ n ≤ 64
  · rw [may_ok n a.1 a.2]
    simp only [Option.bind_some, if_true]
    by_cases b : l < 0
    · rw [if_pos b]; simp [order_Place.j0]
    · rw [if_neg b, decide_eq_true (by omega)]; simp [order_Place.j0]
  · rw [may_no n a]; simp [order_Place.j0]
theorem place_same (n l : Int) (f : Bool) : ∃ a b, order_Place.f 300 n l f = some (a, b) ∧ deckleref07_Place.f 300 n l f = some (a, b) := by
  unfold deckleref07_Place.f
  rw [refSteps]
  simp only [Option.bind_some]
  by_cases h : (1 ≤ n ∧ n ≤ 64) ∧ 0 ≤ l ∧ l < n
  · obtain ⟨⟨h1, h2⟩, h3, h4⟩ := h
    have hs := stp_plc n l f h1 h3 h4
    exact ⟨_, _, place_ok n l f 299 h1 h2 h3 h4, refPlace_l n h1 h2 l f h3 h4 (plc n l f).toNat 300 0 (by omega) (by omega) (by omega)⟩
  · refine ⟨_, _, place_no n l f 299 (by omega), ?_⟩
    by_cases a : 1 ≤ n ∧ n ≤ 64
    · exact refPlace_n n a.1 a.2 l f (by omega) (2 * n).toNat 300 0 (by omega) (by omega) (by omega)
    · rw [Ls_out a]; simp [deckleref07_Place.l0]
theorem aft_succ (n i l : Int) (h1 : 1 ≤ n) (h3 : 0 ≤ l) (h4 : l < n) (h5 : 0 ≤ i) (h6 : i < 2 * n) : aft n (i + 1) l = aft n i l + if atL n i = l then 1 else 0 := by
  unfold aft plS plF atL
  omega
theorem aft_bd (n i l : Int) : 0 ≤ aft n i l ∧ aft n i l ≤ 2 := by unfold aft; omega
theorem refAfter_l (n k l : Int) (h1 : 1 ≤ n) (h2 : n ≤ 64) (h3 : 0 ≤ l) (h4 : l < n) (h6 : k ≤ 2 * n) : ∀ (d m : Nat) (i : Int), 0 ≤ i → i + d = k → d < m → deckleref07_After.l0 m k l (Ls n) (aft n i l) i = some (aft n k l, 0)
  | 0, m, i, h0, h, hm => by
    obtain ⟨m, rfl⟩ : ∃ j, m = j + 1 := ⟨m - 1, by omega⟩
    obtain rfl : i = k := by omega
    simp only [deckleref07_After.l0]
    rw [if_neg (by omega)]
  | d + 1, m, i, h0, h, hm => by
    obtain ⟨m, rfl⟩ : ∃ j, m = j + 1 := ⟨m - 1, by omega⟩
    have hl := Ls_len n
    rw [if_pos ⟨h1, h2⟩] at hl
    have ih := refAfter_l n k l h1 h2 h3 h4 h6 d m (i + 1) (by omega) (by omega) (by omega)
    rw [aft_succ n i l h1 h3 h4 h0 (by omega)] at ih
    have hb := aft_bd n i l
    simp only [deckleref07_After.l0]
    rw [if_pos (by omega), if_pos h0, if_pos (by omega), Ls_rd h1 h2 h0 (by omega), w64 (x := i + 1) (by omega) (by omega), w64 (x := aft n i l + 1) (by omega) (by omega)]
    show (if atL n i = l then _ else _) = _
    by_cases e : atL n i = l
    · rw [if_pos e] at ih ⊢; exact ih
    · rw [if_neg e, Int.add_zero] at ih; rw [if_neg e]; exact ih
theorem after_no (n k l : Int) (m : Nat) (h : ¬ (1 ≤ n ∧ n ≤ 64) ∨ k < 0 ∨ 2 * n < k ∨ l < 0 ∨ n ≤ l) : order_After.f (m + 1) n k l = some (0, 1) := by
  unfold order_After.f
  by_cases a : 1 ≤ n ∧ n ≤ 64
  · rw [may_ok n a.1 a.2]
    simp only [Option.bind_some, if_true]
    by_cases b : k < 0
    · rw [if_pos b]; simp [order_After.j0]
    · rw [if_neg b, w64 (x := 2 * n) (by omega) (by omega)]
      by_cases c : k > 2 * n
      · rw [if_pos c]; simp [order_After.j0]
      · rw [if_neg c]
        by_cases e : l < 0
        · rw [if_pos e]; simp [order_After.j0]
        · rw [if_neg e, decide_eq_true (by omega)]; simp [order_After.j0]
  · rw [may_no n a]; simp [order_After.j0]
theorem after_same (n k l : Int) : ∃ a b, order_After.f 300 n k l = some (a, b) ∧ deckleref07_After.f 300 n k l = some (a, b) := by
  unfold deckleref07_After.f
  rw [refSteps]
  simp only [Option.bind_some]
  have hl := Ls_len n
  by_cases h : (1 ≤ n ∧ n ≤ 64) ∧ 0 ≤ k ∧ k ≤ 2 * n ∧ 0 ≤ l ∧ l < n
  · obtain ⟨⟨h1, h2⟩, h3, h4, h5, h6⟩ := h
    refine ⟨_, _, after_ok n k l 298 h1 h2 h3 h4 h5 h6, ?_⟩
    rw [if_pos ⟨h1, h2⟩] at hl
    rw [if_neg (by omega), if_neg (by omega), if_neg (by omega), if_neg (by omega), decide_eq_false (by omega)]
    simp only [deckleref07_After.j0]
    rw [if_neg (by decide)]
    have := refAfter_l n k l h1 h2 h5 h6 h4 k.toNat 299 0 (by omega) (by omega) (by omega)
    rw [show aft n 0 l = 0 by unfold aft plS plF; omega] at this
    exact this
  · refine ⟨_, _, after_no n k l 299 (by omega), ?_⟩
    by_cases a : ((Ls n).length : Int) = 0
    · rw [if_pos a]; simp [deckleref07_After.j0]
    · rw [if_neg a]
      by_cases b : k < 0
      · rw [if_pos b]; simp [deckleref07_After.j0]
      · rw [if_neg b]
        by_cases c : k > ((Ls n).length : Int)
        · rw [if_pos c]; simp [deckleref07_After.j0]
        · rw [if_neg c]
          by_cases e : l < 0
          · rw [if_pos e]; simp [deckleref07_After.j0]
          · rw [if_neg e, decide_eq_true (by split at hl <;> omega)]; simp [deckleref07_After.j0]
theorem same_l0 (l : List S24) (hl : l.length ≤ 1000) : ∀ (m j : Nat), j + m = l.length → decklebook_SameSteps.l0 (m + 1) l l true (j : Int) = some true
  | 0, j, h => by
    rw [decklebook_SameSteps.l0]
    rw [if_pos rfl, if_neg (by omega)]
  | m + 1, j, h => by
    have ih := same_l0 l hl m (j + 1) (by omega)
    rw [decklebook_SameSteps.l0]
    rw [if_pos rfl, if_pos (by omega), if_pos (by omega), if_pos (by omega), w64 (x := (j : Int) + 1) (by omega) (by omega), beq_self_eq_true, beq_self_eq_true, Bool.and_self]
    exact ih
theorem same_ok (l : List S24) (hl : l.length ≤ 1000) : decklebook_SameSteps.f (l.length + 1) l l = some true := by
  unfold decklebook_SameSteps.f
  rw [beq_self_eq_true]
  exact same_l0 l hl l.length 0 (by omega)
end Go.Proofs.Yteoleeanmhmdfaa.PS
