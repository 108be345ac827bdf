/- What the order package's functions answer within their bounds: plain numbers, no condition beyond the stated bounds. -/
import Derived.Test.YteoleeanmhmdfaaPQx2
import Derived.Test.YteoleeanmhmdfaaPQx3
import Derived.Test.YteoleeanmhmdfaaPQx4
import Derived.Test.YteoleeanmhmdfaaPQx5
namespace Go.Proofs.Yteoleeanmhmdfaa.Pure
open Go.RowKit Go.Proofs.Yteoleeanmhmdfaa.PQ Go.Proofs.YteoleeanmhmdfaaW.PrintWords Go.Proofs.YteoleeanmhmdfaaW.PrintLast Go.Proofs.YteoleeanmhmdfaaW.PrintMore

theorem w64 {x : Int} (h0 : -9223372036854775808 ≤ x) (h1 : x ≤ 9223372036854775807) : wrap64 x = x := by
  unfold wrap64; omega

def atL (n k : Int) : Int := if k = 2 * n - 1 then n - 1 else if k = 0 then 0 else if k % 2 = 1 then (k + 1) / 2 else k / 2 - 1
def atF (n k : Int) : Bool := if k = 2 * n - 1 then true else if k = 0 then false else if k % 2 = 1 then false else true
def plF (l : Int) : Int := if l = 0 then 0 else 2 * l - 1
def plS (n l : Int) : Int := if l = n - 1 then 2 * n - 1 else 2 * l + 2
def aft (n k l : Int) : Int := if k > plS n l then 2 else if k > plF l then 1 else 0

theorem may_ok (n : Int) (h1 : 1 ≤ n) (h2 : n ≤ 64) : order_may.f n = some true := by
  unfold order_may.f
  rw [if_pos (by omega)]
  simp [h2]

theorem at_ok (n k : Int) (m : Nat) (h1 : 1 ≤ n) (h2 : n ≤ 64) (h3 : 0 ≤ k) (h4 : k < 2 * n) :
    order_At.f (m + 1) n k = some (atL n k, atF n k, 0) := by
  unfold order_At.f
  rw [may_ok n h1 h2]
  simp only [Option.bind_some, if_true]
  rw [if_neg (by omega), w64 (x := 2 * n) (by omega) (by omega), decide_eq_false (show ¬ (k ≥ 2 * n) by omega)]
  simp only [order_At.j0]
  rw [if_neg (by simp), w64 (x := 2 * n) (by omega) (by omega), w64 (x := 2 * n - 1) (by omega) (by omega), w64 (x := n - 1) (by omega) (by omega)]
  rw [w64 (x := k + 1) (by omega) (by omega), Int.tdiv_eq_ediv_of_nonneg (by omega), Int.tdiv_eq_ediv_of_nonneg (by omega), Int.tmod_eq_emod_of_nonneg (by omega)]
  rw [w64 (x := (k + 1) / 2) (by omega) (by omega), w64 (x := k / 2) (by omega) (by omega), w64 (x := k / 2 - 1) (by omega) (by omega)]
  unfold atL atF
  by_cases a : k = 2 * n - 1
  · simp only [if_pos a]
  · simp only [if_neg a]
    by_cases b : k = 0
    · simp only [if_pos b]; subst b; rfl
    · simp only [if_neg b]
      by_cases c : k % 2 = 1
      · simp only [if_pos c]
      · simp only [if_neg c]

theorem place_ok (n l : Int) (f : Bool) (m : Nat) (h1 : 1 ≤ n) (h2 : n ≤ 64) (h3 : 0 ≤ l) (h4 : l < n) :
    order_Place.f (m + 1) n l f = some (if f = true then plS n l else plF l, 0) := by
  unfold order_Place.f
  rw [may_ok n h1 h2]
  simp only [Option.bind_some, if_true]
  rw [if_neg (by omega), decide_eq_false (show ¬ (l ≥ n) by omega)]
  simp only [order_Place.j0]
  rw [if_neg (by simp), w64 (x := 2 * n) (by omega) (by omega), w64 (x := 2 * l) (by omega) (by omega), w64 (x := n - 1) (by omega) (by omega)]
  rw [w64 (x := 2 * l + 2) (by omega) (by omega), w64 (x := 2 * l - 1) (by omega) (by omega), w64 (x := 2 * n - 1) (by omega) (by omega)]
  unfold plS plF mx
  cases f with
  | true =>
    simp only [if_true]
    by_cases a : l = n - 1
    · simp only [if_pos a]
    · simp only [if_neg a]
  | false =>
    simp only [Bool.false_eq_true, if_false]
    by_cases a : l = 0
    · subst a; rfl
    · rw [if_neg a, if_neg (by omega)]

theorem after_ok (n k l : Int) (m : Nat) (h1 : 1 ≤ n) (h2 : n ≤ 64) (h3 : 0 ≤ k) (h4 : k ≤ 2 * n) (h5 : 0 ≤ l) (h6 : l < n) :
    order_After.f (m + 2) n k l = some (aft n k l, 0) := by
  unfold order_After.f
  rw [may_ok n h1 h2]
  simp only [Option.bind_some, if_true]
  rw [if_neg (by omega), w64 (x := 2 * n) (by omega) (by omega), if_neg (by omega), if_neg (by omega), decide_eq_false (show ¬ (l ≥ n) by omega)]
  simp only [order_After.j0]
  rw [if_neg (by simp), place_ok n l false m h1 h2 h5 h6, place_ok n l true m h1 h2 h5 h6]
  simp only [Option.bind_some, if_true, Bool.false_eq_true, if_false]
  unfold aft
  by_cases a : k > plS n l
  · simp only [if_pos a]
  · simp only [if_neg a]
    by_cases b : k > plF l
    · simp only [if_pos b]
    · simp only [if_neg b]

theorem works_ok (m : Nat) : decklelaw07_works.f (m + 20) = some true := by
  have h : ∀ j, decklelaw07_works.f (20 + j) = some true := by
    intro j
    induction j with
    | zero => decide +kernel
    | succ j ih => exact decklelaw07_works.mono (20 + j) _ ih
  rw [Nat.add_comm]; exact h m

end Go.Proofs.Yteoleeanmhmdfaa.Pure
