/- The order law Once: for every number of lines the law's function answers true: every line is foggy in one step and fine in a later one, and steps and places go there and back. No condition. -/
import Derived.Test.YteoleeanmhmdfaaPQx6
import Derived.Test.YteoleeanmhmdfaaCommon
namespace Go.Proofs.Yteoleeanmhmdfaa.Pure
open Go.RowKit Go.Proofs.Yteoleeanmhmdfaa.PQ Go.Proofs.YteoleeanmhmdfaaW.PrintWords Go.Proofs.YteoleeanmhmdfaaW.PrintLast Go.Proofs.YteoleeanmhmdfaaW.PrintMore

theorem once_l1 (n : Int) (h1 : 1 ≤ n) (h2 : n ≤ 64) (d : Nat) : ∀ (m : Nat) (x : Int), 0 ≤ x → x ≤ 2 * n → 2 * n - x = d → d + 3 ≤ m → decklelaw07_OrderOnce.l1 m n x = some true := by
  induction d with
  | zero =>
    intro m x h3 h4 hd hm
    obtain ⟨m, rfl⟩ : ∃ j, m = j + 1 := ⟨m - 1, by omega⟩
    simp only [decklelaw07_OrderOnce.l1]
    obtain ⟨m, rfl⟩ : ∃ j, m = j + 1 := ⟨m - 1, by omega⟩
    rw [w64 (x := 2 * n) (by omega) (by omega), if_neg (by omega)]
    unfold order_At.f
    rw [may_ok n h1 h2]
    simp only [Option.bind_some, if_true]
    rw [if_neg (by omega), w64 (x := 2 * n) (by omega) (by omega), decide_eq_true (show 2 * n ≥ 2 * n by omega)]
    simp only [order_At.j0, if_true, Option.bind_some]
    rfl
  | succ d ih =>
    intro m x h3 h4 hd hm
    obtain ⟨m, rfl⟩ : ∃ j, m = j + 1 := ⟨m - 1, by omega⟩
    simp only [decklelaw07_OrderOnce.l1]
    obtain ⟨m, rfl⟩ : ∃ j, m = j + 1 := ⟨m - 1, by omega⟩
    rw [w64 (x := 2 * n) (by omega) (by omega), if_pos (by omega), at_ok n x m h1 h2 h3 (by omega)]
    have hL : 0 ≤ atL n x ∧ atL n x < n := by unfold atL; omega
    simp only [Option.bind_some, if_true]
    rw [place_ok n (atL n x) (atF n x) m h1 h2 hL.1 hL.2]
    simp only [Option.bind_some, if_true]
    have hp : (if atF n x = true then plS n (atL n x) else plF (atL n x)) = x := by
      unfold atF atL plS plF
      by_cases a : x = 2 * n - 1
      · simp only [if_pos a, if_true]; omega
      · simp only [if_neg a]
        by_cases b : x = 0
        · simp [b]
        · simp only [if_neg b]
          by_cases c : x % 2 = 1
          · simp only [if_pos c, Bool.false_eq_true, if_false]; rw [if_neg (by omega)]; omega
          · simp only [if_neg c, if_true]; rw [if_neg (by omega)]; omega
    rw [hp, if_pos rfl, w64 (x := x + 1) (by omega) (by omega)]
    exact ih (m + 1) (x + 1) (by omega) (by omega) (by omega) (by omega)

theorem once_l0 (n : Int) (h1 : 1 ≤ n) (h2 : n ≤ 64) (d : Nat) : ∀ (m : Nat) (x : Int), 0 ≤ x → x ≤ n → n - x = d → d + 140 ≤ m → decklelaw07_OrderOnce.l0 m n x = some true := by
  induction d with
  | zero =>
    intro m x h3 h4 hd hm
    obtain ⟨m, rfl⟩ : ∃ j, m = j + 1 := ⟨m - 1, by omega⟩
    simp only [decklelaw07_OrderOnce.l0]
    obtain ⟨m, rfl⟩ : ∃ j, m = j + 1 := ⟨m - 1, by omega⟩
    rw [if_neg (by omega)]
    exact once_l1 n h1 h2 (2 * n).toNat (m + 1) 0 (by omega) (by omega) (by omega) (by omega)
  | succ d ih =>
    intro m x h3 h4 hd hm
    obtain ⟨m, rfl⟩ : ∃ j, m = j + 1 := ⟨m - 1, by omega⟩
    simp only [decklelaw07_OrderOnce.l0]
    obtain ⟨m, rfl⟩ : ∃ j, m = j + 1 := ⟨m - 1, by omega⟩
    rw [if_pos (by omega), place_ok n x false m h1 h2 h3 (by omega), place_ok n x true m h1 h2 h3 (by omega)]
    simp only [Option.bind_some, if_true, Bool.false_eq_true, if_false]
    have hb : plF x < plS n x ∧ 0 ≤ plF x ∧ plS n x < 2 * n := by unfold plS plF; omega
    rw [w64 (x := 2 * n) (by omega) (by omega), if_neg (by omega), if_neg (by omega), if_neg (by omega), w64 (x := x + 1) (by omega) (by omega)]
    exact ih (m + 1) (x + 1) (by omega) (by omega) (by omega) (by omega)

theorem OrderOnce : decklelaw07_OrderOnce.Pure := by
  intro n _
  refine ⟨300 + 20, ?_⟩
  unfold decklelaw07_OrderOnce.f
  rw [works_ok 300]
  simp only [Option.bind_some, if_true]
  by_cases a : n < 1
  · rw [if_pos a]
    simp only [decklelaw07_OrderOnce.j0, if_true]
    unfold order_At.f order_may.f
    rw [if_neg (by omega)]
    simp only [Option.bind_some, Bool.false_eq_true, if_false, order_At.j0, if_true]
    rfl
  · rw [if_neg a]
    by_cases b : n > 64
    · rw [decide_eq_true b]
      simp only [decklelaw07_OrderOnce.j0, if_true]
      unfold order_At.f order_may.f
      rw [if_pos (by omega), decide_eq_false (by omega)]
      simp only [Option.bind_some, Bool.false_eq_true, if_false, order_At.j0, if_true]
      rfl
    · rw [decide_eq_false b]
      simp only [decklelaw07_OrderOnce.j0, Bool.false_eq_true, if_false]
      exact once_l0 n (by omega) (by omega) n.toNat 319 0 (by omega) (by omega) (by omega) (by omega)

end Go.Proofs.Yteoleeanmhmdfaa.Pure
