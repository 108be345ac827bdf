/- The order law Goes: for all lines and steps the law's function answers true: one step raises just the line it is of, by one. No condition. -/
import Derived.Test.YteoleeanmhmdfaaPQx8
import Derived.Test.YteoleeanmhmdfaaCommon
namespace Go.Proofs.Yteoleeanmhmdfaa.Pure
open Go.RowKit Go.Proofs.Yteoleeanmhmdfaa.PQ Go.Proofs.YteoleeanmhmdfaaW.PrintWords Go.Proofs.YteoleeanmhmdfaaW.PrintLast Go.Proofs.YteoleeanmhmdfaaW.PrintMore

theorem goes_l0 (n k : Int) (h1 : 1 ≤ n) (h2 : n ≤ 64) (h3 : 0 ≤ k) (h4 : k < 2 * n) (d : Nat) : ∀ (m : Nat) (l : Int), 0 ≤ l → l ≤ n → n - l = d → d + 4 ≤ m → decklelaw07_OrderGoes.l0 m n k l (atL n k) (atF n k) = some true := by
  induction d with
  | zero =>
    intro m l h5 h6 hd hm
    obtain ⟨m, rfl⟩ : ∃ j, m = j + 1 := ⟨m - 1, by omega⟩
    simp only [decklelaw07_OrderGoes.l0]
    rw [if_neg (by omega)]
  | succ d ih =>
    intro m l h5 h6 hd hm
    obtain ⟨m, rfl⟩ : ∃ j, m = j + 1 := ⟨m - 1, by omega⟩
    simp only [decklelaw07_OrderGoes.l0]
    obtain ⟨m, rfl⟩ : ∃ j, m = j + 2 := ⟨m - 2, by omega⟩
    rw [if_pos (by omega), w64 (x := k + 1) (by omega) (by omega), w64 (x := 2 * n) (by omega) (by omega)]
    rw [after_ok n k l m h1 h2 h3 (by omega) h5 (by omega), after_ok n (k + 1) l m h1 h2 (by omega) (by omega) h5 (by omega), after_ok n 0 l m h1 h2 (by omega) (by omega) h5 (by omega), after_ok n (2 * n) l m h1 h2 (by omega) (by omega) h5 (by omega)]
    simp only [Option.bind_some, if_true]
    have z0 : aft n 0 l = 0 := by unfold aft plS plF; rw [if_neg (by split <;> omega), if_neg (by split <;> omega)]
    have z2 : aft n (2 * n) l = 2 := by unfold aft plS; rw [if_pos (by split <;> omega)]
    have hb : 0 ≤ aft n k l ∧ aft n k l ≤ 2 := by unfold aft; split <;> (try split) <;> omega
    have hm1 : l = atL n k → aft n (k + 1) l = aft n k l + 1 ∧ (aft n (k + 1) l == 2) = atF n k := by
      unfold atL atF aft plS plF
      by_cases a : k = 2 * n - 1
      · simp only [if_pos a]; intro e; subst a
        rw [if_pos e, if_pos (show 2 * n - 1 + 1 > 2 * n - 1 by omega), if_neg (show ¬ 2 * n - 1 > 2 * n - 1 by omega), if_pos (show 2 * n - 1 > if l = 0 then 0 else 2 * l - 1 by split <;> omega)]
        exact ⟨rfl, rfl⟩
      · simp only [if_neg a]
        by_cases b : k = 0
        · simp only [if_pos b]; intro e; subst b; subst e
          rw [if_neg (show ¬ (0 : Int) + 1 > if (0 : Int) = n - 1 then 2 * n - 1 else 2 * 0 + 2 by split <;> omega), if_neg (show ¬ (0 : Int) > if (0 : Int) = n - 1 then 2 * n - 1 else 2 * 0 + 2 by split <;> omega)]
          exact ⟨rfl, rfl⟩
        · simp only [if_neg b]
          by_cases c : k % 2 = 1
          · simp only [if_pos c]; intro e
            rw [if_neg (show ¬ l = 0 by omega), if_neg (show ¬ k + 1 > if l = n - 1 then 2 * n - 1 else 2 * l + 2 by split <;> omega), if_neg (show ¬ k > if l = n - 1 then 2 * n - 1 else 2 * l + 2 by split <;> omega), if_pos (show k + 1 > 2 * l - 1 by omega), if_neg (show ¬ k > 2 * l - 1 by omega)]
            exact ⟨rfl, rfl⟩
          · simp only [if_neg c]; intro e
            rw [if_neg (show ¬ l = n - 1 by omega), if_pos (show k + 1 > 2 * l + 2 by omega), if_neg (show ¬ k > 2 * l + 2 by omega), if_pos (show k > if l = 0 then 0 else 2 * l - 1 by split <;> omega)]
            exact ⟨rfl, rfl⟩
    have hm0 : ¬ l = atL n k → aft n (k + 1) l = aft n k l := by
      unfold atL aft plS plF
      intro e
      split at e
      · split <;> split <;> (try split) <;> (try split) <;> (try split) <;> (try split) <;> omega
      · split at e
        · split <;> split <;> (try split) <;> (try split) <;> (try split) <;> (try split) <;> omega
        · split at e
          · split <;> split <;> (try split) <;> (try split) <;> (try split) <;> (try split) <;> omega
          · split <;> split <;> (try split) <;> (try split) <;> (try split) <;> (try split) <;> omega
    have go := ih (m + 2) (l + 1) (by omega) (by omega) (by omega) (by omega)
    rw [w64 (x := l + 1) (by omega) (by omega), w64 (x := aft n k l + 1) (by omega) (by omega), w64 (x := aft n k l) (by omega) (by omega), z0, z2]
    by_cases e : l = atL n k
    · obtain ⟨e1, e2⟩ := hm1 e
      rw [if_pos e, if_pos e1, if_pos rfl, if_pos rfl, e2]
      simp only [bne_self_eq_false, Bool.false_eq_true, if_false]
      exact go
    · rw [if_neg e, if_pos (hm0 e), if_pos rfl, if_pos rfl]
      exact go

theorem OrderGoes : decklelaw07_OrderGoes.Pure := by
  intro n k hn hk
  refine ⟨180 + 20, ?_⟩
  unfold decklelaw07_OrderGoes.f
  rw [works_ok 180]
  simp only [Option.bind_some, if_true]
  by_cases a : n < 1
  · rw [if_pos a]; simp only [decklelaw07_OrderGoes.j0, if_true]
  · rw [if_neg a]
    by_cases b : n > 64
    · rw [if_pos b]; simp only [decklelaw07_OrderGoes.j0, if_true]
    · rw [if_neg b]
      by_cases c : k < 0
      · rw [if_pos c]; simp only [decklelaw07_OrderGoes.j0, if_true]
      · rw [if_neg c, w64 (x := 2 * n) (by omega) (by omega)]
        by_cases e : k ≥ 2 * n
        · rw [decide_eq_true e]; simp only [decklelaw07_OrderGoes.j0, if_true]
        · rw [decide_eq_false e]
          simp only [decklelaw07_OrderGoes.j0, Bool.false_eq_true, if_false]
          rw [at_ok n k 198 (by omega) (by omega) (by omega) (by omega)]
          simp only [Option.bind_some, if_true]
          exact goes_l0 n k (by omega) (by omega) (by omega) (by omega) n.toNat 199 0 (by omega) (by omega) (by omega) (by omega)

end Go.Proofs.Yteoleeanmhmdfaa.Pure
