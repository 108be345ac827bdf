/- The order law Staggers: for all lines and steps the law's function answers true: the states of the lines fall from line to line and at most two are foggy. No condition. -/
import Derived.Test.YteoleeanmhmdfaaPQx7
import Derived.Test.YteoleeanmhmdfaaCommon
namespace Go.Proofs.Yteoleeanmhmdfaa.Pure
open Go.RowKit Go.Proofs.Yteoleeanmhmdfaa.PQ Go.Proofs.YteoleeanmhmdfaaW.PrintWords Go.Proofs.YteoleeanmhmdfaaW.PrintLast Go.Proofs.YteoleeanmhmdfaaW.PrintMore

/-- What the loop has counted (f) and seen last (p) ahead of line l. -/
def Seen (n k f p l : Int) : Prop := 0 ≤ f ∧ f ≤ 2 ∧ (l = 0 → p = 2 ∧ f = 0) ∧ (0 < l → p = aft n k (l - 1)) ∧ (0 < l → aft n k (l - 1) = 0 → f ≤ 2) ∧
  (0 < l → aft n k (l - 1) = 2 → f = 0) ∧ (l = 1 → aft n k 0 = 1 → f = 1) ∧ (1 < l → aft n k (l - 1) = 1 → aft n k (l - 2) = 2 → f = 1) ∧ (1 < l → aft n k (l - 1) = 1 → aft n k (l - 2) = 1 → f = 2)

theorem stag_l0 (n k : Int) (h1 : 1 ≤ n) (h2 : n ≤ 64) (h3 : 0 ≤ k) (h4 : k ≤ 2 * n) (d : Nat) : ∀ (m : Nat) (f p l : Int), 0 ≤ l → l ≤ n → n - l = d → Seen n k f p l → 4 * d + 8 ≤ m → decklelaw07_OrderStaggers.l0 m n k f p l = some true := by
  induction d with
  | zero =>
    intro m f p l h5 h6 hd hs hm
    obtain ⟨m, rfl⟩ : ∃ j, m = j + 1 := ⟨m - 1, by omega⟩
    simp only [decklelaw07_OrderStaggers.l0]
    rw [if_neg (by omega)]
    have := hs.2.1
    rw [decide_eq_true (show f ≤ 2 by omega)]
  | succ d ih =>
    intro m f p l h5 h6 hd hs hm
    obtain ⟨m, rfl⟩ : ∃ j, m = j + 7 := ⟨m - 7, by omega⟩
    simp only [decklelaw07_OrderStaggers.l0]
    rw [if_pos (by omega), after_ok n k l (m + 4) h1 h2 h3 h4 h5 (by omega)]
    simp only [Option.bind_some, if_true]
    have ha : 0 ≤ aft n k l ∧ aft n k l ≤ 2 := by unfold aft; split <;> (try split) <;> omega
    have hp : aft n k l ≤ p := by
      obtain ⟨-, -, z, q, -⟩ := hs
      by_cases e : l = 0
      · have := z e; omega
      · rw [q (by omega)]
        unfold aft plS plF
        have e1 : ¬ (l - 1 = n - 1) := by omega
        rw [if_neg e, if_neg e1]
        split <;> split <;> (try split) <;> (try split) <;> (try split) <;> omega
    rw [if_neg (by omega), if_neg (by omega), decide_eq_false (show ¬ (aft n k l > p) by omega)]
    simp only [decklelaw07_OrderStaggers.j2, Bool.false_eq_true, if_false]
    have hnext : Seen n k (if aft n k l = 1 then f + 1 else f) (aft n k l) (l + 1) := by
      obtain ⟨a1, a2, a3, a4, a5, a6, a7, a8, a9⟩ := hs
      have e1 : l + 1 - 1 = l := by omega
      have e2 : l + 1 - 2 = l - 1 := by omega
      unfold Seen
      rw [e1, e2]
      have key : 1 < l → aft n k l = 1 → aft n k (l - 1) = 1 → aft n k (l - 2) = 2 := by
        intro hl
        unfold aft plS plF
        rw [if_neg (show ¬ (l - 1 = n - 1) by omega), if_neg (show ¬ (l - 2 = n - 1) by omega), if_neg (show ¬ l = 0 by omega), if_neg (show ¬ (l - 1) = 0 by omega)]
        intro x y
        have hk1 : k > 2 * l - 1 := by
          by_cases c : k > 2 * l - 1
          · exact c
          · rw [if_neg c] at x; split at x <;> omega
        rw [if_pos (show k > 2 * (l - 2) + 2 by omega)]
      have key0 : aft n k l = 2 → 0 < l → aft n k (l - 1) = 2 := by
        unfold aft plS plF
        intro x hl
        rw [if_neg (show ¬ (l - 1 = n - 1) by omega)]
        have hk1 : k > (if l = n - 1 then 2 * n - 1 else 2 * l + 2) := by
          by_cases c : k > (if l = n - 1 then 2 * n - 1 else 2 * l + 2)
          · exact c
          · rw [if_neg c] at x; split at x <;> omega
        rw [if_pos (show k > 2 * (l - 1) + 2 by split at hk1 <;> omega)]
      have hb : 0 < l → 0 ≤ aft n k (l - 1) ∧ aft n k (l - 1) ≤ 2 := by intro _; unfold aft; split <;> (try split) <;> omega
      have hd2 : 0 < l → aft n k l ≤ aft n k (l - 1) := by
        intro hl; have := a4 hl; omega
      have e3 : l = 1 → aft n k (l - 1) = aft n k 0 := by intro e; subst e; rfl
      have e4 : l = 0 → aft n k l = aft n k 0 := by intro e; subst e; rfl
      generalize aft n k l = A at *
      generalize aft n k (l - 1) = B at *
      generalize aft n k (l - 2) = C at *
      generalize aft n k 0 = D at *
      clear ih
      by_cases c1 : A = 1
      · rw [if_pos c1]
        by_cases l0 : l = 0
        · have := a3 l0
          refine ⟨by omega, by omega, by omega, by omega, by omega, by omega, by omega, by omega, by omega⟩
        · have hB := hb (by omega)
          by_cases l1 : l = 1
          · by_cases b2 : B = 2
            · have := a6 (by omega) b2
              refine ⟨by omega, by omega, by omega, by omega, by omega, by omega, by omega, by omega, by omega⟩
            · have b1 : B = 1 := by have := hd2 (by omega); omega
              have := a7 l1 (by have := e3 l1; omega)
              refine ⟨by omega, by omega, by omega, by omega, by omega, by omega, by omega, by omega, by omega⟩
          · by_cases b2 : B = 2
            · have := a6 (by omega) b2
              refine ⟨by omega, by omega, by omega, by omega, by omega, by omega, by omega, by omega, by omega⟩
            · have b1 : B = 1 := by have := hd2 (by omega); omega
              have c2 := key (by omega) c1 b1
              have := a8 (by omega) b1 c2
              refine ⟨by omega, by omega, by omega, by omega, by omega, by omega, by omega, by omega, by omega⟩
      · rw [if_neg c1]
        refine ⟨by omega, by omega, by omega, by omega, by omega, ?_, by omega, by omega, by omega⟩
        intro _ hA
        by_cases l0 : l = 0
        · exact (a3 l0).2
        · exact a6 (by omega) (key0 hA (by omega))
    have hf : wrap64 (f + 1) = f + 1 := w64 (by have := hs.1; omega) (by have := hs.2.1; omega)
    have tail : ∀ f', Seen n k f' (aft n k l) (l + 1) → decklelaw07_OrderStaggers.j3 (m + 5) n k f' l (aft n k l) = some true := by
      intro f' hs'
      simp only [decklelaw07_OrderStaggers.j3]
      rw [w64 (x := l + 1) (by omega) (by omega)]
      have go := ih (m + 3) f' (aft n k l) (l + 1) (by omega) (by omega) (by omega) hs' (by omega)
      by_cases c2 : aft n k l = 2
      · rw [if_pos c2]
        by_cases hl : l + 1 < n
        · rw [decide_eq_true hl]
          simp only [decklelaw07_OrderStaggers.j4, if_true]
          rw [w64 (x := l + 1) (by omega) (by omega), after_ok n k (l + 1) (m + 1) h1 h2 h3 h4 (by omega) hl]
          simp only [Option.bind_some]
          have hne : ¬ aft n k (l + 1) = 0 := by
            unfold aft plS plF at c2 ⊢
            rw [if_neg (show ¬ l = n - 1 by omega)] at c2
            have hk : k > 2 * l + 2 := by
              by_cases c : k > 2 * l + 2
              · exact c
              · rw [if_neg c] at c2; split at c2 <;> omega
            rw [if_neg (show ¬ l + 1 = 0 by omega), if_pos (show k > 2 * (l + 1) - 1 by omega)]
            split <;> omega
          rw [if_neg hne]
          exact go
        · rw [decide_eq_false hl]
          simp only [decklelaw07_OrderStaggers.j4, Bool.false_eq_true, if_false]
          rw [w64 (x := l + 1) (by omega) (by omega)]
          exact go
      · rw [if_neg c2]
        simp only [decklelaw07_OrderStaggers.j4, Bool.false_eq_true, if_false]
        rw [w64 (x := l + 1) (by omega) (by omega)]
        exact go
    by_cases c1 : aft n k l = 1
    · rw [if_pos c1, hf]
      rw [if_pos c1] at hnext
      exact tail _ hnext
    · rw [if_neg c1]
      rw [if_neg c1] at hnext
      exact tail _ hnext

theorem OrderStaggers : decklelaw07_OrderStaggers.Pure := by
  intro n k hn hk
  refine ⟨480 + 20, ?_⟩
  unfold decklelaw07_OrderStaggers.f
  rw [works_ok 480]
  simp only [Option.bind_some, if_true]
  by_cases a : n < 1
  · rw [if_pos a]; simp only [decklelaw07_OrderStaggers.j0, if_true]
  · rw [if_neg a]
    by_cases b : n > 64
    · rw [if_pos b]; simp only [decklelaw07_OrderStaggers.j0, if_true]
    · rw [if_neg b]
      by_cases c : k < 0
      · rw [if_pos c]; simp only [decklelaw07_OrderStaggers.j0, if_true]
      · rw [if_neg c, w64 (x := 2 * n) (by omega) (by omega)]
        by_cases e : k > 2 * n
        · rw [decide_eq_true e]; simp only [decklelaw07_OrderStaggers.j0, if_true]
        · rw [decide_eq_false e]
          simp only [decklelaw07_OrderStaggers.j0, Bool.false_eq_true, if_false]
          exact stag_l0 n k (by omega) (by omega) (by omega) (by omega) n.toNat 499 0 2 0 (by omega) (by omega) (by omega) ⟨by omega, by omega, by omega, by omega, by omega, by omega, by omega, by omega, by omega⟩ (by omega)

end Go.Proofs.Yteoleeanmhmdfaa.Pure
