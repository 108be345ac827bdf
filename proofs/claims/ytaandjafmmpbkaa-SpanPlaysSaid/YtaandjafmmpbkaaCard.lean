/- How many numbers a set has, by membership. -/
import Derived.Test.YtaandjafmmpbkaaOrder
namespace Go.Proofs.Ytaandjafmmpbkaa.PQ
open Go.RowKit Go.Proofs.YtaandjafmmpbkaaW.PrintWords Go.Proofs.YtaandjafmmpbkaaW.PrintLast Go.Proofs.YtaandjafmmpbkaaW.PrintMore
set_option linter.unusedVariables false
set_option linter.unusedSimpArgs false
/-- How many of the numbers below N. -/
def card (f : Int → Bool) : Nat → Int
  | 0 => 0
  | N + 1 => card f N + (if f N = true then 1 else 0)
theorem card_or (f g h : Int → Bool) (hf : ∀ n, f n = true ↔ g n = true ∨ h n = true) (hd : ∀ n, ¬ (g n = true ∧ h n = true)) : ∀ N, card f N = card g N + card h N
  | 0 => rfl
  | N + 1 => by
    unfold card
    rw [card_or f g h hf hd N]
    have h1 := hf (N : Int)
    have h2 := hd (N : Int)
    by_cases c1 : g N = true <;> by_cases c2 : h N = true
    · exact absurd ⟨c1, c2⟩ h2
    · rw [if_pos (h1.2 (.inl c1)), if_pos c1, if_neg c2]; omega
    · rw [if_pos (h1.2 (.inr c2)), if_neg c1, if_pos c2]; omega
    · rw [if_neg (fun q => (h1.1 q).elim c1 c2), if_neg c1, if_neg c2]; omega
theorem card_eq (f g : Int → Bool) (h : ∀ n, f n = true ↔ g n = true) : ∀ N, card f N = card g N
  | 0 => rfl
  | N + 1 => by
    unfold card
    rw [card_eq f g h N]
    by_cases c : g N = true
    · rw [if_pos c, if_pos ((h _).2 c)]
    · rw [if_neg c, if_neg (fun q => c ((h _).1 q))]
theorem card_no (f : Int → Bool) (h : ∀ n, ¬ (f n = true)) : ∀ N, card f N = 0
  | 0 => rfl
  | N + 1 => by
    unfold card
    rw [card_no f h N, if_neg (h _)]
    rfl
def seg (a b : Int) (n : Int) : Bool := decide (a ≤ n ∧ n < b)
theorem card_seg (a b : Int) (h0 : 0 ≤ a) (h1 : a ≤ b) : ∀ N : Nat, card (seg a b) N = min b N - min a N
  | 0 => by unfold card; omega
  | N + 1 => by
    unfold card
    rw [card_seg a b h0 h1 N]
    unfold seg
    by_cases c : a ≤ (N : Int) ∧ (N : Int) < b
    · rw [if_pos (decide_eq_true c)]; omega
    · rw [if_neg (by rw [decide_eq_false c]; decide)]; omega
/-- The spans' lengths together. -/
def sumL : List S27 → Int
  | [] => 0
  | x :: l => x.f1 - x.f0 + sumL l
theorem sumL_app : ∀ (p r : List S27), sumL (p ++ r) = sumL p + sumL r
  | [], r => by simp [sumL]
  | x :: p, r => by rw [List.cons_append, sumL, sumL, sumL_app p r]; omega
theorem cntK_sum (l : List S27) : ∀ k : Nat, k ≤ l.length → cntK l k = sumL (l.take k)
  | 0, _ => by simp [cntK, sumL]
  | k + 1, hk => by
    rw [cntK, cntK_sum l k (by omega), List.take_succ_eq_append_getElem (by omega), sumL_app, rd_mem l k (by omega)]
    simp [sumL]
theorem sum_card : ∀ {lo : Int} {l : List S27}, Sp lo l → -1 ≤ lo → sumL l = card (inB l) 4096
  | lo, [], _, _ => by rw [card_no _ in_nil]; rfl
  | lo, x :: l, hs, hlo => by
    obtain ⟨s0, s1, s2, s3⟩ := hs
    rw [sumL, sum_card s3 (by omega), card_or (inB (x :: l)) (seg x.f0 x.f1) (inB l) (fun n => by rw [in_cons]; unfold seg; rw [decide_eq_true_eq]) (fun n ⟨q, q2⟩ => by
      unfold seg at q
      rw [decide_eq_true_eq] at q
      have := Sp_in s3 n q2
      omega), card_seg _ _ (by omega) (by omega)]
    have e : min x.f1 ((4096 : Nat) : Int) - min x.f0 ((4096 : Nat) : Int) = x.f1 - x.f0 := by omega
    rw [e]
theorem cnt_card {l : List S27} (hs : Sp (-1) l) : cntK l l.length = card (inB l) 4096 := by
  rw [cntK_sum l _ (Nat.le_refl _), List.take_length, sum_card hs (by omega)]
/-- A span of numbers that are not in a set, put in: the count grows by just these. -/
theorem cnt_add {l l' : List S27} {a b : Int} (hs : Sp (-1) l) (hs' : Sp (-1) l') (hp : AddP l l' a b) (em : mayB a b = true) (hn : ∀ n, a ≤ n → n < b → ¬ (inB l n = true)) : cntK l' l'.length = cntK l l.length + (b - a) := by
  have hm : 0 ≤ a ∧ a ≤ b ∧ b ≤ 4096 := of_decide_eq_true em
  rw [cnt_card hs, cnt_card hs', card_or (inB l') (inB l) (seg a b) (fun n => by rw [hp n, em]; unfold seg; rw [decide_eq_true_eq]; simp) (fun n ⟨q, q2⟩ => by
    unfold seg at q2
    rw [decide_eq_true_eq] at q2
    exact hn n q2.1 q2.2 q), card_seg a b hm.1 hm.2.1]
  have e : min b ((4096 : Nat) : Int) - min a ((4096 : Nat) : Int) = b - a := by omega
  rw [e]
end Go.Proofs.Ytaandjafmmpbkaa.PQ
