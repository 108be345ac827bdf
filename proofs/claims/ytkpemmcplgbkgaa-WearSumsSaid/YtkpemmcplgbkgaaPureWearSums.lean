/- The law WearSums, the pure statement; of numbers of 64 bits. -/
import Derived.Test.YtkpemmcplgbkgaaCommon
import Derived.Test.YtkpemmcplgbkgaaPQx4
namespace Go.Proofs.Ytkpemmcplgbkgaa.Pure
open Go.RowKit Go.Proofs.YtkpemmcplgbkgaaW.PrintWords Go.Proofs.YtkpemmcplgbkgaaW.PrintMore PQ
set_option linter.unusedVariables false
set_option linter.unusedSimpArgs false
def sumI (l m : List Int) (i : Nat) : Int := mn (ofI l i) 16777215 + mn (ofI m i) 16777215
def sumL (l m : List Int) (n : Nat) : List Int := (List.range n).map (sumI l m)
theorem sumL_length (l m : List Int) (n : Nat) : (sumL l m n).length = n := by unfold sumL; simp
theorem sumL_succ (l m : List Int) (n : Nat) : sumL l m (n + 1) = sumL l m n ++ [sumI l m n] := by unfold sumL; rw [List.range_succ, List.map_append]; rfl
theorem sumI_bd (l m : List Int) (hl : ∀ x ∈ l, (Lit.int .i64 x).wf = true) (hm : ∀ x ∈ m, (Lit.int .i64 x).wf = true) (i : Nat) : wrap64 (mn (ofI l i) 16777215 + mn (ofI m i) 16777215) = sumI l m i := by
  have h1 := ofI_bd l hl i
  have h2 := ofI_bd m hm i
  refine w64 ?_ ?_ <;> (unfold mn; split <;> split <;> omega)
theorem wsum_l0 (l m : List Int) (hl : ∀ x ∈ l, (Lit.int .i64 x).wf = true) (hm : ∀ x ∈ m, (Lit.int .i64 x).wf = true) (n : Nat) (hn : n ≤ 200) (d : Nat) :
    ∀ (i k : Nat), n - i = d → i ≤ n → d < k → wear_Sum.l0 k l m (sumL l m i) (n : Int) (i : Int) = some (sumL l m n) := by
  induction d with
  | zero =>
    intro i k h1 h2 hk
    obtain ⟨k, rfl⟩ : ∃ j, k = j + 1 := ⟨k - 1, by omega⟩
    obtain rfl : i = n := by omega
    simp only [wear_Sum.l0]
    rw [if_neg (by omega)]
  | succ d ih =>
    intro i k h1 h2 hk
    obtain ⟨k, rfl⟩ : ∃ j, k = j + 1 := ⟨k - 1, by omega⟩
    have c1 : ((i : Nat) : Int) < ((n : Nat) : Int) := by omega
    have eI : wrap64 ((i : Int) + 1) = ((i + 1 : Nat) : Int) := by rw [w64 (by omega) (by omega)]; rfl
    have c2 : (sumL l m i).length < 17592186044416 := by rw [sumL_length]; omega
    have g := ih (i + 1) k (by omega) (by omega) (by omega)
    rw [sumL_succ] at g
    simp only [wear_Sum.l0]
    rw [if_pos c1, wof_ok, obind, wof_ok, obind, if_pos c2, sumI_bd l m hl hm i, eI]
    exact g
theorem mx_nat (a b : Nat) : mx ((a : Nat) : Int) ((b : Nat) : Int) = ((max a b : Nat) : Int) := by
  unfold mx
  by_cases h : a < b
  · rw [if_pos (by omega)]; omega
  · rw [if_neg (by omega)]; omega
theorem wsum_ok (l m : List Int) (hl : ∀ x ∈ l, (Lit.int .i64 x).wf = true) (hm : ∀ x ∈ m, (Lit.int .i64 x).wf = true) (h1 : l.length ≤ 200) (h2 : m.length ≤ 200) (k : Nat) (hk : 300 ≤ k) : wear_Sum.f k l m = some (sumL l m (max l.length m.length)) := by
  unfold wear_Sum.f
  rw [mx_nat]
  have hn : max l.length m.length ≤ 200 := Nat.max_le.2 ⟨h1, h2⟩
  exact wsum_l0 l m hl hm _ hn _ 0 k rfl (by omega) (by omega)
theorem rsum_j1 (l m : List Int) (hl : ∀ x ∈ l, (Lit.int .i64 x).wf = true) (hm : ∀ x ∈ m, (Lit.int .i64 x).wf = true) (k i : Nat) (hi : i < 200) : deckleref22_Sum.j1 (k + 1) l m (sumL l m i) (i : Int) true = deckleref22_Sum.l0 k l m (sumL l m (i + 1)) ((i + 1 : Nat) : Int) := by
  have eI : wrap64 ((i : Int) + 1) = ((i + 1 : Nat) : Int) := by rw [w64 (by omega) (by omega)]; rfl
  have c2 : (sumL l m i).length < 17592186044416 := by rw [sumL_length]; omega
  simp only [deckleref22_Sum.j1]
  rw [if_pos trivial, rof_ok, obind, rof_ok, obind, if_pos c2, sumI_bd l m hl hm i, eI, sumL_succ]
theorem rsum_l0 (l m : List Int) (hl : ∀ x ∈ l, (Lit.int .i64 x).wf = true) (hm : ∀ x ∈ m, (Lit.int .i64 x).wf = true) (n : Nat) (hn : n ≤ 200) (he : n = max l.length m.length) (d : Nat) :
    ∀ (i k : Nat), n - i = d → i ≤ n → 2 * d + 2 ≤ k → deckleref22_Sum.l0 k l m (sumL l m i) (i : Int) = some (sumL l m n) := by
  have hmx : ∀ i : Nat, i < n ↔ (i < l.length ∨ i < m.length) := fun i => by
    omega
  induction d with
  | zero =>
    intro i k h1 h2 hk
    obtain ⟨k, rfl⟩ : ∃ j, k = j + 2 := ⟨k - 2, by omega⟩
    obtain rfl : i = n := by omega
    have := hmx i
    simp only [deckleref22_Sum.l0, deckleref22_Sum.j1]
    rw [if_neg (by omega), decide_eq_false (by omega), if_neg (by decide)]
  | succ d ih =>
    intro i k h1 h2 hk
    obtain ⟨k, rfl⟩ : ∃ j, k = j + 2 := ⟨k - 2, by omega⟩
    have hx := (hmx i).1 (by omega)
    have g := ih (i + 1) k (by omega) (by omega) (by omega)
    have j := rsum_j1 l m hl hm k i (by omega)
    rw [g] at j
    simp only [deckleref22_Sum.l0]
    by_cases c : i < l.length
    · rw [if_pos (by omega)]; exact j
    · rw [if_neg (by omega), decide_eq_true (by omega)]; exact j
theorem rsum_ok (l m : List Int) (hl : ∀ x ∈ l, (Lit.int .i64 x).wf = true) (hm : ∀ x ∈ m, (Lit.int .i64 x).wf = true) (h1 : l.length ≤ 200) (h2 : m.length ≤ 200) (k : Nat) (hk : 500 ≤ k) : deckleref22_Sum.f k l m = some (sumL l m (max l.length m.length)) := by
  unfold deckleref22_Sum.f
  have hn : max l.length m.length ≤ 200 := Nat.max_le.2 ⟨h1, h2⟩
  exact rsum_l0 l m hl hm _ hn rfl _ 0 k rfl (by omega) (by omega)
theorem same_l0 (x : List Int) (hx : x.length ≤ 200) (d : Nat) : ∀ (i k : Nat), x.length - i = d → i ≤ x.length → d < k → decklebook_SameInts.l0 k x x true (i : Int) = some true := by
  induction d with
  | zero =>
    intro i k h1 h2 hk
    obtain ⟨k, rfl⟩ : ∃ j, k = j + 1 := ⟨k - 1, by omega⟩
    simp only [decklebook_SameInts.l0]
    rw [if_pos trivial, if_neg (by omega)]
  | succ d ih =>
    intro i k h1 h2 hk
    obtain ⟨k, rfl⟩ : ∃ j, k = j + 1 := ⟨k - 1, by omega⟩
    have eI : wrap64 ((i : Int) + 1) = ((i + 1 : Nat) : Int) := by rw [w64 (by omega) (by omega)]; rfl
    simp only [decklebook_SameInts.l0]
    rw [if_pos trivial, if_pos (by omega), if_pos (by omega), if_pos (by omega), eI, beq_self_eq_true]
    exact ih (i + 1) k (by omega) (by omega) (by omega)
theorem same_ok (x : List Int) (hx : x.length ≤ 200) (k : Nat) (hk : 300 ≤ k) : decklebook_SameInts.f k x x = some true := by
  unfold decklebook_SameInts.f
  rw [beq_self_eq_true]
  exact same_l0 x hx x.length 0 k (by omega) (by omega) (by omega)
theorem spoil_l0 (n : Nat) (hn : n ≤ 200) (d : Nat) : ∀ (x : List Int) (i k : Nat), x.length = n → n - i = d → i ≤ n → d < k → ∃ r, decklebook_SpoilInts.l0 k x (n : Int) (i : Int) = some r := by
  induction d with
  | zero =>
    intro x i k hx h1 h2 hk
    obtain ⟨k, rfl⟩ : ∃ j, k = j + 1 := ⟨k - 1, by omega⟩
    simp only [decklebook_SpoilInts.l0]
    exact ⟨x, by rw [if_neg (by omega)]⟩
  | succ d ih =>
    intro x i k hx h1 h2 hk
    obtain ⟨k, rfl⟩ : ∃ j, k = j + 1 := ⟨k - 1, by omega⟩
    have eI : wrap64 ((i : Int) + 1) = ((i + 1 : Nat) : Int) := by rw [w64 (by omega) (by omega)]; rfl
    simp only [decklebook_SpoilInts.l0]
    rw [if_pos (by omega), if_pos (by omega), if_pos (by omega), eI]
    exact ih _ (i + 1) k (by rw [List.length_set]; exact hx) (by omega) (by omega) (by omega)
theorem sumL_comm (l m : List Int) (n : Nat) : sumL m l n = sumL l m n := by
  unfold sumL
  apply List.map_congr_left
  intro i _
  exact Int.add_comm _ _
theorem WearSums : decklelaw22_WearSums.Pure := by
  intro l m _ _ hl _ _ hm
  refine ⟨601, ?_⟩
  unfold decklelaw22_WearSums.f
  have jt : ∀ k, 20 ≤ k → decklelaw22_WearSums.j0 (k + 1) l m true = some true := fun k hk => by
    rw [decklelaw22_WearSums.j0, if_pos rfl, works_ok k hk, obind]
  by_cases h1 : l.length > 200
  · rw [if_pos (by omega)]; exact jt 600 (by omega)
  · rw [if_neg (by omega)]
    by_cases h2 : m.length > 200
    · rw [decide_eq_true (by omega)]; exact jt 600 (by omega)
    · rw [decide_eq_false (by omega), decklelaw22_WearSums.j0, if_neg (by decide)]
      have hn : max l.length m.length ≤ 200 := Nat.max_le.2 ⟨by omega, by omega⟩
      have hs : (sumL l m (max l.length m.length)).length ≤ 200 := by rw [sumL_length]; exact hn
      obtain ⟨r, hr⟩ := spoil_l0 (sumL l m (max l.length m.length)).length hs (sumL l m (max l.length m.length)).length _ 0 600 rfl (by omega) (by omega) (by omega)
      have hr' : decklebook_SpoilInts.f 600 (sumL l m (max l.length m.length)) = some r := hr
      have hc : max m.length l.length = max l.length m.length := Nat.max_comm _ _
      rw [wsum_ok l m hl hm (by omega) (by omega) 600 (by omega), obind, rsum_ok l m hl hm (by omega) (by omega) 600 (by omega), obind, same_ok _ hs 600 (by omega), obind, hr', obind, if_pos rfl, wsum_ok m l hm hl (by omega) (by omega) 600 (by omega), obind, obind, hc, sumL_comm, same_ok _ hs 600 (by omega), obind, if_pos rfl, works_ok _ (by omega), obind]
end Go.Proofs.Ytkpemmcplgbkgaa.Pure
