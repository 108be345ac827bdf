/- What the package's functions answer: plain numbers of lists; of numbers of 64 bits. -/
import Derived.Test.YtkpemmcplgbkgaaPQx1
import Derived.Test.YtkpemmcplgbkgaaPQx2
namespace Go.Proofs.Ytkpemmcplgbkgaa.Pure
open Go.RowKit Go.Proofs.YtkpemmcplgbkgaaW.PrintWords Go.Proofs.YtkpemmcplgbkgaaW.PrintMore PQ
set_option linter.unusedVariables false
set_option linter.unusedSimpArgs false
/-- Not by 'rfl': so the kernel never compares two binds part by part. -/
theorem obind {α β : Type} (a : α) (f : α → Option β) : (some a).bind f = f a := by
  cases h : f a <;> simp [h]
theorem w64 {x : Int} (h0 : -9223372036854775808 ≤ x) (h1 : x ≤ 9223372036854775807) : wrap64 x = x := by
  unfold wrap64; omega
theorem i64_bounds {x : Int} (h : (Lit.int .i64 x).wf = true) : -9223372036854775808 ≤ x ∧ x ≤ 9223372036854775807 := by
  simp [Lit.wf, IntKind.min, IntKind.max, IntKind.bits, IntKind.signed] at h
  omega
theorem lift {α : Type} (F : Nat → Option α) (hm : ∀ k, LeO (F k) (F (k + 1))) {a : Nat} {r : α} (h : F a = some r) : ∀ d, F (a + d) = some r
  | 0 => h
  | d + 1 => hm _ _ (lift F hm h d)
theorem lift' {α : Type} (F : Nat → Option α) (hm : ∀ k, LeO (F k) (F (k + 1))) {a m : Nat} {r : α} (h : F a = some r) (hle : a ≤ m) : F m = some r := by
  obtain ⟨d, rfl⟩ : ∃ d, m = a + d := ⟨m - a, by omega⟩
  exact lift F hm h d
theorem ofI_cases (l : List Int) (a : Int) : (a < 0 ∨ (l.length : Int) ≤ a) ∧ ofI l a = 0 ∨ (0 ≤ a ∧ a < (l.length : Int)) ∧ ofI l a = mx (rd l a) 0 := by
  unfold ofI
  by_cases h : a < 0 ∨ (l.length : Int) ≤ a
  · left; exact ⟨h, if_pos h⟩
  · right; exact ⟨by omega, if_neg h⟩
theorem wof_ok (l : List Int) (a : Int) : wear_of.f l a = some (ofI l a) := by
  unfold wear_of.f
  rcases ofI_cases l a with ⟨h, e⟩ | ⟨h, e⟩
  · rw [e]
    by_cases h0 : a < 0
    · rw [if_pos h0]
    · rw [if_neg h0, if_pos (by omega)]
  · rw [e, if_neg (by omega), if_neg (by omega), if_pos h.1, if_pos h.2]
theorem rof_ok (l : List Int) (a : Int) : deckleref22_Of.f l a = some (ofI l a) := by
  unfold deckleref22_Of.f
  rcases ofI_cases l a with ⟨h, e⟩ | ⟨h, e⟩
  · rw [e]
    by_cases h0 : a < 0
    · rw [if_pos h0]
    · rw [if_neg h0, if_pos (by omega)]
  · rw [e, if_neg (by omega), if_neg (by omega), if_pos h.1, if_pos h.2]
    unfold mx
    by_cases z : rd l a < 0
    · rw [if_pos z, if_pos z]
    · rw [if_neg z, if_neg z]
theorem rd_bd (l : List Int) (hl : ∀ x ∈ l, (Lit.int .i64 x).wf = true) (a : Int) : -9223372036854775808 ≤ rd l a ∧ rd l a ≤ 9223372036854775807 := by
  unfold rd
  rw [List.getD_eq_getElem?_getD]
  cases e : l[a.toNat]? with
  | none => show -9223372036854775808 ≤ (0 : Int) ∧ (0 : Int) ≤ 9223372036854775807; omega
  | some b => exact i64_bounds (hl b (List.mem_of_getElem? e))
theorem ofI_bd (l : List Int) (hl : ∀ x ∈ l, (Lit.int .i64 x).wf = true) (a : Int) : 0 ≤ ofI l a ∧ ofI l a ≤ 9223372036854775807 := by
  have := rd_bd l hl a
  rcases ofI_cases l a with ⟨h, e⟩ | ⟨h, e⟩
  · rw [e]; omega
  · rw [e]; unfold mx; split <;> omega
theorem less_iff (l : List Int) (a b : Int) : lessP l a b = true ↔ (ofI l a < ofI l b ∨ (ofI l a = ofI l b ∧ a < b)) := by
  unfold lessP; simp
theorem more_iff (l : List Int) (a b : Int) : moreP l a b = true ↔ ofI l b < ofI l a := by
  unfold moreP; simp
theorem best_mem (P : Int → Int → Bool) (ys : List Int) : ∀ k, 0 < k → ∃ j, j < k ∧ bestK P ys k = rd ys ((j : Nat) : Int)
  | 0, h => absurd h (by omega)
  | k + 1, _ => by
    by_cases c : k = 0 ∨ P (rd ys k) (bestK P ys k) = true
    · exact ⟨k, by omega, if_pos c⟩
    · obtain ⟨j, hj, e⟩ := best_mem P ys k (by omega)
      exact ⟨j, by omega, (if_neg c).trans e⟩
theorem best_less (l ys : List Int) : ∀ k j, j < k → ¬ (ofI l (rd ys ((j : Nat) : Int)) < ofI l (bestK (lessP l) ys k) ∨ (ofI l (rd ys ((j : Nat) : Int)) = ofI l (bestK (lessP l) ys k) ∧ rd ys ((j : Nat) : Int) < bestK (lessP l) ys k))
  | 0, j, h => absurd h (by omega)
  | k + 1, j, hj => by
    have ih := best_less l ys k
    by_cases c : k = 0 ∨ lessP l (rd ys k) (bestK (lessP l) ys k) = true
    · have e : bestK (lessP l) ys (k + 1) = rd ys ((k : Nat) : Int) := if_pos c
      rw [e]
      by_cases hk : j = k
      · subst hk; omega
      · have c' := c.elim (fun z => absurd z (by omega)) id
        rw [less_iff] at c'
        have := ih j (by omega)
        omega
    · have e : bestK (lessP l) ys (k + 1) = bestK (lessP l) ys k := if_neg c
      rw [e]
      by_cases hk : j = k
      · subst hk
        rw [← less_iff]; exact fun x => c (Or.inr x)
      · exact ih j (by omega)
theorem best_more (l ys : List Int) : ∀ k j, j < k → ofI l (rd ys ((j : Nat) : Int)) ≤ ofI l (bestK (moreP l) ys k)
  | 0, j, h => absurd h (by omega)
  | k + 1, j, hj => by
    have ih := best_more l ys k
    by_cases c : k = 0 ∨ moreP l (rd ys k) (bestK (moreP l) ys k) = true
    · have e : bestK (moreP l) ys (k + 1) = rd ys ((k : Nat) : Int) := if_pos c
      rw [e]
      by_cases hk : j = k
      · subst hk; omega
      · have c' := c.elim (fun z => absurd z (by omega)) id
        rw [more_iff] at c'
        have := ih j (by omega)
        omega
    · have e : bestK (moreP l) ys (k + 1) = bestK (moreP l) ys k := if_neg c
      rw [e]
      by_cases hk : j = k
      · subst hk
        have : ¬ moreP l (rd ys j) (bestK (moreP l) ys j) = true := fun x => c (Or.inr x)
        rw [more_iff] at this
        omega
      · exact ih j (by omega)
def leastI (l ys : List Int) : Int := bestK (lessP l) ys ys.length
def topI (l ys : List Int) : Int := ofI l (bestK (moreP l) ys ys.length)
theorem least_ok (l ys : List Int) (h : 0 < ys.length) : wear_Least.f l ys = some (leastI l ys) := by
  unfold wear_Least.f; rw [if_neg (by omega)]; rfl
theorem top_ok (l ys : List Int) (h : 0 < ys.length) : wear_greatest.f l ys = some (topI l ys) := by
  unfold wear_greatest.f; rw [if_neg (by omega)]; rfl
theorem apart_ok (l ys : List Int) (hl : ∀ x ∈ l, (Lit.int .i64 x).wf = true) (h : 0 < ys.length) : wear_Apart.f l ys = some (topI l ys - ofI l (leastI l ys)) := by
  unfold wear_Apart.f
  have b1 := ofI_bd l hl (leastI l ys)
  have b2 : 0 ≤ topI l ys ∧ topI l ys ≤ 9223372036854775807 := ofI_bd l hl _
  have b3 : wrap64 (topI l ys - ofI l (leastI l ys)) = topI l ys - ofI l (leastI l ys) := w64 (by omega) (by omega)
  rw [if_neg (by omega), top_ok l ys h, obind, least_ok l ys h, obind, wof_ok, obind, b3]
theorem works20 : decklelaw22_works.f 20 = some true := by decide +kernel
theorem works_ok (m : Nat) (hm : 20 ≤ m) : decklelaw22_works.f m = some true :=
  lift' (fun k => decklelaw22_works.f k) (fun k => decklelaw22_works.mono k) works20 hm
end Go.Proofs.Ytkpemmcplgbkgaa.Pure
