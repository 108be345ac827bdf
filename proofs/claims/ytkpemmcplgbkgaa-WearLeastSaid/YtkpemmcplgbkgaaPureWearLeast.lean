/- The law WearLeast, the pure statement; of numbers of 64 bits. -/
import Derived.Test.YtkpemmcplgbkgaaCommon
import Derived.Test.YtkpemmcplgbkgaaPQx4
import Derived.Test.YtkpemmcplgbkgaaPQx5
namespace Go.Proofs.Ytkpemmcplgbkgaa.Pure
open Go.RowKit Go.Proofs.YtkpemmcplgbkgaaW.PrintWords Go.Proofs.YtkpemmcplgbkgaaW.PrintMore PQ
set_option linter.unusedVariables false
set_option linter.unusedSimpArgs false
theorem cnt_ok (l : List Int) (a : Int) : decklelaw22_count.f l a = some (ofI l a) := wof_ok l a
theorem wl_l0 (l ys : List Int) (hl : ∀ x ∈ l, (Lit.int .i64 x).wf = true) (b a : Int) (hn : ys.length ≤ 200)
    (H1 : ∀ j, j < ys.length → ¬ (ofI l (rd ys ((j : Nat) : Int)) < ofI l b ∨ (ofI l (rd ys ((j : Nat) : Int)) = ofI l b ∧ rd ys ((j : Nat) : Int) < b)))
    (H2 : ∀ j, j < ys.length → ofI l (rd ys ((j : Nat) : Int)) - ofI l b ≤ a) (d : Nat) :
    ∀ (i m : Nat) (inn rch : Bool), ys.length - i = d → i ≤ ys.length → d < m → (inn = true ∨ ∃ j, i ≤ j ∧ j < ys.length ∧ rd ys ((j : Nat) : Int) = b) → (rch = true ∨ ∃ j, i ≤ j ∧ j < ys.length ∧ ofI l (rd ys ((j : Nat) : Int)) - ofI l b = a) →
    decklelaw22_WearLeast.l0 m l b a inn rch ys (ys.length : Int) (i : Int) = some true := by
  induction d with
  | zero =>
    intro i m inn rch h1 h2 hm p1 p2
    obtain ⟨m, rfl⟩ : ∃ j, m = j + 1 := ⟨m - 1, by omega⟩
    obtain rfl : inn = true := p1.elim id (fun ⟨j, x, y, _⟩ => by omega)
    obtain rfl : rch = true := p2.elim id (fun ⟨j, x, y, _⟩ => by omega)
    simp only [decklelaw22_WearLeast.l0]
    rw [if_neg (by omega), if_pos trivial]
  | succ d ih =>
    intro i m inn rch h1 h2 hm p1 p2
    obtain ⟨m, rfl⟩ : ∃ j, m = j + 1 := ⟨m - 1, by omega⟩
    have hi : i < ys.length := by omega
    have c1 : ((i : Nat) : Int) < ((ys.length : Nat) : Int) := by omega
    have c0 : (0 : Int) ≤ ((i : Nat) : Int) := by omega
    have eI : wrap64 ((i : Int) + 1) = ((i + 1 : Nat) : Int) := by rw [w64 (by omega) (by omega)]; rfl
    have n1 : ((inn || (rd ys ((i : Nat) : Int) == b)) = true ∨ ∃ j, i + 1 ≤ j ∧ j < ys.length ∧ rd ys ((j : Nat) : Int) = b) := by
      rcases p1 with h | ⟨j, x, y, z⟩
      · left; rw [h]; rfl
      · by_cases e : j = i
        · left; subst e; rw [z]; simp
        · right; exact ⟨j, by omega, y, z⟩
    have n2 : ((rch || (ofI l (rd ys ((i : Nat) : Int)) - ofI l b == a)) = true ∨ ∃ j, i + 1 ≤ j ∧ j < ys.length ∧ ofI l (rd ys ((j : Nat) : Int)) - ofI l b = a) := by
      rcases p2 with h | ⟨j, x, y, z⟩
      · left; rw [h]; rfl
      · by_cases e : j = i
        · left; subst e; rw [z]; simp
        · right; exact ⟨j, by omega, y, z⟩
    have g := ih (i + 1) m _ _ (by omega) (by omega) (by omega) n1 n2
    have b1 := ofI_bd l hl (rd ys ((i : Nat) : Int))
    have b2 := ofI_bd l hl b
    have q1 := H1 i hi
    have q2 := H2 i hi
    have hD : wrap64 (ofI l (rd ys ((i : Nat) : Int)) - ofI l b) = ofI l (rd ys ((i : Nat) : Int)) - ofI l b := w64 (by omega) (by omega)
    simp only [decklelaw22_WearLeast.l0]
    rw [if_pos c1, if_pos c0, if_pos c1, cnt_ok, obind, cnt_ok, obind, hD, eI]
    clear hD eI c1 c0 p1 p2 n1 n2 H1 H2 ih h1 h2 hm
    generalize ofI l (rd ys ((i : Nat) : Int)) = u at g q1 q2 b1 ⊢
    generalize rd ys ((i : Nat) : Int) = x at g q1 ⊢
    generalize ofI l b = v at g q1 q2 b2 ⊢
    have z0 : ¬ u - v < 0 := by omega
    have za : ¬ u - v > a := by omega
    cases inn <;> cases rch <;> by_cases z : u - v = 0
    · rw [if_neg (by decide), if_neg (by decide), if_neg z0, if_pos z, if_neg (by omega), if_neg za]; exact g
    · rw [if_neg (by decide), if_neg (by decide), if_neg z0, if_neg z, if_neg za]; exact g
    · rw [if_neg (by decide), if_pos rfl, if_neg z0, if_pos z, if_neg (by omega), if_neg za]; exact g
    · rw [if_neg (by decide), if_pos rfl, if_neg z0, if_neg z, if_neg za]; exact g
    · rw [if_pos rfl, if_neg (by decide), if_neg z0, if_pos z, if_neg (by omega), if_neg za]; exact g
    · rw [if_pos rfl, if_neg (by decide), if_neg z0, if_neg z, if_neg za]; exact g
    · rw [if_pos rfl, if_pos rfl, if_neg z0, if_pos z, if_neg (by omega), if_neg za]; exact g
    · rw [if_pos rfl, if_pos rfl, if_neg z0, if_neg z, if_neg za]; exact g
theorem WearLeast : decklelaw22_WearLeast.Pure := by
  intro l ys _ _ hl _ _ _
  refine ⟨301, ?_⟩
  unfold decklelaw22_WearLeast.f
  rw [works_ok _ (by omega), obind, if_pos rfl]
  by_cases h0 : ys.length = 0
  · rw [if_pos (by omega)]; rfl
  · rw [if_neg (by omega)]
    by_cases h2 : ys.length > 200
    · rw [decide_eq_true (by omega)]; rfl
    · rw [decide_eq_false (by omega)]
      have j0 : ∀ m, decklelaw22_WearLeast.j0 (m + 1) l ys false = (wear_Least.f l ys).bind fun t158 => (wear_Apart.f l ys).bind fun t159 => decklelaw22_WearLeast.l0 m l t158 t159 false false ys (ys.length : Int) 0 := fun m => by rw [decklelaw22_WearLeast.j0, if_neg (by decide)]
      rw [j0 300, least_ok l ys (by omega), obind, apart_ok l ys hl (by omega), obind]
      obtain ⟨j, hj, e⟩ := best_mem (lessP l) ys ys.length (by omega)
      obtain ⟨i, hi, f⟩ := best_mem (moreP l) ys ys.length (by omega)
      refine wl_l0 l ys hl (leastI l ys) (topI l ys - ofI l (leastI l ys)) (by omega) (fun j hj => best_less l ys ys.length j hj) (fun j hj => ?_) ys.length 0 300 false false (by omega) (by omega) (by omega) (Or.inr ⟨j, by omega, hj, e.symm⟩) (Or.inr ⟨i, by omega, hi, ?_⟩)
      · have := best_more l ys ys.length j hj
        show ofI l (rd ys ((j : Nat) : Int)) - ofI l (leastI l ys) ≤ ofI l (bestK (moreP l) ys ys.length) - ofI l (leastI l ys)
        omega
      · show ofI l (rd ys ((i : Nat) : Int)) - ofI l (leastI l ys) = ofI l (bestK (moreP l) ys ys.length) - ofI l (leastI l ys)
        rw [f]
end Go.Proofs.Ytkpemmcplgbkgaa.Pure
