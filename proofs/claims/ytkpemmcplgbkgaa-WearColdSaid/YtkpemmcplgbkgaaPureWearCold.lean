/- The law WearCold, the pure statement; of numbers of 64 bits. -/
import Derived.Test.YtkpemmcplgbkgaaCommon
import Derived.Test.YtkpemmcplgbkgaaPQx4
import Derived.Test.YtkpemmcplgbkgaaPQx6
namespace Go.Proofs.Ytkpemmcplgbkgaa.Pure
open Go.RowKit Go.Proofs.YtkpemmcplgbkgaaW.PrintWords Go.Proofs.YtkpemmcplgbkgaaW.PrintMore PQ
set_option linter.unusedVariables false
set_option linter.unusedSimpArgs false
theorem cnt_ok (l : List Int) (a : Int) : decklelaw22_count.f l a = some (ofI l a) := wof_ok l a
theorem rd_take (ys : List Int) (m j : Nat) (h : j < m) : rd (ys.take m) ((j : Nat) : Int) = rd ys ((j : Nat) : Int) := by
  unfold rd
  rw [Int.toNat_natCast, List.getD_eq_getElem?_getD, List.getD_eq_getElem?_getD, List.getElem?_take_of_lt h]
/-- What Cold answers. -/
def coldI (l ys used : List Int) (n : Int) : Int := if topI l ys - ofI l (leastI l used) < n then -1 else leastI l used
theorem cold_ok (l ys used : List Int) (n : Int) (hl : ∀ x ∈ l, (Lit.int .i64 x).wf = true) (h1 : 0 < used.length) (h2 : 0 < ys.length) : wear_Cold.f l ys used n = some (coldI l ys used n) := by
  have b1 := ofI_bd l hl (leastI l used)
  have b2 : 0 ≤ topI l ys ∧ topI l ys ≤ 9223372036854775807 := ofI_bd l hl _
  have b3 : wrap64 (topI l ys - ofI l (leastI l used)) = topI l ys - ofI l (leastI l used) := w64 (by omega) (by omega)
  unfold wear_Cold.f coldI
  rw [if_neg (by omega), least_ok l used h1, obind, top_ok l ys h2, obind, wof_ok, obind, b3]
  by_cases c : topI l ys - ofI l (leastI l used) < n
  · rw [if_pos c, if_pos c]
  · rw [if_neg c, if_neg c]
theorem cold_j2 (l ys : List Int) (n c b : Int) (hl : ∀ x ∈ l, (Lit.int .i64 x).wf = true) (hy : 0 < ys.length) (h : c = -1 ∨ (c = b ∧ n ≤ topI l ys - ofI l (leastI l ys))) (k : Nat) : decklelaw22_WearCold.j2 (k + 1) l ys n c b false = some true := by
  have ha := apart_ok l ys hl hy
  simp only [decklelaw22_WearCold.j2]
  rw [if_neg (by decide), ha, obind]
  by_cases c1 : c = -1
  · rw [if_pos c1, c1]
    by_cases g : topI l ys - ofI l (leastI l ys) ≥ n
    · rw [if_pos g]
    · rw [if_neg g]; rfl
  · rcases h with h | ⟨h, g⟩
    · exact absurd h c1
    · rw [if_neg c1, if_pos h, if_pos g]
theorem cold_end (l ys used : List Int) (n : Int) (hl : ∀ x ∈ l, (Lit.int .i64 x).wf = true) (hy : 0 < ys.length) (hu : 0 < used.length) (hsub : ofI l (leastI l ys) ≤ ofI l (leastI l used)) (k : Nat) (t : Int) (ht : t = topI l ys) (x36 x37 : Int) (x35 : List Int) (hx : ¬ x37 < x36) :
    decklelaw22_WearCold.l0 (k + 2) l ys n used (coldI l ys used n) t x35 x36 x37 = some true := by
  have b1 := ofI_bd l hl (leastI l used)
  have b2 : 0 ≤ topI l ys ∧ topI l ys ≤ 9223372036854775807 := ofI_bd l hl _
  have b3 : wrap64 (topI l ys - ofI l (leastI l used)) = topI l ys - ofI l (leastI l used) := w64 (by omega) (by omega)
  have j2 : ∀ c, (c = -1 ∨ (c = leastI l used ∧ n ≤ topI l ys - ofI l (leastI l ys))) → decklelaw22_WearCold.j2 (k + 1) l ys n c (leastI l used) false = some true := fun c hc => cold_j2 l ys n c _ hl hy hc k
  subst ht
  rw [decklelaw22_WearCold.l0, if_neg hx, least_ok l used hu, obind, cnt_ok, obind, b3]
  unfold coldI
  clear b3 b1 b2
  by_cases c : topI l ys - ofI l (leastI l used) < n
  · have j := j2 (-1) (Or.inl rfl)
    have e1 : decide (topI l ys - ofI l (leastI l used) ≥ n) = false := decide_eq_false (by omega)
    rw [if_pos c, if_neg (by decide), e1]
    by_cases b : leastI l used = -1
    · have e2 : decide (leastI l used ≥ 0) = false := decide_eq_false (by omega)
      rw [if_pos (by rw [b]; decide), e2]; exact j
    · rw [if_neg (by rw [beq_eq_false_iff_ne.2 (fun x => b x.symm)]; decide)]; exact j
  · have e1 : decide (topI l ys - ofI l (leastI l used) ≥ n) = true := decide_eq_true (by omega)
    have j := j2 (leastI l used) (Or.inr ⟨rfl, by omega⟩)
    rw [if_neg c, e1]
    by_cases b : leastI l used ≥ 0
    · rw [if_pos b, if_neg (by decide)]; exact j
    · rw [if_neg b, if_neg (by rw [beq_self_eq_true]; decide)]; exact j
theorem mx_bd (T O t : Int) (h0 : 0 ≤ t) (h1 : t ≤ T) (h2 : O ≤ T) : 0 ≤ mx t O ∧ mx t O ≤ T := by unfold mx; split <;> omega
theorem mx_l (T O t : Int) (h1 : t = T) (h2 : O ≤ T) : mx t O = T := by unfold mx; split <;> omega
theorem mx_r (T O t : Int) (h1 : O = T) (h2 : t ≤ T) : mx t O = T := by unfold mx; split <;> omega
theorem cold_l0 (l ys used : List Int) (n c T : Int) (hn : ys.length ≤ 200) (hb : ∀ j, j < ys.length → ofI l (rd ys ((j : Nat) : Int)) ≤ T)
    (hend : ∀ k x37, ¬ x37 < (ys.length : Int) → decklelaw22_WearCold.l0 (k + 2) l ys n used c T ys (ys.length : Int) x37 = some true) (d : Nat) :
    ∀ (i k : Nat) (t : Int), ys.length - i = d → i ≤ ys.length → d + 2 ≤ k → 0 ≤ t → t ≤ T → Aside0 (t = T ∨ ∃ j, i ≤ j ∧ j < ys.length ∧ ofI l (rd ys ((j : Nat) : Int)) = T) →
    decklelaw22_WearCold.l0 k l ys n used c t ys (ys.length : Int) (i : Int) = some true := by
  induction d with
  | zero =>
    intro i k t h1 h2 hk t0 t1 t2
    obtain ⟨k, rfl⟩ : ∃ j, k = j + 2 := ⟨k - 2, by omega⟩
    have ht : t = T := t2.out.elim id (fun ⟨j, x, y, _⟩ => by omega)
    rw [ht]
    exact hend k _ (by omega)
  | succ d ih =>
    intro i k t h1 h2 hk t0 t1 t2
    obtain ⟨k, rfl⟩ : ∃ j, k = j + 1 := ⟨k - 1, by omega⟩
    have c1 : ((i : Nat) : Int) < ((ys.length : Nat) : Int) := by omega
    have c0 : (0 : Int) ≤ ((i : Nat) : Int) := by omega
    have eI : wrap64 ((i : Int) + 1) = ((i + 1 : Nat) : Int) := by rw [w64 (by omega) (by omega)]; rfl
    have hbi := hb i (by omega)
    have bd := mx_bd T _ t t0 t1 hbi
    have g := ih (i + 1) k (mx t (ofI l (rd ys ((i : Nat) : Int)))) (by omega) (by omega) (by omega) bd.1 bd.2 (Aside0.mk (by
      rcases t2.out with h | ⟨j, x, y, z⟩
      · exact Or.inl (mx_l T _ t h hbi)
      · by_cases e : j = i
        · subst e; exact Or.inl (mx_r T _ t z t1)
        · exact Or.inr ⟨j, by omega, y, z⟩))
    rw [decklelaw22_WearCold.l0, if_pos c1, if_pos c0, if_pos c1, cnt_ok, obind, eI]
    exact g
theorem WearCold : decklelaw22_WearCold.Pure := by
  intro l ys n _ _ hl _ _ _ _
  refine ⟨301, ?_⟩
  unfold decklelaw22_WearCold.f
  rw [works_ok _ (by omega), obind, if_pos rfl]
  by_cases h0 : ys.length = 0
  · rw [if_pos (by omega)]; rfl
  · rw [if_neg (by omega)]
    by_cases h2 : ys.length > 200
    · rw [decide_eq_true (by omega)]; rfl
    · have hh : wrap64 (Int.tdiv (wrap64 ((ys.length : Int) + 1)) 2) = (((ys.length + 1) / 2 : Nat) : Int) := by
        rw [w64 (x := (ys.length : Int) + 1) (by omega) (by omega), Int.tdiv_eq_ediv_of_nonneg (by omega), w64 (by omega) (by omega)]; omega
      rw [decide_eq_false (by omega), decklelaw22_WearCold.j0, if_neg (by decide), hh, if_pos (by omega), if_pos (by omega), Int.toNat_natCast]
      have hu : (ys.take ((ys.length + 1) / 2)).length = (ys.length + 1) / 2 := by rw [List.length_take]; omega
      have hsub : ofI l (leastI l ys) ≤ ofI l (leastI l (ys.take ((ys.length + 1) / 2))) := by
        obtain ⟨j, hj, e⟩ := best_mem (lessP l) (ys.take ((ys.length + 1) / 2)) (ys.take ((ys.length + 1) / 2)).length (by omega)
        rw [rd_take ys _ j (by omega)] at e
        have := best_less l ys ys.length j (by omega)
        show ofI l (bestK (lessP l) ys ys.length) ≤ ofI l (bestK (lessP l) (ys.take ((ys.length + 1) / 2)) (ys.take ((ys.length + 1) / 2)).length)
        rw [e]
        omega
      obtain ⟨j, hj, e⟩ := best_mem (moreP l) ys ys.length (by omega)
      have tb : 0 ≤ topI l ys := (ofI_bd l hl _).1
      rw [cold_ok l ys _ n hl (by omega) (by omega), obind]
      exact cold_l0 l ys _ n _ (topI l ys) (by omega) (fun j hj => best_more l ys ys.length j hj) (fun k x37 hx => cold_end l ys _ n hl (by omega) (by omega) hsub k _ rfl _ _ _ hx) ys.length 0 300 0 (by omega) (by omega) (by omega) (by omega) tb (Aside0.mk (Or.inr ⟨j, by omega, hj, by show _ = ofI l (bestK (moreP l) ys ys.length); rw [e]⟩))
end Go.Proofs.Ytkpemmcplgbkgaa.Pure
