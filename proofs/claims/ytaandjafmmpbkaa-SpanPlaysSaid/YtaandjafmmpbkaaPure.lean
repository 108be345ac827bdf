/- What the numbers of a set are, in plain terms. -/
import Derived.Test.YtaandjafmmpbkaaAsks
namespace Go.Proofs.Ytaandjafmmpbkaa.PQ
open Go.RowKit Go.Proofs.YtaandjafmmpbkaaW.PrintWords Go.Proofs.YtaandjafmmpbkaaW.PrintLast Go.Proofs.YtaandjafmmpbkaaW.PrintMore
set_option linter.unusedVariables false
set_option linter.unusedSimpArgs false
theorem in_cons (x : S27) (l : List S27) (n : Int) : inB (x :: l) n = true ↔ (x.f0 ≤ n ∧ n < x.f1) ∨ inB l n = true := by
  unfold inB
  rw [List.any_cons, Bool.or_eq_true, Bool.and_eq_true, decide_eq_true_eq, decide_eq_true_eq]
theorem in_nil (n : Int) : ¬ (inB [] n = true) := by simp [inB]
theorem in_app (p r : List S27) (n : Int) : inB (p ++ r) n = true ↔ inB p n = true ∨ inB r n = true := by
  unfold inB
  rw [List.any_append, Bool.or_eq_true]
/-- Where the last span ends. -/
def endF : Int → List S27 → Int
  | lo, [] => lo
  | _, x :: l => endF x.f1 l
theorem Sp_app : ∀ (lo : Int) (p r : List S27), Sp lo (p ++ r) ↔ Sp lo p ∧ Sp (endF lo p) r
  | lo, [], r => by simp [Sp, endF]
  | lo, x :: p, r => by
    rw [List.cons_append, Sp, Sp, endF, Sp_app x.f1 p r]
    constructor
    · rintro ⟨a, b, c, d, e⟩; exact ⟨⟨a, b, c, d⟩, e⟩
    · rintro ⟨⟨a, b, c, d⟩, e⟩; exact ⟨a, b, c, d, e⟩
theorem endF_lt : ∀ (lo : Int) (p : List S27) (n : Int), lo < n → (∀ x ∈ p, x.f1 < n) → endF lo p < n
  | _, [], _, h, _ => h
  | _, x :: p, n, _, h => endF_lt x.f1 p n (h x (by simp)) (fun y hy => h y (by simp [hy]))
theorem Sp_in : ∀ {lo : Int} {l : List S27}, Sp lo l → ∀ n, inB l n = true → lo < n ∧ n < 4096
  | lo, [], _, n, h => absurd h (in_nil n)
  | lo, x :: l, hs, n, h => by
    obtain ⟨h0, h1, h2, h3⟩ := hs
    rcases (in_cons x l n).1 h with h | h
    · omega
    · have := Sp_in h3 n h
      omega
theorem rd_mem (l : List S27) (k : Nat) (h : k < l.length) : rd_T27 l (k : Int) = l[k] := by
  unfold rd_T27; rw [Int.toNat_natCast, List.getD_eq_getElem?_getD, List.getElem?_eq_getElem h]; rfl
theorem At.take {l : List S27} {n : Int} {i : Nat} (h : At l n i) : ∀ x ∈ l.take i, x.f1 < n := by
  intro x hx
  obtain ⟨k, hk, rfl⟩ := List.mem_iff_getElem.1 hx
  rw [List.length_take] at hk
  rw [List.getElem_take, ← rd_mem l k (by omega)]
  exact h.lo k (by omega)
theorem At.drop {l : List S27} {n : Int} {i : Nat} (h : At l n i) : ∀ x ∈ l.drop i, n ≤ x.f1 := by
  intro x hx
  obtain ⟨k, hk, rfl⟩ := List.mem_iff_getElem.1 hx
  rw [List.length_drop] at hk
  rw [List.getElem_drop, ← rd_mem l (i + k) (by omega)]
  exact h.hi (i + k) (by omega) (by omega)
theorem addG_ok : ∀ (r : List S27) (e x0 x1 : Int), Sp e r → e < x0 → x0 < x1 → x1 ≤ 4096 → (∀ y ∈ r, x0 ≤ y.f1) →
    e < (addG ⟨x0, x1⟩ r).1.f0 ∧ (addG ⟨x0, x1⟩ r).1.f0 < (addG ⟨x0, x1⟩ r).1.f1 ∧ (addG ⟨x0, x1⟩ r).1.f1 ≤ 4096 ∧ Sp (addG ⟨x0, x1⟩ r).1.f1 (addG ⟨x0, x1⟩ r).2 ∧
    ∀ n, inB ((addG ⟨x0, x1⟩ r).1 :: (addG ⟨x0, x1⟩ r).2) n = true ↔ inB r n = true ∨ (x0 ≤ n ∧ n < x1)
  | [], e, x0, x1, _, h0, h1, h2, _ => ⟨h0, h1, h2, trivial, fun n => by
      unfold addG
      rw [in_cons]
      exact Or.comm⟩
  | y :: r, e, x0, x1, hs, h0, h1, h2, hy => by
    obtain ⟨s0, s1, s2, s3⟩ := hs
    have hy0 := hy y (by simp)
    unfold addG
    by_cases h : y.f0 ≤ x1
    · rw [if_pos h]
      have ih := addG_ok r e (min x0 y.f0) (max x1 y.f1) (s3.weak (by omega)) (by omega) (by omega) (by omega) (fun z hz => by have := hy z (by simp [hz]); omega)
      refine ⟨ih.1, ih.2.1, ih.2.2.1, ih.2.2.2.1, fun n => ?_⟩
      rw [ih.2.2.2.2 n, in_cons]
      constructor
      · rintro (q | q)
        · exact .inl (.inr q)
        · by_cases c : x0 ≤ n ∧ n < x1
          · exact .inr c
          · exact .inl (.inl (by omega))
      · rintro ((q | q) | q)
        · exact .inr (by omega)
        · exact .inl q
        · exact .inr (by omega)
    · rw [if_neg h]
      refine ⟨h0, h1, h2, ⟨by simpa using h, s1, s2, s3⟩, fun n => ?_⟩
      rw [in_cons]
      exact Or.comm
theorem add_ok {l : List S27} {lo a b : Int} {i : Nat} (hS : Sp lo l) (hlo : lo < a) (hi : At l a i) (hab : a < b) (hb : b ≤ 4096) :
    Sp lo (addL l ⟨a, b⟩ i) ∧ ∀ n, inB (addL l ⟨a, b⟩ i) n = true ↔ inB l n = true ∨ (a ≤ n ∧ n < b) := by
  have hs := hS
  rw [← List.take_append_drop i l, Sp_app] at hs
  have h := addG_ok (l.drop i) _ a b hs.2 (endF_lt lo _ a hlo hi.take) hab hb hi.drop
  have hf : [(addG ⟨a, b⟩ (l.drop i)).1].filter neB = [(addG ⟨a, b⟩ (l.drop i)).1] := by
    rw [List.filter_cons]
    have : neB (addG ⟨a, b⟩ (l.drop i)).1 = true := decide_eq_true h.2.1
    rw [if_pos this]; rfl
  unfold addL
  rw [hf, List.append_assoc]
  refine ⟨(Sp_app _ _ _).2 ⟨hs.1, h.1, h.2.1, h.2.2.1, h.2.2.2.1⟩, fun n => ?_⟩
  rw [in_app, List.cons_append, List.nil_append, h.2.2.2.2 n, ← or_assoc, ← in_app, List.take_append_drop]
theorem remG_ok (a b : Int) (hab : a < b) : ∀ (r : List S27) (e : Int), Sp e r → (∀ y ∈ r, a < y.f1) →
    Sp e ((remG a b r).1.filter neB ++ (remG a b r).2) ∧ ∀ n, inB ((remG a b r).1.filter neB ++ (remG a b r).2) n = true ↔ inB r n = true ∧ ¬ (a ≤ n ∧ n < b)
  | [], e, _, _ => ⟨trivial, fun n => by simp [remG, inB]⟩
  | y :: r, e, hs, hy => by
    have hs' := hs
    obtain ⟨s0, s1, s2, s3⟩ := hs
    have hy0 := hy y (by simp)
    unfold remG
    by_cases h : y.f0 < b
    · rw [if_pos h]
      have ih := remG_ok a b hab r y.f1 s3 (fun z hz => hy z (by simp [hz]))
      generalize hG : (remG a b r).1.filter neB ++ (remG a b r).2 = G at ih
      have e1 : min a y.f1 = a := by omega
      have e2 : max b y.f0 = b := by omega
      have hin := fun n => Sp_in s3 n
      rw [e1, e2]
      dsimp only
      by_cases c1 : y.f0 < a <;> by_cases c2 : b < y.f1
      · have e : (⟨y.f0, a⟩ :: ⟨b, y.f1⟩ :: (remG a b r).1).filter neB ++ (remG a b r).2 = ⟨y.f0, a⟩ :: ⟨b, y.f1⟩ :: G := by
          rw [← hG]; simp [List.filter_cons, neB, c1, c2]
        rw [e]
        refine ⟨⟨s0, c1, by show a ≤ 4096; omega, hab, c2, s2, ih.1⟩, fun n => ?_⟩
        rw [in_cons, in_cons, in_cons, ih.2 n]
        have := hin n
        dsimp only
        constructor
        · rintro (q | q | ⟨q, q2⟩)
          · exact ⟨.inl (by omega), by omega⟩
          · exact ⟨.inl (by omega), by omega⟩
          · exact ⟨.inr q, q2⟩
        · rintro ⟨q | q, q2⟩
          · by_cases d : n < a
            · exact .inl (by omega)
            · exact .inr (.inl (by omega))
          · exact .inr (.inr ⟨q, q2⟩)
      · have e : (⟨y.f0, a⟩ :: ⟨b, y.f1⟩ :: (remG a b r).1).filter neB ++ (remG a b r).2 = ⟨y.f0, a⟩ :: G := by
          rw [← hG]; simp [List.filter_cons, neB, c1, c2]
        rw [e]
        refine ⟨⟨s0, c1, by show a ≤ 4096; omega, ih.1.weak (by show a ≤ y.f1; omega)⟩, fun n => ?_⟩
        rw [in_cons, in_cons, ih.2 n]
        have := hin n
        dsimp only
        constructor
        · rintro (q | ⟨q, q2⟩)
          · exact ⟨.inl (by omega), by omega⟩
          · exact ⟨.inr q, q2⟩
        · rintro ⟨q | q, q2⟩
          · exact .inl (by omega)
          · exact .inr ⟨q, q2⟩
      · have e : (⟨y.f0, a⟩ :: ⟨b, y.f1⟩ :: (remG a b r).1).filter neB ++ (remG a b r).2 = ⟨b, y.f1⟩ :: G := by
          rw [← hG]; simp [List.filter_cons, neB, c1, c2]
        rw [e]
        refine ⟨⟨by show _ < b; omega, c2, s2, ih.1⟩, fun n => ?_⟩
        rw [in_cons, in_cons, ih.2 n]
        have := hin n
        dsimp only
        constructor
        · rintro (q | ⟨q, q2⟩)
          · exact ⟨.inl (by omega), by omega⟩
          · exact ⟨.inr q, q2⟩
        · rintro ⟨q | q, q2⟩
          · exact .inl (by omega)
          · exact .inr ⟨q, q2⟩
      · have e : (⟨y.f0, a⟩ :: ⟨b, y.f1⟩ :: (remG a b r).1).filter neB ++ (remG a b r).2 = G := by
          rw [← hG]; simp [List.filter_cons, neB, c1, c2]
        rw [e]
        refine ⟨ih.1.weak (by omega), fun n => ?_⟩
        rw [in_cons, ih.2 n]
        have := hin n
        constructor
        · rintro ⟨q, q2⟩
          exact ⟨.inr q, q2⟩
        · rintro ⟨q | q, q2⟩
          · omega
          · exact ⟨q, q2⟩
    · rw [if_neg h]
      refine ⟨hs', fun n => ?_⟩
      show inB (y :: r) n = true ↔ _
      refine ⟨fun q => ⟨q, ?_⟩, fun q => q.1⟩
      rcases (in_cons _ _ _).1 q with q | q
      · omega
      · have := Sp_in s3 n q
        omega
theorem rem_ok {l : List S27} {lo a b : Int} {i : Nat} (hS : Sp lo l) (hlo : lo ≤ a) (hi : At l (a + 1) i) (hab : a < b) :
    Sp lo (remL l a b i) ∧ ∀ n, inB (remL l a b i) n = true ↔ inB l n = true ∧ ¬ (a ≤ n ∧ n < b) := by
  have hs := hS
  rw [← List.take_append_drop i l, Sp_app] at hs
  have h := remG_ok a b hab (l.drop i) _ hs.2 (fun y hy => by have := hi.drop y hy; omega)
  unfold remL
  rw [List.append_assoc]
  refine ⟨(Sp_app _ _ _).2 ⟨hs.1, h.1⟩, fun n => ?_⟩
  have ht : inB (l.take i) n = true → n < a := fun q => by
    obtain ⟨k, hk, q0, q1⟩ := (in_iff _ n).1 q
    rw [rd_mem _ _ hk] at q1
    have := hi.take _ (List.getElem_mem hk)
    omega
  have e : (inB l n = true) ↔ inB (l.take i) n = true ∨ inB (l.drop i) n = true := by rw [← in_app, List.take_append_drop]
  rw [in_app, h.2 n, e]
  constructor
  · rintro (q | q)
    · exact ⟨.inl q, by have := ht q; omega⟩
    · exact ⟨.inr q.1, q.2⟩
  · rintro ⟨q | q, q2⟩
    · exact .inl q
    · exact .inr ⟨q, q2⟩
theorem gapG_ok (b : Int) (hb : b ≤ 4096) : ∀ (r : List S27) (e p : Int), Sp e r → e ≤ p → (∀ y ∈ r, p < y.f1) →
    Sp (p - 1) ((gapG b p r).1 ++ gapT b (gapG b p r).2) ∧ ∀ n, inB ((gapG b p r).1 ++ gapT b (gapG b p r).2) n = true ↔ (p ≤ n ∧ n < b) ∧ ¬ (inB r n = true) := by
  have tail : ∀ (p : Int), Sp (p - 1) (gapT b p) ∧ ∀ n, inB (gapT b p) n = true ↔ (p ≤ n ∧ n < b) := by
    intro p
    unfold gapT
    by_cases h : p < b
    · rw [if_pos h]
      exact ⟨⟨by show p - 1 < p; omega, h, hb, trivial⟩, fun n => by rw [in_cons]; exact ⟨fun q => q.elim id (fun q => absurd q (in_nil n)), .inl⟩⟩
    · rw [if_neg h]
      exact ⟨trivial, fun n => ⟨fun q => absurd q (in_nil n), fun q => by omega⟩⟩
  intro r
  induction r with
  | nil =>
    intro e p _ _ _
    unfold gapG
    rw [List.nil_append]
    exact ⟨(tail p).1, fun n => by rw [(tail p).2 n]; exact ⟨fun q => ⟨q, in_nil n⟩, fun q => q.1⟩⟩
  | cons y r ihr =>
    intro e p hs he hy
    obtain ⟨s0, s1, s2, s3⟩ := hs
    have hy0 := hy y (by simp)
    have hin := fun n => Sp_in s3 n
    unfold gapG
    by_cases h : y.f0 < b
    · rw [if_pos h]
      have ih := ihr y.f1 y.f1 s3 (Int.le_refl _) (fun z hz => by
        obtain ⟨k, hk, rfl⟩ := List.mem_iff_getElem.1 hz
        have := s3.each k hk
        rw [rd_mem _ _ hk] at this
        omega)
      dsimp only
      rw [List.append_assoc]
      generalize (gapG b y.f1 r).1 ++ gapT b (gapG b y.f1 r).2 = G at ih
      by_cases c : p < y.f0
      · rw [if_pos c, List.cons_append, List.nil_append]
        refine ⟨⟨by show p - 1 < p; omega, c, by show y.f0 ≤ 4096; omega, ih.1.weak (by show y.f0 ≤ y.f1 - 1; omega)⟩, fun n => ?_⟩
        rw [in_cons, in_cons, ih.2 n]
        have := hin n
        dsimp only
        constructor
        · rintro (q | ⟨q, q2⟩)
          · exact ⟨by omega, by rintro (q3 | q3); omega; have := this q3; omega⟩
          · exact ⟨by omega, by rintro (q3 | q3); omega; exact q2 q3⟩
        · rintro ⟨q, q2⟩
          by_cases d : n < y.f0
          · exact .inl ⟨q.1, d⟩
          · exact .inr ⟨⟨by rcases Int.lt_or_le n y.f1 with z | z; exact absurd (.inl ⟨by omega, z⟩) q2; exact z, q.2⟩, fun q3 => q2 (.inr q3)⟩
      · rw [if_neg c, List.nil_append]
        refine ⟨ih.1.weak (by omega), fun n => ?_⟩
        rw [in_cons, ih.2 n]
        have := hin n
        constructor
        · rintro ⟨q, q2⟩
          exact ⟨by omega, by rintro (q3 | q3); omega; exact q2 q3⟩
        · rintro ⟨q, q2⟩
          exact ⟨⟨by rcases Int.lt_or_le n y.f1 with z | z; exact absurd (.inl ⟨by omega, z⟩) q2; exact z, q.2⟩, fun q3 => q2 (.inr q3)⟩
    · rw [if_neg h, List.nil_append]
      refine ⟨(tail p).1, fun n => ?_⟩
      rw [(tail p).2 n, in_cons]
      have := hin n
      exact ⟨fun q => ⟨q, by rintro (q3 | q3); omega; have := this q3; omega⟩, fun q => q.1⟩
theorem gap_ok {l : List S27} {lo a b : Int} {i : Nat} (hS : Sp lo l) (hlo : lo ≤ a) (hi : At l (a + 1) i) (hb : b ≤ 4096) :
    Sp (a - 1) (gapL l a b i) ∧ ∀ n, inB (gapL l a b i) n = true ↔ (a ≤ n ∧ n < b) ∧ ¬ (inB l n = true) := by
  have hs := hS
  rw [← List.take_append_drop i l, Sp_app] at hs
  have h := gapG_ok b hb (l.drop i) _ a hs.2 (by have := endF_lt lo (l.take i) (a + 1) (by omega) hi.take; omega) (fun y hy => by have := hi.drop y hy; omega)
  unfold gapL
  refine ⟨h.1, fun n => ?_⟩
  have ht : inB (l.take i) n = true → n < a := fun q => by
    obtain ⟨k, hk, q0, q1⟩ := (in_iff _ n).1 q
    rw [rd_mem _ _ hk] at q1
    have := hi.take _ (List.getElem_mem hk)
    omega
  have e : (inB l n = true) ↔ inB (l.take i) n = true ∨ inB (l.drop i) n = true := by rw [← in_app, List.take_append_drop]
  rw [h.2 n, e]
  constructor
  · rintro ⟨q, q2⟩
    exact ⟨q, by rintro (q3 | q3); have := ht q3; omega; exact q2 q3⟩
  · rintro ⟨q, q2⟩
    exact ⟨q, fun q3 => q2 (.inr q3)⟩
theorem next_spec {l : List S27} {lo a : Int} {i : Nat} (hS : Sp lo l) (hlo : -1 ≤ lo) (hi : At l (a + 1) i) (ha : 0 ≤ a) :
    (nextAt l a i = -1 ∧ ∀ n, a ≤ n → ¬ (inB l n = true)) ∨ (a ≤ nextAt l a i ∧ inB l (nextAt l a i) = true ∧ ∀ n, a ≤ n → n < nextAt l a i → ¬ (inB l n = true)) := by
  unfold nextAt
  by_cases h : i = l.length
  · rw [if_pos h]
    refine .inl ⟨rfl, fun n hn q => ?_⟩
    obtain ⟨k, hk, q0, q1⟩ := (in_iff _ n).1 q
    have := hi.lo k (by omega)
    omega
  · rw [if_neg h]
    have hl := hi.le
    have h2 := hi.hi i (Nat.le_refl _) (by omega)
    have h3 := hS.each i (by omega)
    refine .inr ⟨by omega, (in_iff _ _).2 ⟨i, by omega, by omega, by omega⟩, fun n hn hlt q => ?_⟩
    obtain ⟨k, hk, q0, q1⟩ := (in_iff _ n).1 q
    have hik : i ≤ k := by
      rcases Nat.lt_or_ge k i with c | c
      · have := hi.lo k c; omega
      · exact c
    have h4 : (rd_T27 l i).f0 ≤ (rd_T27 l k).f0 := by
      rcases Nat.lt_or_ge i k with c | c
      · have h4 := hS.mono i k c hk
        omega
      · obtain rfl : i = k := by omega
        exact Int.le_refl _
    omega
theorem meet_iff {l : List S27} {lo a : Int} (b : Int) {i : Nat} (hS : Sp lo l) (hlo : -1 ≤ lo) (hi : At l (a + 1) i) (ha : 0 ≤ a) :
    (decide (0 ≤ nextAt l a i) && decide (nextAt l a i < b)) = true ↔ ∃ n, a ≤ n ∧ n < b ∧ inB l n = true := by
  rw [Bool.and_eq_true, decide_eq_true_eq, decide_eq_true_eq]
  rcases next_spec hS hlo hi ha with ⟨h1, h2⟩ | ⟨h1, h2, h3⟩
  · rw [h1]
    exact ⟨fun q => by omega, fun ⟨n, q, _, q2⟩ => absurd q2 (h2 n q)⟩
  · constructor
    · rintro ⟨q0, q1⟩
      exact ⟨_, h1, q1, h2⟩
    · rintro ⟨n, q0, q1, q2⟩
      refine ⟨by omega, ?_⟩
      rcases Int.lt_or_le n (nextAt l a i) with c | c
      · exact absurd q2 (h3 n q0 c)
      · omega
theorem Sp_none {lo : Int} {l : List S27} (hS : Sp lo l) (h : ∀ n, ¬ (inB l n = true)) : l = [] := by
  rcases l with _ | ⟨x, l⟩
  · rfl
  · exact absurd ((in_cons x l x.f0).2 (.inl ⟨Int.le_refl _, hS.2.1⟩)) (h _)
theorem Sp_uniq : ∀ {lo lo' : Int} {l l' : List S27}, Sp lo l → Sp lo' l' → (∀ n, inB l n = true ↔ inB l' n = true) → l = l'
  | _, _, [], l', _, h', h => (Sp_none h' (fun n q => in_nil n ((h n).2 q))).symm
  | _, _, x :: l, [], hS, _, h => Sp_none hS (fun n q => in_nil n ((h n).1 q))
  | lo, lo', x :: l, y :: l', hS, hS', h => by
    obtain ⟨s0, s1, s2, s3⟩ := hS
    obtain ⟨t0, t1, t2, t3⟩ := hS'
    have a1 := (in_cons y l' x.f0).1 ((h x.f0).1 ((in_cons x l x.f0).2 (.inl ⟨Int.le_refl _, s1⟩)))
    have a2 := (in_cons x l y.f0).1 ((h y.f0).2 ((in_cons y l' y.f0).2 (.inl ⟨Int.le_refl _, t1⟩)))
    have e0 : x.f0 = y.f0 := by
      rcases a1 with a1 | a1 <;> rcases a2 with a2 | a2
      · omega
      · have := Sp_in s3 _ a2; omega
      · have := Sp_in t3 _ a1; omega
      · have := Sp_in s3 _ a2
        have := Sp_in t3 _ a1
        omega
    have e1 : x.f1 = y.f1 := by
      rcases Int.lt_trichotomy x.f1 y.f1 with c | c | c
      · rcases (in_cons x l x.f1).1 ((h x.f1).2 ((in_cons y l' x.f1).2 (.inl ⟨by omega, c⟩))) with q | q
        · omega
        · have := Sp_in s3 _ q; omega
      · exact c
      · rcases (in_cons y l' y.f1).1 ((h y.f1).1 ((in_cons x l y.f1).2 (.inl ⟨by omega, c⟩))) with q | q
        · omega
        · have := Sp_in t3 _ q; omega
    have ex : x = y := by
      obtain ⟨x0, x1⟩ := x
      obtain ⟨y0, y1⟩ := y
      dsimp only at e0 e1
      rw [e0, e1]
    subst ex
    rw [Sp_uniq s3 t3 (fun n => ?_)]
    have hn := h n
    rw [in_cons, in_cons] at hn
    constructor
    · intro q
      have := Sp_in s3 n q
      rcases hn.1 (.inr q) with z | z
      · omega
      · exact z
    · intro q
      have := Sp_in t3 n q
      rcases hn.2 (.inr q) with z | z
      · omega
      · exact z
end Go.Proofs.Ytaandjafmmpbkaa.PQ
