/- What the numbers of a histogram come to, in plain words: counts, sums, ranks; and the document's answers. -/
import Derived.Test.YtnamndioodnelaaDoorMerge
import Derived.Test.YtnamndioodnelaaDoorPQx1
import Derived.Lib.ItoaNum
namespace Go.Proofs.YtnamndioodnelaaDoor.PQ
open Go.RowKit Go.Proofs.YtnamndioodnelaaDoorW.PrintWords Go.Proofs.YtnamndioodnelaaDoorW.PrintLast Go.Proofs.YtnamndioodnelaaDoorW.PrintMore
set_option linter.unusedVariables false
set_option linter.unusedSimpArgs false
/-- The bucket of a number. -/
def bk (n : Int) : Nat := Lib.bitLen n.toNat
theorem bk_lt (n : Int) (h : n ≤ 9223372036854775807) : bk n < 64 := bitLen_lt _ (by omega)
theorem bk_zero : bk 0 = 0 := by decide
theorem bk_spec (n : Int) (h0 : 0 < n) (h : n ≤ 9223372036854775807) : 1 ≤ bk n ∧ (2 : Int) ^ (bk n - 1) ≤ n ∧ n < 2 ^ bk n := by
  obtain ⟨x, rfl⟩ := Int.eq_ofNat_of_zero_le (Int.le_of_lt h0)
  have := Lib.bitLenAux_bounds 64 x (by omega) (by omega)
  refine ⟨this.1, ?_, ?_⟩
  · have h2 := this.2.1
    exact_mod_cast h2
  · have h2 := this.2.2
    exact_mod_cast h2
theorem bk_hi (n : Int) (h0 : 0 ≤ n) (h : n ≤ 9223372036854775807) : n ≤ 2 ^ bk n - 1 := by
  by_cases c : n = 0
  · subst c; rw [bk_zero]; decide
  · have := (bk_spec n (by omega) h).2.2; omega
theorem bk_mono (m n : Int) (h0 : 0 ≤ m) (hmn : m ≤ n) (h : n ≤ 9223372036854775807) : bk m ≤ bk n := by
  by_cases c : m = 0
  · subst c; rw [bk_zero]; omega
  · have h1 := bk_spec m (by omega) (by omega)
    have h2 := bk_spec n (by omega) h
    rcases Nat.lt_or_ge (bk n) (bk m) with hlt | hge
    · have : (2 : Int) ^ bk n ≤ 2 ^ (bk m - 1) := by
        have := Nat.pow_le_pow_right (n := 2) (by omega) (show bk n ≤ bk m - 1 by omega)
        exact_mod_cast this
      omega
    · exact hge
/-- How many of the numbers lie in bucket i; in those up to i. -/
def cnt (L : List Int) (i : Nat) : Nat := L.countP (fun n => bk n == i)
def cum (L : List Int) (i : Nat) : Nat := L.countP (fun n => decide (bk n < i))
theorem cum_zero (L : List Int) : cum L 0 = 0 := by unfold cum; rw [List.countP_eq_zero]; simp
theorem cum_succ (L : List Int) (i : Nat) : cum L (i + 1) = cum L i + cnt L i := by
  unfold cum cnt
  induction L with
  | nil => rfl
  | cons x t ih =>
    rw [List.countP_cons, List.countP_cons, List.countP_cons, ih]
    by_cases c : bk x < i
    · simp [c, show bk x < i + 1 by omega, show ¬ bk x = i by omega]; omega
    · by_cases d : bk x = i
      · simp [d]; omega
      · simp [c, d, show ¬ bk x < i + 1 by omega]
theorem cum_le (L : List Int) (i : Nat) : cum L i ≤ L.length := List.countP_le_length
theorem cum_mono (L : List Int) (i j : Nat) (h : i ≤ j) : cum L i ≤ cum L j := by
  induction j with
  | zero => have : i = 0 := by omega
            subst this; exact Nat.le_refl _
  | succ j ih =>
    rcases Nat.lt_or_ge j i with hh | hh
    · have : i = j + 1 := by omega
      subst this; exact Nat.le_refl _
    · rw [cum_succ]; have := ih hh; omega
/-- A histogram of these numbers. -/
structure Rep (v : List Int) (L : List Int) : Prop where
  len : v.length = 67
  ge : ∀ n ∈ L, 0 ≤ n ∧ n ≤ 9223372036854775807
  small : L.length ≤ 1000
  bucket : ∀ i, i < 64 → v.getD i 0 = (cnt L i : Int)
  count : v.getD 64 0 = (L.length : Int)
  sum : v.getD 65 0 = min L.sum 9223372036854775807
  most : v.getD 66 0 = L.foldl max 0
theorem sum_ge : ∀ L : List Int, (∀ n ∈ L, 0 ≤ n ∧ n ≤ 9223372036854775807) → 0 ≤ L.sum
  | [], _ => by simp
  | x :: t, h => by
    have h1 := h x (by simp)
    have h2 := sum_ge t (fun n hn => h n (by simp [hn]))
    rw [List.sum_cons]; omega
theorem Rep.nil : Rep (List.replicate 67 0) [] where
  len := by simp
  ge := by simp
  small := by simp
  bucket := fun i hi => by
    have : ∀ i < 64, (List.replicate 67 (0 : Int)).getD i 0 = 0 := by decide +kernel
    rw [this i hi]; rfl
  count := by decide +kernel
  sum := by decide +kernel
  most := by decide +kernel
theorem getD_set (l : List Int) (i j : Nat) (z : Int) (h : i < l.length) : (l.set i z).getD j 0 = if i = j then z else l.getD j 0 := by
  rw [List.getD_eq_getElem?_getD, List.getElem?_set]
  by_cases c : i = j
  · subst c; simp [h]
  · simp [c]
theorem Rep.sumOk {v L : List Int} (h : Rep v L) : 0 ≤ v.getD 65 0 ∧ v.getD 65 0 ≤ 9223372036854775807 := by
  rw [h.sum]; have := sum_ge L h.ge; omega
theorem Rep.countOk {v L : List Int} (h : Rep v L) : 0 ≤ v.getD 64 0 ∧ v.getD 64 0 ≤ 1000000 := by
  rw [h.count]; have := h.small; omega
theorem Rep.add {v L : List Int} (h : Rep v L) (n : Int) (hn : 0 ≤ n ∧ n ≤ 9223372036854775807) (hs : L.length + 1 ≤ 1000) : Rep (addH v n) (L ++ [n]) := by
  have hb := bk_lt n hn.2
  have hs' := sum_ge L h.ge
  have e : ∀ j, (addH v n).getD j 0 = if 66 = j then max (v.getD 66 0) n else if 65 = j then plusI (v.getD 65 0) n else if 64 = j then wrap64 (v.getD 64 0 + 1) else if bk n = j then wrap64 (v.getD (bk n) 0 + 1) else v.getD j 0 := fun j => by
    unfold addH
    rw [getD_set _ _ _ _ (by simp [h.len]), getD_set _ _ _ _ (by simp [h.len]), getD_set _ _ _ _ (by simp [h.len]), getD_set _ _ _ _ (by rw [h.len]; unfold bk at hb; omega)]
    rfl
  have hc : ∀ i, cnt L i ≤ 1000 := fun i => Nat.le_trans List.countP_le_length h.small
  refine ⟨by unfold addH; simp [h.len], ?_, by simp; omega, ?_, ?_, ?_, ?_⟩
  · intro m hm
    rcases List.mem_append.1 hm with hm | hm
    · exact h.ge m hm
    · rw [List.mem_singleton.1 hm]; exact hn
  · intro i hi
    rw [e i, if_neg (by omega), if_neg (by omega), if_neg (by omega)]
    have ha : cnt (L ++ [n]) i = cnt L i + (if bk n = i then 1 else 0) := by
      unfold cnt
      rw [List.countP_append, List.countP_singleton]
      by_cases c : bk n = i <;> simp [c]
    rw [ha]
    by_cases c : bk n = i
    · rw [if_pos c, if_pos c, c, h.bucket i hi]
      have := hc i
      unfold wrap64; omega
    · rw [if_neg c, if_neg c, h.bucket i hi]; rfl
  · rw [e 64, if_neg (by omega), if_neg (by omega), if_pos rfl, h.count, List.length_append]
    have := h.small
    simp only [List.length_singleton]
    unfold wrap64; omega
  · rw [e 65, if_neg (by omega), if_pos rfl, h.sum, List.sum_append]
    unfold plusI
    simp only [List.sum_cons, List.sum_nil]
    split <;> omega
  · rw [e 66, if_pos rfl, h.most, List.foldl_append]; rfl
theorem cum_all {L : List Int} (h : ∀ n ∈ L, 0 ≤ n ∧ n ≤ 9223372036854775807) : cum L 64 = L.length := by
  unfold cum
  rw [List.countP_eq_length]
  intro n hn
  exact decide_eq_true (bk_lt n (h n hn).2)
theorem rankFrom_spec {v L : List Int} (h : Rep v L) : ∀ (d i : Nat) (a : Int), d + i = 64 → 0 < a → a + cum L i ≤ L.length →
    ∃ j, i ≤ j ∧ j < 64 ∧ rankFrom v d i a = 2 ^ j - 1 ∧ (cum L j : Int) < a + cum L i ∧ a + cum L i ≤ cum L (j + 1)
  | 0, i, a, hd, h0, h1 => by
    have : i = 64 := by omega
    subst this
    rw [cum_all h.ge] at h1
    omega
  | d + 1, i, a, hd, h0, h1 => by
    have hi : i < 64 := by omega
    have hb := h.bucket i hi
    have hc : cnt L i ≤ 1000 := Nat.le_trans List.countP_le_length h.small
    have hl := h.small
    have hs := cum_succ L i
    have hw : wrap64 (a - v.getD i 0) = a - (cnt L i : Int) := by rw [hb]; unfold wrap64; omega
    unfold rankFrom
    rw [hw]
    by_cases c : a - (cnt L i : Int) ≤ 0
    · rw [if_pos c]
      exact ⟨i, Nat.le_refl _, hi, rfl, by omega, by rw [hs]; omega⟩
    · rw [if_neg c]
      obtain ⟨j, hj1, hj2, hj3, hj4, hj5⟩ := rankFrom_spec h d (i + 1) (a - (cnt L i : Int)) (by omega) (by omega) (by rw [hs]; omega)
      exact ⟨j, by omega, hj2, hj3, by rw [hs] at hj4; omega, by rw [hs] at hj5; omega⟩
theorem place_in (p m : Int) (h : 1 ≤ m ∧ m ≤ 1000) : 1 ≤ placeI (min (max p 0) 1000) m ∧ placeI (min (max p 0) 1000) m ≤ m := by
  unfold placeI
  have hq : 0 ≤ min (max p 0) 1000 ∧ min (max p 0) 1000 ≤ 1000 := by omega
  generalize min (max p 0) 1000 = q at *
  have h1 : 0 ≤ q * m := Int.mul_nonneg hq.1 (by omega)
  have h2 : q * m ≤ 1000 * m := Int.mul_le_mul_of_nonneg_right hq.2 (by omega)
  generalize q * m = z at *
  omega
theorem place_mono (p q m : Int) (h : 1 ≤ m ∧ m ≤ 1000) (hpq : min (max p 0) 1000 ≤ min (max q 0) 1000) : placeI (min (max p 0) 1000) m ≤ placeI (min (max q 0) 1000) m := by
  unfold placeI
  have h2 : min (max p 0) 1000 * m ≤ min (max q 0) 1000 * m := Int.mul_le_mul_of_nonneg_right hpq (by omega)
  generalize min (max p 0) 1000 * m = z at *
  generalize min (max q 0) 1000 * m = y at *
  omega
theorem rank_at {v L : List Int} (h : Rep v L) (hL : L ≠ []) (p : Int) :
    ∃ j, j < 64 ∧ rankI v p = 2 ^ j - 1 ∧ (cum L j : Int) < placeI (min (max p 0) 1000) L.length ∧ placeI (min (max p 0) 1000) L.length ≤ cum L (j + 1) := by
  have hl : 0 < L.length := List.length_pos_iff.2 hL
  have hs := h.small
  have hp := place_in p L.length (by omega)
  unfold rankI
  rw [h.count, if_neg (by omega)]
  obtain ⟨j, _, h2, h3, h4, h5⟩ := rankFrom_spec h 64 0 _ rfl (show 0 < placeI (min (max p 0) 1000) L.length by omega) (by rw [cum_zero]; omega)
  rw [cum_zero] at h4 h5
  exact ⟨j, h2, h3, by omega, by omega⟩
theorem pow_mono (i j : Nat) (h : i ≤ j) : (2 : Int) ^ i ≤ 2 ^ j := by
  have := Nat.pow_le_pow_right (n := 2) (by omega) h
  exact_mod_cast this
theorem rank_mono {v L : List Int} (h : Rep v L) (hL : L ≠ []) (p q : Int) (hpq : min (max p 0) 1000 ≤ min (max q 0) 1000) : rankI v p ≤ rankI v q := by
  have hl : 0 < L.length := List.length_pos_iff.2 hL
  have hs := h.small
  obtain ⟨i, _, h2, h3, h4⟩ := rank_at h hL p
  obtain ⟨j, _, k2, k3, k4⟩ := rank_at h hL q
  have hm := place_mono p q L.length (by omega) hpq
  have : i ≤ j := by
    rcases Nat.lt_or_ge j i with hh | hh
    · have := cum_mono L (j + 1) i hh
      omega
    · exact hh
  have := pow_mono i j this
  omega
theorem rank_range {v L : List Int} (h : Rep v L) (hL : L ≠ []) (p : Int) : 0 ≤ rankI v p ∧ rankI v p ≤ 9223372036854775807 := by
  obtain ⟨i, h1, h2, _, _⟩ := rank_at h hL p
  have := pow_mono 0 i (by omega)
  have := pow_mono i 63 (by omega)
  rw [h2]
  omega
theorem fold_max : ∀ (L : List Int) (a : Int), a ≤ L.foldl max a ∧ (∀ x ∈ L, x ≤ L.foldl max a) ∧ (L.foldl max a = a ∨ L.foldl max a ∈ L)
  | [], a => by simp
  | y :: t, a => by
    obtain ⟨h1, h2, h3⟩ := fold_max t (max a y)
    rw [List.foldl_cons]
    refine ⟨by omega, ?_, ?_⟩
    · intro x hx
      rcases List.mem_cons.1 hx with rfl | hx
      · omega
      · exact h2 x hx
    · rcases h3 with h3 | h3
      · rw [h3]
        by_cases c : a ≤ y
        · exact .inr (by rw [show max a y = y by omega]; simp)
        · exact .inl (by omega)
      · exact .inr (by simp [h3])
theorem fold_min : ∀ (L : List Int) (a : Int), L.foldl min a ≤ a ∧ (∀ x ∈ L, L.foldl min a ≤ x) ∧ (L.foldl min a = a ∨ L.foldl min a ∈ L)
  | [], a => by simp
  | y :: t, a => by
    obtain ⟨h1, h2, h3⟩ := fold_min t (min a y)
    rw [List.foldl_cons]
    refine ⟨by omega, ?_, ?_⟩
    · intro x hx
      rcases List.mem_cons.1 hx with rfl | hx
      · omega
      · exact h2 x hx
    · rcases h3 with h3 | h3
      · rw [h3]
        by_cases c : y ≤ a
        · exact .inr (by rw [show min a y = y by omega]; simp)
        · exact .inl (by omega)
      · exact .inr (by simp [h3])
theorem cum_lt {L : List Int} {j : Nat} (h : cum L j < L.length) : ∃ x ∈ L, j ≤ bk x := by
  apply Classical.byContradiction
  intro hc
  have : cum L j = L.length := by
    unfold cum
    rw [List.countP_eq_length]
    intro x hx
    exact decide_eq_true (by
      rcases Nat.lt_or_ge (bk x) j with hh | hh
      · exact hh
      · exact absurd ⟨x, hx, hh⟩ hc)
  omega
theorem cum_pos {L : List Int} {j : Nat} (h : 0 < cum L j) : ∃ x ∈ L, bk x < j := by
  obtain ⟨x, hx, hp⟩ := List.countP_pos_iff.1 h
  exact ⟨x, hx, of_decide_eq_true hp⟩
theorem cum_full {L : List Int} {j : Nat} (h : cum L j = L.length) : ∀ x ∈ L, bk x < j := fun x hx => of_decide_eq_true (List.countP_eq_length.1 h x hx)
theorem cum_none {L : List Int} {j : Nat} (h : cum L j = 0) : ∀ x ∈ L, j ≤ bk x := fun x hx => by
  have := List.countP_eq_zero.1 h x hx
  rw [decide_eq_true_eq] at this
  omega
theorem half_lt (m : Int) (h0 : 0 < m) (h : m ≤ 9223372036854775807) : Int.tdiv (2 ^ bk m - 1) 2 < m := by
  obtain ⟨h1, h2, h3⟩ := bk_spec m h0 h
  obtain ⟨b, hb⟩ : ∃ b, bk m = b + 1 := ⟨bk m - 1, by omega⟩
  rw [hb] at h2 h3 ⊢
  rw [Nat.add_sub_cancel] at h2
  rw [Int.pow_succ] at h3 ⊢
  rw [Int.tdiv_eq_ediv_of_nonneg (by omega)]
  omega
/-- The last rank is the bucket of the greatest number. -/
theorem rank_last {v L : List Int} (h : Rep v L) (hL : L ≠ []) : L.foldl max 0 ≤ rankI v 1000 ∧ (L.foldl max 0 = 0 ∨ Int.tdiv (rankI v 1000) 2 < L.foldl max 0) := by
  have hl : 0 < L.length := List.length_pos_iff.2 hL
  have hs := h.small
  obtain ⟨j, j1, j2, j3, j4⟩ := rank_at h hL 1000
  have hp : placeI (min (max 1000 0) 1000) L.length = L.length := by
    unfold placeI
    rw [show min (max (1000 : Int) 0) 1000 = 1000 by omega]
    omega
  rw [hp] at j3 j4
  have hall := cum_full (L := L) (j := j + 1) (by have := cum_le L (j + 1); omega)
  obtain ⟨x, hx, hxj⟩ := cum_lt (L := L) (j := j) (by omega)
  obtain ⟨f1, f2, f3⟩ := fold_max L 0
  have hm0 : L.foldl max 0 ∈ L := by
    rcases f3 with f3 | f3
    · have := f2 x hx; have := (h.ge x hx).1
      rw [f3] at *
      rw [show (0 : Int) = x by omega]; exact hx
    · exact f3
  have hr := h.ge _ hm0
  have e : bk (L.foldl max 0) = j := by
    have h1 := hall _ hm0
    have h2 := bk_mono x _ (h.ge x hx).1 (f2 x hx) hr.2
    omega
  rw [j2, ← e]
  refine ⟨bk_hi _ hr.1 hr.2, ?_⟩
  by_cases c : L.foldl max 0 = 0
  · exact .inl c
  · exact .inr (half_lt _ (by omega) hr.2)
/-- The first rank is the bucket of the least number. -/
theorem rank_first {v L : List Int} (h : Rep v L) (hL : L ≠ []) : L.foldl min 9223372036854775807 ≤ rankI v 0 ∧ (L.foldl min 9223372036854775807 = 0 ∨ Int.tdiv (rankI v 0) 2 < L.foldl min 9223372036854775807) := by
  have hl : 0 < L.length := List.length_pos_iff.2 hL
  have hs := h.small
  obtain ⟨j, j1, j2, j3, j4⟩ := rank_at h hL 0
  have hp : placeI (min (max 0 0) 1000) L.length = 1 := by
    unfold placeI
    rw [show min (max (0 : Int) 0) 1000 = 0 by omega, Int.zero_mul]
    omega
  rw [hp] at j3 j4
  have hnone := cum_none (L := L) (j := j) (by omega)
  obtain ⟨x, hx, hxj⟩ := cum_pos (L := L) (j := j + 1) (by omega)
  obtain ⟨f1, f2, f3⟩ := fold_min L 9223372036854775807
  have hm0 : L.foldl min 9223372036854775807 ∈ L := by
    rcases f3 with f3 | f3
    · have := f2 x hx; have := (h.ge x hx).2
      rw [f3] at *
      rw [show (9223372036854775807 : Int) = x by omega]; exact hx
    · exact f3
  have hr := h.ge _ hm0
  have e : bk (L.foldl min 9223372036854775807) = j := by
    have h1 := hnone _ hm0
    have h2 := bk_mono _ x hr.1 (f2 x hx) (h.ge x hx).2
    omega
  rw [j2, ← e]
  refine ⟨bk_hi _ hr.1 hr.2, ?_⟩
  by_cases c : L.foldl min 9223372036854775807 = 0
  · exact .inl c
  · exact .inr (half_lt _ (by omega) hr.2)
theorem bk_half (x : Int) (h0 : 0 < x) (h : x ≤ 9223372036854775807) : bk x = bk (x / 2) + 1 := by
  obtain ⟨a1, a2, a3⟩ := bk_spec x h0 h
  by_cases c : x / 2 = 0
  · have : x = 1 := by omega
    subst this; decide
  · obtain ⟨b1, b2, b3⟩ := bk_spec (x / 2) (by omega) (by omega)
    obtain ⟨n, hn⟩ : ∃ n, bk x = n + 1 := ⟨bk x - 1, by omega⟩
    obtain ⟨m, hm⟩ : ∃ m, bk (x / 2) = m + 1 := ⟨bk (x / 2) - 1, by omega⟩
    rw [hn] at a2 a3 ⊢
    rw [hm] at b2 b3 ⊢
    rw [Nat.add_sub_cancel] at a2 b2
    rw [Int.pow_succ] at a3 b3
    have c1 : ¬ n < m + 1 := fun hh => by
      have := pow_mono n m (by omega)
      omega
    have c2 : ¬ m + 1 < n := fun hh => by
      have := pow_mono (m + 2) n (by omega)
      rw [Int.pow_succ, Int.pow_succ] at this
      omega
    omega
theorem refBucket_l : ∀ (k : Nat) (x c : Int), 0 ≤ x → x ≤ 9223372036854775807 → 0 ≤ c → c + bk x ≤ 1000 → bk x < k → deckleref42_Bucket.l0 k x c = some (c + bk x)
  | 0, _, _, _, _, _, _, h => by omega
  | k + 1, x, c, h0, h1, h2, h3, h => by
    unfold deckleref42_Bucket.l0
    by_cases g : x > 0
    · rw [if_pos g]
      have hh := bk_half x g h1
      have hb := bk_lt x h1
      have e1 : wrap64 (Int.tdiv x 2) = x / 2 := by rw [Int.tdiv_eq_ediv_of_nonneg h0]; unfold wrap64; omega
      have e2 : wrap64 (c + 1) = c + 1 := by unfold wrap64; omega
      rw [e1, e2]
      rw [refBucket_l k (x / 2) (c + 1) (by omega) (by omega) (by omega) (by omega) (by omega), hh]
      congr 1; omega
    · rw [if_neg g]
      have : x = 0 := by omega
      subst this
      rw [bk_zero]; simp
theorem refBucket (k : Nat) (x : Int) (hk : 64 < k) (h0 : 0 ≤ x) (h1 : x ≤ 9223372036854775807) : deckleref42_Bucket.f k x = some (bk x : Int) := by
  have := bk_lt x h1
  unfold deckleref42_Bucket.f
  rw [refBucket_l k x 0 h0 h1 (by omega) (by omega) (by omega)]
  simp
/-- How many of the numbers lie in a bucket of any number. -/
def cntI (L : List Int) (b : Int) : Nat := L.countP (fun n => (bk n : Int) == b)
theorem cntI_nat (L : List Int) (i : Nat) : cntI L i = cnt L i := by
  unfold cntI cnt
  congr 1
  funext n
  rw [Bool.eq_iff_iff, beq_iff_eq, beq_iff_eq]
  omega
theorem cntI_out {L : List Int} (h : ∀ n ∈ L, 0 ≤ n ∧ n ≤ 9223372036854775807) (b : Int) (hb : b < 0 ∨ 64 ≤ b) : cntI L b = 0 := by
  unfold cntI
  rw [List.countP_eq_zero]
  intro n hn
  have := bk_lt n (h n hn).2
  rw [beq_iff_eq]
  omega
theorem rd_drop (L : List Int) (i : Nat) (h : i < L.length) : L.drop i = rd L (i : Int) :: L.drop (i + 1) := by
  rw [List.drop_eq_getElem_cons h]
  unfold rd
  rw [Int.toNat_natCast, List.getD_eq_getElem?_getD, List.getElem?_eq_getElem h]
  rfl
theorem rd_mem (L : List Int) (i : Nat) (h : i < L.length) : rd L (i : Int) ∈ L := by
  unfold rd
  rw [Int.toNat_natCast, List.getD_eq_getElem?_getD, List.getElem?_eq_getElem h]
  exact List.getElem_mem h
theorem refCount_l {L : List Int} (h : ∀ n ∈ L, 0 ≤ n ∧ n ≤ 9223372036854775807) (hs : L.length ≤ 1000) (b : Int) : ∀ (k i : Nat) (acc : Int), i ≤ L.length → L.length - i + 65 < k → 0 ≤ acc → acc ≤ i →
    deckleref42_Count.l0 k L b acc i = some (acc + cntI (L.drop i) b)
  | 0, _, _, _, h, _, _ => by omega
  | k + 1, i, acc, h1, h2, h3, h4 => by
    unfold deckleref42_Count.l0
    by_cases c : (i : Int) < (L.length : Int)
    · rw [if_pos c, if_pos (by omega)]
      have hm := h _ (rd_mem L i (by omega))
      rw [refBucket k _ (by omega) hm.1 hm.2]
      simp only [Option.bind_some]
      rw [rd_drop L i (by omega)]
      have e1 : wrap64 ((i : Int) + 1) = ((i + 1 : Nat) : Int) := by unfold wrap64; omega
      have e2 : wrap64 (acc + 1) = acc + 1 := by unfold wrap64; omega
      have e3 : cntI (rd L (i : Int) :: L.drop (i + 1)) b = (if (bk (rd L (i : Int)) : Int) = b then 1 else 0) + cntI (L.drop (i + 1)) b := by
        unfold cntI
        rw [List.countP_cons]
        by_cases g : (bk (rd L (i : Int)) : Int) = b <;> simp [g]; omega
      rw [e1, e2, e3]
      by_cases g : (bk (rd L (i : Int)) : Int) = b
      · rw [if_pos g, if_pos g, refCount_l h hs b k (i + 1) (acc + 1) (by omega) (by omega) (by omega) (by omega)]
        congr 1; omega
      · rw [if_neg g, if_neg g, refCount_l h hs b k (i + 1) acc (by omega) (by omega) (by omega) (by omega)]
        congr 1; omega
    · rw [if_neg c]
      have : i = L.length := by omega
      subst this
      rw [List.drop_length]
      simp [cntI]
theorem refCount {L : List Int} (h : ∀ n ∈ L, 0 ≤ n ∧ n ≤ 9223372036854775807) (hs : L.length ≤ 1000) (b : Int) (k : Nat) (hk : 1066 ≤ k) : deckleref42_Count.f k L b = some (cntI L b : Int) := by
  unfold deckleref42_Count.f
  have := refCount_l h hs b k 0 0 (by omega) (by omega) (by omega) (by omega)
  rw [show ((0 : Nat) : Int) = 0 from rfl] at this
  rw [this, List.drop_zero]
  simp
theorem top_up (x r : Int) : ∀ d k, deckleref42_Top.f k x = some r → deckleref42_Top.f (k + d) x = some r
  | 0, _, h => h
  | d + 1, k, h => by
    rw [← Nat.add_assoc]
    exact deckleref42_Top.mono x (k + d) r (top_up x r d k h)
theorem top_65 : ∀ i : Nat, i < 64 → deckleref42_Top.f 65 ((i : Nat) : Int) = some ((2 : Int) ^ i - 1) := by decide +kernel
theorem refTop (i : Nat) (h : i < 64) (k : Nat) (hk : 65 ≤ k) : deckleref42_Top.f k (i : Int) = some (2 ^ i - 1) := by
  have := top_up _ _ (k - 65) 65 (top_65 i h)
  rwa [Nat.add_sub_cancel' hk] at this
theorem rank_unf (k : Nat) (L : List Int) (x5 x6 x7 : Int) : deckleref42_Rank.l0 (k + 1) L x5 x6 x7 = if x7 < 64 then ((deckleref42_Count.f k L x7).bind fun t108 => (if (wrap64 (x6 + t108)) ≥ x5 then ((deckleref42_Top.f k x7).bind fun t109 => (some t109)) else (deckleref42_Rank.l0 k L x5 (wrap64 (x6 + t108)) (wrap64 (x7 + 1))))) else (some 0) := by
  rw [deckleref42_Rank.l0]
theorem refRank_s {L : List Int} (h : ∀ n ∈ L, 0 ≤ n ∧ n ≤ 9223372036854775807) (hs : L.length ≤ 1000) (a : Int) (k i : Nat) (hi : i < 64) (hk : 1066 ≤ k) :
    deckleref42_Rank.l0 (k + 1) L a (cum L i : Int) (i : Int) = if (cum L (i + 1) : Int) ≥ a then some (2 ^ i - 1) else deckleref42_Rank.l0 k L a (cum L (i + 1) : Int) ((i + 1 : Nat) : Int) := by
  have hl := cum_le L (i + 1)
  have hsu := cum_succ L i
  have e1 : wrap64 ((cum L i : Int) + (cntI L (i : Int) : Int)) = (cum L (i + 1) : Int) := by rw [cntI_nat, hsu]; unfold wrap64; omega
  have e2 : wrap64 ((i : Int) + 1) = ((i + 1 : Nat) : Int) := by unfold wrap64; omega
  rw [rank_unf, if_pos (by omega), refCount h hs _ k hk, Option.bind_some, e1, e2, refTop i hi k (by omega), Option.bind_some]
theorem refRank_l {L : List Int} (h : ∀ n ∈ L, 0 ≤ n ∧ n ≤ 9223372036854775807) (hs : L.length ≤ 1000) (a : Int) (h1 : a ≤ L.length) (d : Nat) : ∀ (i k : Nat), d + i = 64 → 1066 + d < k → (cum L i : Int) < a →
    ∃ j, j < 64 ∧ deckleref42_Rank.l0 k L a (cum L i : Int) (i : Int) = some (2 ^ j - 1) ∧ (cum L j : Int) < a ∧ a ≤ cum L (j + 1) := by
  induction d with
  | zero =>
    intro i k hd _ hc
    have : i = 64 := by omega
    rw [this, cum_all h] at hc
    omega
  | succ d ih =>
    intro i k hd hk hc
    obtain ⟨k', rfl⟩ : ∃ k', k = k' + 1 := ⟨k - 1, by omega⟩
    rw [refRank_s h hs a k' i (by omega) (by omega)]
    by_cases c : (cum L (i + 1) : Int) ≥ a
    · rw [if_pos c]
      exact ⟨i, by omega, Eq.refl _, hc, c⟩
    · rw [if_neg c]
      exact ih (i + 1) k' (by omega) (by omega) (by omega)
theorem refRank {v L : List Int} (h : Rep v L) (p : Int) (k : Nat) (hk : 1200 ≤ k) : deckleref42_Rank.f k L p = some (rankI v p) := by
  by_cases hL : L = []
  · subst hL
    unfold deckleref42_Rank.f rankI
    rw [h.count]
    rfl
  · have hl : 0 < L.length := List.length_pos_iff.2 hL
    have hs := h.small
    obtain ⟨k', rfl⟩ : ∃ k', k = k' + 1 := ⟨k - 1, by omega⟩
    have hj : deckleref42_Rank.f (k' + 1) L p = deckleref42_Rank.l0 k' L (placeI (min (max p 0) 1000) L.length) 0 0 := by
      unfold deckleref42_Rank.f
      rw [if_neg (by omega)]
      have hm : mn (mx p 0) 1000 = min (max p 0) 1000 := by unfold mn mx; split <;> split <;> omega
      rw [hm]
      unfold placeI
      have hq : 0 ≤ min (max p 0) 1000 ∧ min (max p 0) 1000 ≤ 1000 := by omega
      generalize min (max p 0) 1000 = q at *
      have z1 : 0 ≤ q * (L.length : Int) := Int.mul_nonneg hq.1 (by omega)
      have z2 : q * (L.length : Int) ≤ 1000 * (L.length : Int) := Int.mul_le_mul_of_nonneg_right hq.2 (by omega)
      generalize q * (L.length : Int) = z at *
      have w1 : wrap64 z = z := by unfold wrap64; omega
      rw [w1, Int.tmod_eq_emod_of_nonneg z1, Int.tdiv_eq_ediv_of_nonneg z1]
      have w2 : wrap64 (z / 1000) = z / 1000 := by unfold wrap64; omega
      have w3 : wrap64 (z / 1000 + 1) = z / 1000 + 1 := by unfold wrap64; omega
      rw [w2, w3]
      split
      · show deckleref42_Rank.l0 k' L (mx (z / 1000 + 1) 1) 0 0 = _
        have : mx (z / 1000 + 1) 1 = max ((z + 999) / 1000) 1 := by unfold mx; split <;> omega
        rw [this]
      · show deckleref42_Rank.l0 k' L (mx (z / 1000) 1) 0 0 = _
        have : mx (z / 1000) 1 = max ((z + 999) / 1000) 1 := by unfold mx; split <;> omega
        rw [this]
    rw [hj]
    have hp := place_in p L.length (by omega)
    obtain ⟨j, j1, j2, j3, j4⟩ := refRank_l h.ge h.small (placeI (min (max p 0) 1000) L.length) hp.2 64 0 k' (by omega) (by omega) (by rw [cum_zero]; omega)
    rw [cum_zero] at j2
    rw [show ((0 : Nat) : Int) = 0 from rfl] at j2
    rw [j2]
    obtain ⟨i, i1, i2, i3, i4⟩ := rank_at h hL p
    rw [i2]
    have : i = j := by
      rcases Nat.lt_trichotomy i j with hh | hh | hh
      · have := cum_mono L (i + 1) j hh; omega
      · exact hh
      · have := cum_mono L (j + 1) i hh; omega
    rw [this]
theorem refSum_l {L : List Int} (h : ∀ n ∈ L, 0 ≤ n ∧ n ≤ 9223372036854775807) (hs : L.length ≤ 1000) : ∀ (k i : Nat) (acc : Int), i ≤ L.length → L.length - i < k → 0 ≤ acc → acc ≤ 9223372036854775807 →
    deckleref42_Sum.l0 k L acc i = some (min (acc + (L.drop i).sum) 9223372036854775807)
  | 0, _, _, _, h, _, _ => by omega
  | k + 1, i, acc, h1, h2, h3, h4 => by
    unfold deckleref42_Sum.l0
    by_cases c : (i : Int) < (L.length : Int)
    · rw [if_pos c, if_pos (by omega)]
      have hm := h _ (rd_mem L i (by omega))
      have e1 : wrap64 ((i : Int) + 1) = ((i + 1 : Nat) : Int) := by unfold wrap64; omega
      have e2 : wrap64 (9223372036854775807 - acc) = 9223372036854775807 - acc := by unfold wrap64; omega
      have hd := sum_ge (L.drop (i + 1)) (fun n hn => h n (List.mem_of_mem_drop hn))
      rw [e1, e2, rd_drop L i (by omega), List.sum_cons]
      by_cases g : rd L (i : Int) > 9223372036854775807 - acc
      · rw [if_pos g]; congr 1; omega
      · rw [if_neg g]
        have e3 : wrap64 (acc + rd L (i : Int)) = acc + rd L (i : Int) := by unfold wrap64; omega
        rw [e3, refSum_l h hs k (i + 1) (acc + rd L (i : Int)) (by omega) (by omega) (by omega) (by omega)]
        congr 1; omega
    · rw [if_neg c]
      have : i = L.length := by omega
      subst this
      rw [List.drop_length]
      simp only [List.sum_nil]
      congr 1; omega
theorem refSum {v L : List Int} (h : Rep v L) (k : Nat) (hk : 1001 ≤ k) : deckleref42_Sum.f k L = some (v.getD 65 0) := by
  have hs := h.small
  have := refSum_l h.ge h.small k 0 0 (by omega) (by omega) (by omega) (by omega)
  rw [show ((0 : Nat) : Int) = 0 from rfl] at this
  unfold deckleref42_Sum.f
  rw [this, h.sum, List.drop_zero]
  congr 1; omega
theorem refCount_bucket {v L : List Int} (h : Rep v L) (b : Int) (k : Nat) (hk : 1066 ≤ k) : deckleref42_Count.f k L b = some (bucketI v b) := by
  rw [refCount h.ge h.small b k hk]
  unfold bucketI
  by_cases c : b < 0 ∨ 64 ≤ b
  · rw [if_pos c, cntI_out h.ge b c]; rfl
  · rw [if_neg c]
    obtain ⟨i, rfl⟩ := Int.eq_ofNat_of_zero_le (a := b) (by omega)
    rw [Int.toNat_natCast, h.bucket i (by omega), cntI_nat]
theorem mergeK_getD (v u : List Int) (hv : v.length = 67) : ∀ (k : Nat), k ≤ 64 → ∀ j, (mergeK v u k).getD j 0 = if j < k then wrap64 (v.getD j 0 + u.getD j 0) else v.getD j 0
  | 0, _, j => by rw [if_neg (by omega)]; rfl
  | k + 1, hk, j => by
    unfold mergeK
    rw [getD_set _ _ _ _ (by rw [mergeK_length, hv]; omega), mergeK_getD v u hv k (by omega) k, mergeK_getD v u hv k (by omega) j, if_neg (Nat.lt_irrefl k)]
    by_cases c : k = j
    · subst c; rw [if_pos rfl, if_pos (by omega)]
    · rw [if_neg c]
      by_cases d : j < k
      · rw [if_pos d, if_pos (by omega)]
      · rw [if_neg d, if_neg (by omega)]
theorem foldl_max_app (B : List Int) : ∀ a : Int, 0 ≤ a → B.foldl max a = max a (B.foldl max 0) := by
  induction B with
  | nil => intro a h; simp; omega
  | cons x t ih =>
    intro a h
    rw [List.foldl_cons, List.foldl_cons, ih (max a x) (by omega), ih (max 0 x) (by omega)]
    omega
/-- What Merge leaves. -/
def mergeH (v u : List Int) : List Int := (((mergeK v u 64).set 64 (wrap64 ((mergeK v u 64).getD 64 0 + u.getD 64 0))).set 65 (plusI ((mergeK v u 64).getD 65 0) (u.getD 65 0))).set 66 (max ((mergeK v u 64).getD 66 0) (u.getD 66 0))
theorem merge_sumOk {v L : List Int} (u : List Int) (h : Rep v L) : 0 ≤ (mergeK v u 64).getD 65 0 ∧ (mergeK v u 64).getD 65 0 ≤ 9223372036854775807 := by
  rw [mergeK_getD v u h.len 64 (by omega), if_neg (by omega)]
  exact h.sumOk
theorem Rep.merge {v u L M : List Int} (h : Rep v L) (g : Rep u M) (hs : L.length + M.length ≤ 1000) : Rep (mergeH v u) (L ++ M) := by
  have hl : (mergeK v u 64).length = 67 := by rw [mergeK_length, h.len]
  have e : ∀ j, (mergeH v u).getD j 0 = if 66 = j then max (v.getD 66 0) (u.getD 66 0) else if 65 = j then plusI (v.getD 65 0) (u.getD 65 0) else if 64 = j then wrap64 (v.getD 64 0 + u.getD 64 0) else if j < 64 then wrap64 (v.getD j 0 + u.getD j 0) else v.getD j 0 := fun j => by
    unfold mergeH
    rw [getD_set _ _ _ _ (by simp [hl]), getD_set _ _ _ _ (by simp [hl]), getD_set _ _ _ _ (by simp [hl])]
    simp only [mergeK_getD v u h.len 64 (by omega), if_neg (show ¬ 64 < 64 by omega), if_neg (show ¬ 65 < 64 by omega), if_neg (show ¬ 66 < 64 by omega)]
  have hc : ∀ i, cnt L i ≤ 1000 := fun i => Nat.le_trans List.countP_le_length h.small
  have hd : ∀ i, cnt M i ≤ 1000 := fun i => Nat.le_trans List.countP_le_length g.small
  refine ⟨by unfold mergeH; simp [hl], ?_, by simp; omega, ?_, ?_, ?_, ?_⟩
  · intro m hm
    rcases List.mem_append.1 hm with hm | hm
    · exact h.ge m hm
    · exact g.ge m hm
  · intro i hi
    rw [e i, if_neg (by omega), if_neg (by omega), if_neg (by omega), if_pos hi, h.bucket i hi, g.bucket i hi]
    have : cnt (L ++ M) i = cnt L i + cnt M i := List.countP_append
    rw [this]
    have := hc i; have := hd i
    unfold wrap64; omega
  · rw [e 64, if_neg (by omega), if_neg (by omega), if_pos rfl, h.count, g.count, List.length_append]
    unfold wrap64; omega
  · rw [e 65, if_neg (by omega), if_pos rfl, h.sum, g.sum, List.sum_append]
    have := sum_ge L h.ge
    have := sum_ge M g.ge
    unfold plusI
    split <;> omega
  · rw [e 66, if_pos rfl, h.most, g.most, List.foldl_append]
    exact (foldl_max_app M _ (fold_max L 0).1).symm
end Go.Proofs.YtnamndioodnelaaDoor.PQ
