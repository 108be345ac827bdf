/- What the document's functions come to. -/
import Derived.Test.YtihggmhmfocnpaaWalkHalf
import Derived.Test.YtihggmhmfocnpaaPQx2
import Derived.Test.YtihggmhmfocnpaaPQx3
import Derived.Test.YtihggmhmfocnpaaPQx4
import Derived.Test.YtihggmhmfocnpaaPQx5
namespace Go.Proofs.Ytihggmhmfocnpaa.PQ
open Go.RowKit Go.Proofs.YtihggmhmfocnpaaW.PrintWords Go.Proofs.YtihggmhmfocnpaaW.PrintLast Go.Proofs.YtihggmhmfocnpaaW.PrintMore
set_option linter.unusedVariables false
set_option linter.unusedSimpArgs false
theorem w64i (k : Nat) (h : k ≤ 100000) : wrap64 ((k : Int) + 1) = ((k + 1 : Nat) : Int) := by rw [Go.IntWalk.wrap64_in _ ⟨by omega, by omega⟩]; omega
theorem touch1_get (cs : List Int) (i k : Nat) (hk : k < cs.length) : (touch1 cs i)[k]'(by rw [touch1_len]; exact hk) = if k = i then (if rd cs (i : Int) < 255 then rd cs (i : Int) + 1 else rd cs (i : Int)) else rd cs (k : Int) := by
  unfold touch1
  by_cases h : rd cs (i : Int) < 255
  · simp only [if_pos h]
    rw [List.getElem_set]
    by_cases e : k = i
    · rw [if_pos e, if_pos e.symm]
    · rw [if_neg e, if_neg (fun q => e q.symm), rd_get hk]
  · simp only [if_neg h]
    have hq : cs[k] = rd cs (k : Int) := (rd_get hk).symm
    by_cases e : k = i
    · subst e; rw [if_pos rfl]; exact hq
    · rw [if_neg e]; exact hq
theorem refTouch_l1 (ds : List Int) (hb : ∀ x ∈ ds, 0 ≤ x ∧ x ≤ 255) (hl : ds.length ≤ 4096) : ∀ (d m k : Nat), k + d = ds.length → d < m → deckleref38_Touch.l1 m (half (ds.take k) ++ ds.drop k) (k : Int) = some (half ds, 0)
  | 0, m, k, h, hm => by
    obtain ⟨m, rfl⟩ : ∃ j, m = j + 1 := ⟨m - 1, by omega⟩
    have e : half (ds.take k) ++ ds.drop k = half ds := by rw [List.take_of_length_le (by omega), List.drop_of_length_le (by omega), List.append_nil]
    rw [e, deckleref38_Touch.l1, if_neg (by rw [half_len]; omega)]
  | d + 1, m, k, h, hm => by
    obtain ⟨m, rfl⟩ : ∃ j, m = j + 1 := ⟨m - 1, by omega⟩
    have hk : k < ds.length := by omega
    have ih := refTouch_l1 ds hb hl d m (k + 1) (by omega) (by omega)
    have hll : (half (ds.take k) ++ ds.drop k).length = ds.length := by rw [List.length_append, half_len, List.length_take, List.length_drop]; omega
    have hx : rd (half (ds.take k) ++ ds.drop k) (k : Int) = ds[k] := by
      rw [rd_get (by omega), List.getElem_append_right (by rw [half_len, List.length_take]; omega)]
      simp [half_len, Nat.min_eq_left (Nat.le_of_lt hk)]
    have hbk := hb _ (List.getElem_mem hk)
    have hn : (half (ds.take k) ++ ds.drop k).set k (ds[k] / 2) = half (ds.take (k + 1)) ++ ds.drop (k + 1) := by
      rw [List.set_append_right _ _ (by rw [half_len, List.length_take]; omega), half_len, List.length_take, Nat.min_eq_left (Nat.le_of_lt hk), Nat.sub_self, List.drop_eq_getElem_cons hk, List.set_cons_zero, List.take_succ_eq_append_getElem hk]
      unfold half
      rw [List.map_append, List.map_singleton, List.append_assoc]
      rfl
    rw [deckleref38_Touch.l1, if_pos (by omega), if_pos (by omega), hx, Int.toNat_natCast, Int.tdiv_eq_ediv_of_nonneg hbk.1, Go.IntWalk.wrap64_in _ ⟨by omega, by omega⟩, hn, w64i k (by omega)]
    exact ih
theorem refTouch_l0 (cs : List Int) (t : Int) (h : OkC cs t) (i : Nat) (hi : i < cs.length) : ∀ (d m k : Nat), k + d = cs.length → d + cs.length + 2 < m → deckleref38_Touch.l0 m (i : Int) ((touch1 cs i).take k) (k : Int) cs t = some (touchC cs t i)
  | 0, m, k, hk, hm => by
    obtain ⟨m, rfl⟩ : ∃ j, m = j + 1 := ⟨m - 1, by omega⟩
    have hl := h.len
    have ht := h.tm
    rw [deckleref38_Touch.l0, if_neg (by omega), Go.IntWalk.wrap64_in _ ⟨by omega, by omega⟩, Go.IntWalk.wrap64_in _ ⟨by omega, by omega⟩, List.take_of_length_le (by rw [touch1_len]; omega)]
    unfold touchC
    by_cases e : t + 1 = 8 * (cs.length : Int)
    · rw [if_pos e, if_pos e]
      exact refTouch_l1 (touch1 cs i) (h.touch1 i) (by rw [touch1_len]; exact hl.2) cs.length m 0 (by rw [touch1_len]; omega) (by omega)
    · rw [if_neg e, if_neg e]
  | d + 1, m, k, hk, hm => by
    obtain ⟨m, rfl⟩ : ∃ j, m = j + 1 := ⟨m - 1, by omega⟩
    have hl := h.len
    have hkl : k < cs.length := by omega
    have ih := refTouch_l0 cs t h i hi d m (k + 1) (by omega) (by omega)
    have hr := h.rd k hkl
    have hg := touch1_get cs i k hkl
    rw [List.take_succ_eq_append_getElem (by rw [touch1_len]; exact hkl), hg] at ih
    have hs : ((touch1 cs i).take k).length < 17592186044416 := by rw [List.length_take]; omega
    rw [deckleref38_Touch.l0, if_pos (by omega), if_pos (by omega), w64i k (by omega)]
    by_cases e : k = i
    · subst e
      rw [if_pos rfl] at ih ⊢
      by_cases h5 : rd cs (k : Int) < 255
      · rw [if_pos h5] at ih ⊢
        rw [if_pos hs, Go.IntWalk.wrap64_in _ ⟨by omega, by omega⟩]
        exact ih
      · rw [if_neg h5] at ih ⊢
        rw [if_pos hs]
        exact ih
    · rw [if_neg e] at ih
      rw [if_neg (by omega), if_pos hs]
      exact ih
theorem refTouch {cs : List Int} {t : Int} (h : OkC cs t) (i : Nat) (hi : i < cs.length) : deckleref38_Touch.f 9000 cs t (i : Int) = some ((touchC cs t i).1, (touchC cs t i).2) := by
  unfold deckleref38_Touch.f
  have := refTouch_l0 cs t h i hi cs.length 9000 0 (by omega) (by have := h.len; omega)
  rw [List.take_zero] at this
  exact this
theorem refCount (cs : List Int) (t i : Int) : deckleref38_Count.f cs t i = some (cntC cs i) := by
  unfold deckleref38_Count.f cntC
  by_cases h0 : i < 0
  · rw [if_pos h0, if_neg (by omega)]
  · rw [if_neg h0]
    by_cases h1 : i ≥ (cs.length : Int)
    · rw [if_pos h1, if_neg (by omega)]
    · rw [if_neg h1, if_pos (by omega), if_pos (by omega), if_pos ⟨by omega, by omega⟩]
theorem refTotal_l0 {cs : List Int} {t : Int} (h : OkC cs t) : ∀ (d m k : Nat), k + d = cs.length → d < m → deckleref38_Total.l0 m (sumC (cs.take k)) (k : Int) cs t = some (sumC cs)
  | 0, m, k, hk, hm => by
    obtain ⟨m, rfl⟩ : ∃ j, m = j + 1 := ⟨m - 1, by omega⟩
    rw [deckleref38_Total.l0, if_neg (by omega), List.take_of_length_le (by omega)]
  | d + 1, m, k, hk, hm => by
    obtain ⟨m, rfl⟩ : ∃ j, m = j + 1 := ⟨m - 1, by omega⟩
    have hl := h.len
    have hkl : k < cs.length := by omega
    have ih := refTotal_l0 h d m (k + 1) (by omega) (by omega)
    have hs := h.sum_take k (by omega)
    have hr := h.rd k hkl
    rw [sumC_take hkl] at ih
    rw [deckleref38_Total.l0, if_pos (by omega), if_pos (by omega), w64i k (by omega), Go.IntWalk.wrap64_in _ ⟨by omega, by omega⟩]
    exact ih
theorem refTotal {cs : List Int} {t : Int} (h : OkC cs t) (t' : Int) : deckleref38_Total.f 5000 cs t' = some (sumC cs) := by
  unfold deckleref38_Total.f
  have h2 : ∀ (d m k : Nat), k + d = cs.length → d < m → deckleref38_Total.l0 m (sumC (cs.take k)) (k : Int) cs t' = some (sumC cs) := by
    intro d
    induction d with
    | zero =>
      intro m k hk hm
      obtain ⟨m, rfl⟩ : ∃ j, m = j + 1 := ⟨m - 1, by omega⟩
      rw [deckleref38_Total.l0, if_neg (by omega), List.take_of_length_le (by omega)]
    | succ d ih =>
      intro m k hk hm
      obtain ⟨m, rfl⟩ : ∃ j, m = j + 1 := ⟨m - 1, by omega⟩
      have hl := h.len
      have hkl : k < cs.length := by omega
      have ih := ih m (k + 1) (by omega) (by omega)
      have hs := h.sum_take k (by omega)
      have hr := h.rd k hkl
      rw [sumC_take hkl] at ih
      rw [deckleref38_Total.l0, if_pos (by omega), if_pos (by omega), w64i k (by omega), Go.IntWalk.wrap64_in _ ⟨by omega, by omega⟩]
      exact ih
  have := h2 cs.length 5000 0 (by omega) (by have := h.len; omega)
  rw [List.take_zero] at this
  exact this
theorem refHot {cs : List Int} {t : Int} (h : OkC cs t) (t' i : Int) : deckleref38_Hot.f 5000 cs t' i = some (hotC cs i) := by
  have hb := cntC_bd h i
  have hs := h.sum
  have hl := h.len
  have hw1 : wrap64 (cntC cs i * (cs.length : Int)) = cntC cs i * (cs.length : Int) := Go.IntWalk.wrap64_in _ ⟨by
    have := Int.mul_nonneg hb.1 (show 0 ≤ (cs.length : Int) by omega); omega, by
    have := Int.mul_le_mul hb.2 (show (cs.length : Int) ≤ 4096 by omega) (by omega) (by omega); omega⟩
  have hw2 : wrap64 (2 * sumC cs) = 2 * sumC cs := Go.IntWalk.wrap64_in _ ⟨by omega, by omega⟩
  unfold deckleref38_Hot.f
  rw [refCount]
  show (if cntC cs i > 0 then _ else _) = _
  by_cases h0 : cntC cs i > 0
  · rw [if_pos h0]
    show (deckleref38_Total.f 5000 cs t').bind _ = _
    rw [refTotal h]
    show some (decide (wrap64 (cntC cs i * (cs.length : Int)) > wrap64 (2 * sumC cs))) = _
    rw [hw1, hw2]
    unfold hotC
    congr 1
    rw [decide_eq_decide]
    exact ⟨fun q => ⟨h0, q⟩, fun q => q.2⟩
  · rw [if_neg h0]
    unfold hotC
    rw [decide_eq_false (fun q => h0 q.1)]
/-- The sectors of one count, rising; of all counts, from the greatest. -/
def blkN (cs : List Int) (c : Nat) (k : Nat) : List Nat := (List.range k).filter fun i : Nat => decide (rd cs (i : Int) = (c : Int))
def flN (cs : List Int) : Nat → List Nat
  | 0 => []
  | c + 1 => blkN cs (c + 1) cs.length ++ flN cs c
theorem blk_mem (cs : List Int) (c k x : Nat) : x ∈ blkN cs c k ↔ x < k ∧ rd cs (x : Int) = (c : Int) := by
  unfold blkN
  rw [List.mem_filter, List.mem_range, decide_eq_true_eq]
theorem fl_mem (cs : List Int) : ∀ (c x : Nat), x ∈ flN cs c ↔ x < cs.length ∧ 0 < rd cs (x : Int) ∧ rd cs (x : Int) ≤ (c : Int)
  | 0, x => by simp [flN] <;> omega
  | c + 1, x => by
    rw [flN, List.mem_append, blk_mem, fl_mem cs c x]
    omega
theorem fl_sorted (cs : List Int) : ∀ c : Nat, (flN cs c).Pairwise fun x y : Nat => rd cs (y : Int) < rd cs (x : Int) ∨ (rd cs (x : Int) = rd cs (y : Int) ∧ x < y)
  | 0 => List.Pairwise.nil
  | c + 1 => by
    rw [flN, List.pairwise_append]
    refine ⟨?_, fl_sorted cs c, fun x hx y hy => ?_⟩
    · unfold blkN
      refine (List.Pairwise.filter _ (List.pairwise_lt_range)).imp_of_mem ?_
      intro x y hx hy hxy
      have h1 := (List.mem_filter.1 hx).2
      have h2 := (List.mem_filter.1 hy).2
      rw [decide_eq_true_eq] at h1 h2
      exact .inr ⟨by omega, hxy⟩
    · have h1 := (blk_mem cs _ _ x).1 hx
      have h2 := (fl_mem cs c y).1 hy
      exact .inl (by omega)
theorem fl_eq {cs : List Int} {t : Int} (h : OkC cs t) : flN cs 255 = sortN cs := by
  have n1 : (flN cs 255).Nodup := (fl_sorted cs 255).imp (fun {a b} q => by intro e; subst e; omega)
  have n2 : (sortN cs).Nodup := by
    rw [(sortN_perm cs).nodup_iff]
    unfold hotN
    exact List.Nodup.sublist List.filter_sublist List.nodup_range
  have hp : (flN cs 255).Perm (sortN cs) := by
    rw [List.perm_ext_iff_of_nodup n1 n2]
    intro x
    rw [fl_mem, (sortN_perm cs).mem_iff]
    unfold hotN
    rw [List.mem_filter, List.mem_range, decide_eq_true_eq]
    refine ⟨fun q => ⟨q.1, q.2.1⟩, fun q => ⟨q.1, q.2, ?_⟩⟩
    have := h.rd x q.1
    omega
  refine hp.eq_of_pairwise (le := fun x y => (!ltN cs y x) = true) ?_ ?_ (sortN_sorted cs)
  · intro a b _ _ h1 h2
    rw [le_iff] at h1 h2
    omega
  · refine (fl_sorted cs 255).imp ?_
    intro a b q
    rw [le_iff]
    omega
theorem blk_succ (cs : List Int) (c k : Nat) : blkN cs c (k + 1) = if rd cs (k : Int) = (c : Int) then blkN cs c k ++ [k] else blkN cs c k := by
  unfold blkN
  rw [List.range_succ, List.filter_append]
  by_cases e : rd cs (k : Int) = (c : Int)
  · rw [if_pos e]; simp [e]
  · rw [if_neg e]; simp [e]
theorem blk_le (cs : List Int) (c k : Nat) : (blkN cs c k).length ≤ k := by
  unfold blkN
  have := List.length_filter_le (fun i : Nat => decide (rd cs (i : Int) = (c : Int))) (List.range k)
  rw [List.length_range] at this
  exact this
def tkL (n : Int) (Q : List Nat) : List Int := (Q.take (max n 0).toNat).map fun k : Nat => (k : Int)
theorem tk_len (n : Int) (Q : List Nat) : (tkL n Q).length = min (max n 0).toNat Q.length := by unfold tkL; rw [List.length_map, List.length_take]
theorem tk_push (n : Int) (Q : List Nat) (k : Nat) (h : ((tkL n Q).length : Int) < n) : tkL n (Q ++ [k]) = tkL n Q ++ [(k : Int)] := by
  rw [tk_len] at h
  unfold tkL
  rw [List.take_of_length_le (show (Q ++ [k]).length ≤ _ by rw [List.length_append, List.length_singleton]; omega), List.take_of_length_le (show Q.length ≤ _ by omega), List.map_append, List.map_singleton]
theorem tk_full (n : Int) (Q : List Nat) (k : Nat) (h : ¬ ((tkL n Q).length : Int) < n) : tkL n (Q ++ [k]) = tkL n Q := by
  rw [tk_len] at h
  unfold tkL
  rw [List.take_append_of_le_length (by omega)]
theorem refRank_l1 (cs : List Int) (t n : Int) (v : Nat) (pre : List Nat) (hl : cs.length ≤ 4096) (hp : pre.length ≤ 2000000) (m : Nat) (r : List Int) (H : deckleref38_Rank.l0 m n (tkL n (pre ++ blkN cs v cs.length)) (wrap64 ((v : Int) - 1)) cs t = some r) :
    ∀ (d i : Nat), i + d = cs.length → deckleref38_Rank.l1 (m + d + 1) n (tkL n (pre ++ blkN cs v i)) (v : Int) (i : Int) cs t = some r
  | 0, i, hi => by
    obtain rfl : i = cs.length := by omega
    rw [deckleref38_Rank.l1, if_neg (by omega)]
    exact H
  | d + 1, i, hi => by
    have ih := refRank_l1 cs t n v pre hl hp m r H d (i + 1) (by omega)
    have hb := blk_le cs v i
    have hq : (tkL n (pre ++ blkN cs v i)).length < 17592186044416 := by rw [tk_len, List.length_append]; omega
    rw [blk_succ] at ih
    rw [show m + (d + 1) + 1 = (m + d + 1) + 1 by omega, deckleref38_Rank.l1, if_pos (by omega), if_pos (by omega), w64i i (by omega)]
    by_cases e : rd cs (i : Int) = (v : Int)
    · rw [if_pos e, ← List.append_assoc] at ih
      rw [if_pos e]
      by_cases e2 : ((tkL n (pre ++ blkN cs v i)).length : Int) < n
      · rw [if_pos e2, if_pos hq, ← tk_push n _ i e2]
        exact ih
      · rw [if_neg e2, ← tk_full n _ i e2]
        exact ih
    · rw [if_neg e] at ih
      rw [if_neg e]
      exact ih
theorem refRank_l0 (cs : List Int) (t n : Int) (hl : cs.length ≤ 4096) : ∀ (v : Nat) (pre : List Nat), v ≤ 255 → pre.length ≤ (255 - v) * 4096 → deckleref38_Rank.l0 (v * (cs.length + 2) + 1) n (tkL n pre) (v : Int) cs t = some (tkL n (pre ++ flN cs v))
  | 0, pre, hv, hp => by
    rw [show 0 * (cs.length + 2) + 1 = 0 + 1 by omega, deckleref38_Rank.l0, if_neg (by omega)]
    simp [flN]
  | v + 1, pre, hv, hp => by
    have hb := blk_le cs (v + 1) cs.length
    have ih := refRank_l0 cs t n hl v (pre ++ blkN cs (v + 1) cs.length) (by omega) (by rw [List.length_append]; omega)
    rw [List.append_assoc] at ih
    have e : (v : Int) = wrap64 (((v + 1 : Nat) : Int) - 1) := by rw [Go.IntWalk.wrap64_in _ ⟨by omega, by omega⟩]; omega
    rw [e, ← List.append_assoc] at ih
    have h1 := refRank_l1 cs t n (v + 1) pre hl (by omega) _ _ ih cs.length 0 (by omega)
    rw [show (v + 1) * (cs.length + 2) + 1 = (v * (cs.length + 2) + 1 + cs.length + 1) + 1 by rw [Nat.add_mul]; omega, deckleref38_Rank.l0, if_pos (by omega)]
    rw [show blkN cs (v + 1) 0 = [] from rfl, List.append_nil] at h1
    rw [flN, ← List.append_assoc]
    exact h1
theorem refRank {cs : List Int} {t : Int} (h : OkC cs t) (t' n : Int) : deckleref38_Rank.f (255 * (cs.length + 2) + 1) cs t' n = some (rankL cs n) := by
  have h1 := refRank_l0 cs t' n h.len.2 255 [] (by omega) (by simp)
  rw [List.nil_append, fl_eq h] at h1
  unfold deckleref38_Rank.f
  rw [show ([] : List Int) = tkL n [] by unfold tkL; simp]
  exact h1
end Go.Proofs.Ytihggmhmfocnpaa.PQ
