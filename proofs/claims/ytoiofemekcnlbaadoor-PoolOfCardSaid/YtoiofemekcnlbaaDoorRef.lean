/- What the document's functions of a pool come to. -/
import Derived.Test.YtoiofemekcnlbaaDoorBads
import Derived.Test.YtoiofemekcnlbaaDoorPQx2
import Derived.Test.YtoiofemekcnlbaaDoorPQx4
import Derived.Test.YtoiofemekcnlbaaDoorPQx5
import Derived.Test.YtoiofemekcnlbaaDoorPQx6
import Derived.Test.YtoiofemekcnlbaaDoorPQx7
import Derived.Test.YtoiofemekcnlbaaDoorPQx8
import Derived.Test.YtoiofemekcnlbaaDoorPQx9
import Derived.Test.YtoiofemekcnlbaaDoorPQx10
namespace Go.Proofs.YtoiofemekcnlbaaDoor.PQ
open Go.RowKit Go.Proofs.YtoiofemekcnlbaaDoorW.PrintWords Go.Proofs.YtoiofemekcnlbaaDoorW.PrintLast Go.Proofs.YtoiofemekcnlbaaDoorW.PrintMore
set_option linter.unusedVariables false
set_option linter.unusedSimpArgs false
theorem w64 (n : Nat) (h : n < 4611686018427387904) : wrap64 ((n : Int) + 1) = ((n + 1 : Nat) : Int) := by unfold wrap64; omega
theorem refMay (k a b : Nat) (ha : a < 7) (hb : b < 7) : deckleref21_May.f (k + 5) (a : Int) (b : Int) = some (mayB a b) := by
  have h1 : a = 0 ∨ a = 1 ∨ a = 2 ∨ a = 3 ∨ a = 4 ∨ a = 5 ∨ a = 6 := by omega
  have h2 : b = 0 ∨ b = 1 ∨ b = 2 ∨ b = 3 ∨ b = 4 ∨ b = 5 ∨ b = 6 := by omega
  rcases h1 with rfl | rfl | rfl | rfl | rfl | rfl | rfl <;> rcases h2 with rfl | rfl | rfl | rfl | rfl | rfl | rfl <;> rfl
def fstL (l : List (Int × Bool)) : List Int := l.map (·.1)
def sndL (l : List (Int × Bool)) : List Bool := l.map (·.2)
theorem fstL_len (l : List (Int × Bool)) : (fstL l).length = l.length := by unfold fstL; simp
theorem sndL_len (l : List (Int × Bool)) : (sndL l).length = l.length := by unfold sndL; simp
theorem rd_fst (l : List (Int × Bool)) (i : Int) : rd (fstL l) i = rl l i := by
  unfold rd fstL rl
  rw [List.getD_eq_getElem?_getD, List.getD_eq_getElem?_getD, List.getElem?_map]
  cases l[i.toNat]? <;> rfl
theorem rd_snd (l : List (Int × Bool)) (i : Int) : rdOf false (sndL l) i = wn l i := by
  unfold rdOf sndL wn
  rw [List.getD_eq_getElem?_getD, List.getD_eq_getElem?_getD, List.getElem?_map]
  cases l[i.toNat]? <;> rfl
theorem set_gen {α : Type} (xs : List α) (i : Nat) (r : α) : ∀ (d j : Nat), j + d = xs.length → ∀ out : List α, out = (xs.set i r).take j → out ++ ((xs.set i r).drop j) = xs.set i r := by
  intro d j _ out h
  rw [h, List.take_append_drop]
theorem refTo_l (rs : List Int) (ws : List Bool) (i : Nat) (r : Int) (hl : rs.length ≤ 64) : ∀ (d k j : Nat), j + d = rs.length → d < k → deckleref21_To.l0 k (i : Int) r ((rs.set i r).take j) (j : Int) rs ws = some (rs.set i r, ws, 0)
  | 0, k, j, h, hk => by
    obtain ⟨k, rfl⟩ : ∃ m, k = m + 1 := ⟨k - 1, by omega⟩
    rw [deckleref21_To.l0, if_neg (by omega), List.take_of_length_le (by rw [List.length_set]; omega)]
  | d + 1, k, j, h, hk => by
    obtain ⟨k, rfl⟩ : ∃ m, k = m + 1 := ⟨k - 1, by omega⟩
    have hj : j < rs.length := by omega
    have hlen : ((rs.set i r).take j).length < 17592186044416 := by rw [List.length_take]; omega
    have htk : (rs.set i r).take (j + 1) = (rs.set i r).take j ++ [(rs.set i r)[j]'(by rw [List.length_set]; exact hj)] := List.take_succ_eq_append_getElem _
    rw [deckleref21_To.l0, if_pos (by omega), w64 j (by omega)]
    have ih := refTo_l rs ws i r hl d k (j + 1) (by omega) (by omega)
    rw [htk, List.getElem_set] at ih
    by_cases c : i = j
    · rw [if_pos (by omega), if_pos hlen]
      rw [if_pos c] at ih
      exact ih
    · rw [if_neg (by omega), if_pos (by omega), if_pos hlen]
      rw [if_neg c] at ih
      have e : rd rs (j : Int) = rs[j] := by unfold rd; rw [Int.toNat_natCast, List.getD_eq_getElem?_getD, List.getElem?_eq_getElem hj]; rfl
      rw [e]
      exact ih
theorem refWear_l (rs : List Int) (ws : List Bool) (i : Nat) (hl : ws.length ≤ 64) : ∀ (d k j : Nat), j + d = ws.length → d < k → deckleref21_Wear.l0 k (i : Int) ((ws.set i true).take j) (j : Int) rs ws = some (rs, ws.set i true, 0)
  | 0, k, j, h, hk => by
    obtain ⟨k, rfl⟩ : ∃ m, k = m + 1 := ⟨k - 1, by omega⟩
    rw [deckleref21_Wear.l0, if_neg (by omega), List.take_of_length_le (by rw [List.length_set]; omega)]
  | d + 1, k, j, h, hk => by
    obtain ⟨k, rfl⟩ : ∃ m, k = m + 1 := ⟨k - 1, by omega⟩
    have hj : j < ws.length := by omega
    have hlen : ((ws.set i true).take j).length < 140737488355328 := by rw [List.length_take]; omega
    have htk : (ws.set i true).take (j + 1) = (ws.set i true).take j ++ [(ws.set i true)[j]'(by rw [List.length_set]; exact hj)] := List.take_succ_eq_append_getElem _
    rw [deckleref21_Wear.l0, if_pos (by omega), if_pos (by omega), w64 j (by omega)]
    have ih := refWear_l rs ws i hl d k (j + 1) (by omega) (by omega)
    rw [htk, List.getElem_set] at ih
    have e : rdOf false ws (j : Int) = ws[j] := by unfold rdOf; rw [Int.toNat_natCast, List.getD_eq_getElem?_getD, List.getElem?_eq_getElem hj]; rfl
    rw [e]
    by_cases c : i = j
    · rw [if_pos c] at ih
      by_cases c2 : ws[j] = true
      · rw [if_pos c2, if_pos hlen]; exact ih
      · rw [if_neg c2, if_pos hlen, show ((j : Int) == (i : Int)) = true from beq_iff_eq.2 (by omega)]; exact ih
    · rw [if_neg c] at ih
      by_cases c2 : ws[j] = true
      · rw [if_pos c2, if_pos hlen]; rw [c2] at ih; exact ih
      · rw [if_neg c2, if_pos hlen, show ((j : Int) == (i : Int)) = false from beq_eq_false_iff_ne.2 (by omega)]
        rw [Bool.not_eq_true] at c2
        rw [c2] at ih; exact ih
theorem refBads_l (rs : List Int) (l : List (Int × Bool)) (hl : l.length ≤ 64) : ∀ (d k j : Nat), j + d = l.length → d < k → deckleref21_Bads.l0 k (badsK l j : Int) (j : Int) rs (sndL l) = some (badsK l l.length : Int)
  | 0, k, j, h, hk => by
    obtain ⟨k, rfl⟩ : ∃ m, k = m + 1 := ⟨k - 1, by omega⟩
    obtain rfl : j = l.length := by omega
    rw [deckleref21_Bads.l0, sndL_len, if_neg (by omega)]
  | d + 1, k, j, h, hk => by
    obtain ⟨k, rfl⟩ : ∃ m, k = m + 1 := ⟨k - 1, by omega⟩
    have hb := badsK_le l j
    rw [deckleref21_Bads.l0, sndL_len, if_pos (by omega), if_pos (by omega), rd_snd, w64 j (by omega), w64 (badsK l j) (by omega)]
    have ih := refBads_l rs l hl d k (j + 1) (by omega) (by omega)
    rw [badsK] at ih
    split
    · rename_i c; rw [if_pos c] at ih; exact ih
    · rename_i c; rw [if_neg c] at ih; exact ih
theorem refBads (l : List (Int × Bool)) (hl : l.length ≤ 64) : deckleref21_Bads.f 100 (fstL l) (sndL l) = some (badsK l l.length : Int) :=
  refBads_l (fstL l) l hl l.length 100 0 (by omega) (by omega)
theorem refTo (l : List (Int × Bool)) (hl : l.length ≤ 64) (hm : ∀ x ∈ l, 0 ≤ x.1 ∧ x.1 ≤ 6) (i r : Int) : deckleref21_To.f 100 (fstL l) (sndL l) i r = some (fstL (toR l i r), sndL (toR l i r), toC l i r) := by
  unfold deckleref21_To.f
  rw [fstL_len, sndL_len]
  have hout : ¬ (okI l i ∧ okR r) → ∀ b, b = true → deckleref21_To.j0 100 i r b (fstL l) (sndL l) = some (fstL (toR l i r), sndL (toR l i r), toC l i r) := by
    rintro h _ rfl
    rw [toR_out h, toC_out h]
    rfl
  by_cases c1 : i < 0
  · rw [if_pos c1]; exact hout (fun h => by have := h.1.1; omega) _ rfl
  rw [if_neg c1]
  by_cases c2 : i ≥ (l.length : Int)
  · rw [if_pos c2]; exact hout (fun h => by have := h.1.2; omega) _ rfl
  rw [if_neg c2, if_neg c2]
  by_cases c3 : r < 0
  · rw [if_pos c3]; exact hout (fun h => by have := h.2.1; omega) _ rfl
  rw [if_neg c3]
  by_cases c4 : r > 6
  · exact hout (fun h => by have := h.2.2; omega) _ (decide_eq_true c4)
  rw [decide_eq_false c4]
  have hin : okI l i ∧ okR r := ⟨⟨by omega, by omega⟩, by omega, by omega⟩
  rw [toR_in hin, toC_in hin]
  obtain ⟨i, rfl⟩ := Int.eq_ofNat_of_zero_le hin.1.1
  obtain ⟨r, rfl⟩ := Int.eq_ofNat_of_zero_le hin.2.1
  rw [Int.toNat_natCast]
  have hf := getD_may hm i
  have ef : rl l i = (l.getD i (0, false)).1 := by unfold rl; rw [Int.toNat_natCast]
  obtain ⟨f, hf2⟩ := Int.eq_ofNat_of_zero_le hf.1
  have hfl : fstL (l.set i ((r : Int), wn l i)) = (fstL l).set i (r : Int) := by unfold fstL; rw [List.map_set]
  have hsl : sndL (l.set i ((r : Int), wn l i)) = sndL l := by
    unfold sndL
    rw [List.map_set]
    apply List.ext_getElem?
    intro j
    rw [List.getElem?_set]
    split
    · rename_i e
      subst e
      split
      · rename_i h2
        rw [List.length_map] at h2
        rw [List.getElem?_map, List.getElem?_eq_getElem h2]
        unfold wn
        rw [Int.toNat_natCast, List.getD_eq_getElem?_getD, List.getElem?_eq_getElem h2]
        rfl
      · rename_i h2; rw [List.getElem?_eq_none (by omega)]
    · rfl
  rw [deckleref21_To.j0, if_neg (by decide), if_pos (by omega), fstL_len, if_pos (by omega), rd_fst, ef, hf2, refMay 94 f r (by omega) (by omega)]
  simp only [Option.bind_some]
  have hgo : ∀ k, 70 ≤ k → deckleref21_To.l0 k (i : Int) (r : Int) ([] : List Int) 0 (fstL l) (sndL l) = some ((fstL l).set i (r : Int), sndL l, 0) := fun k hk =>
    refTo_l (fstL l) (sndL l) i r (by rw [fstL_len]; exact hl) l.length k 0 (by rw [fstL_len]; omega) (by omega)
  have h5 : ∀ k, deckleref21_To.j1 (k + 1) (i : Int) (r : Int) true (fstL l) (sndL l) = some (fstL l, sndL l, 5) := fun k => rfl
  have h6 : ∀ k, 70 ≤ k → deckleref21_To.j1 (k + 1) (i : Int) (r : Int) false (fstL l) (sndL l) = some ((fstL l).set i (r : Int), sndL l, 0) := fun k hk => by
    rw [deckleref21_To.j1, if_neg (by decide)]
    exact hgo k hk
  unfold takes
  cases hmb : mayB (f : Int) (r : Int) with
  | false =>
    rw [if_neg (by decide), Bool.false_and, if_neg (by decide), if_neg (by decide)]
    exact h5 98
  | true =>
    rw [if_pos rfl, sndL_len, if_pos (by omega), rd_snd, Bool.true_and]
    cases hw : wn l (i : Int) with
    | false =>
      rw [if_neg (by decide), Bool.false_and, Bool.not_false, if_pos rfl, if_pos rfl]
      rw [hw] at hfl hsl
      rw [hfl, hsl]
      exact h6 98 (by omega)
    | true =>
      rw [if_pos rfl, Bool.true_and]
      rw [hw] at hfl hsl
      by_cases r0 : (r : Int) = 0
      · rw [if_pos r0, r0, if_neg (by simp), if_neg (by simp)]
        rw [← r0]
        exact h5 98
      · have e0 : ((r : Int) == 0) = false := beq_eq_false_iff_ne.2 r0
        rw [if_neg r0, e0, Bool.false_or]
        by_cases f0 : (f : Int) = 0
        · rw [if_pos f0, beq_iff_eq.2 f0, Bool.true_and]
          by_cases r6 : (r : Int) = 6
          · have e6 : ((r : Int) != 6) = false := by rw [bne, beq_iff_eq.2 r6]; rfl
            rw [e6, Bool.not_false, if_pos rfl, if_pos rfl, hfl, hsl]
            exact h6 98 (by omega)
          · have e6 : ((r : Int) != 6) = true := bne_iff_ne.2 r6
            rw [e6, Bool.not_true, if_neg (by decide), if_neg (by decide)]
            exact h5 98
        · rw [if_neg f0, beq_eq_false_iff_ne.2 f0, Bool.false_and, Bool.not_false, if_pos rfl, if_pos rfl, hfl, hsl]
          exact h6 98 (by omega)
theorem refWear (l : List (Int × Bool)) (hl : l.length ≤ 64) (i : Int) : deckleref21_Wear.f 100 (fstL l) (sndL l) i = some (fstL (wearR l i), sndL (wearR l i), if okI l i then 0 else 1) := by
  unfold deckleref21_Wear.f wearR
  rw [sndL_len]
  have hout : ¬ okI l i → ∀ b, b = true → deckleref21_Wear.j0 100 i b (fstL l) (sndL l) = some (fstL l, sndL l, 1) := by
    rintro h _ rfl
    rfl
  by_cases c1 : i < 0
  · have h : ¬ okI l i := fun h => by have := h.1; omega
    rw [if_pos c1, if_neg h, if_neg h]; exact hout h _ rfl
  rw [if_neg c1]
  by_cases c2 : i ≥ (l.length : Int)
  · have h : ¬ okI l i := fun h => by have := h.2; omega
    rw [if_neg h, if_neg h]; exact hout h _ (decide_eq_true c2)
  rw [decide_eq_false c2]
  have hin : okI l i := ⟨by omega, by omega⟩
  rw [if_pos hin, if_pos hin]
  obtain ⟨i, rfl⟩ := Int.eq_ofNat_of_zero_le hin.1
  have hfl : fstL (l.set i (rl l i, true)) = fstL l := by
    unfold fstL
    rw [List.map_set]
    apply List.ext_getElem?
    intro j
    rw [List.getElem?_set]
    split
    · rename_i e
      subst e
      split
      · rename_i h2
        rw [List.length_map] at h2
        rw [List.getElem?_map, List.getElem?_eq_getElem h2]
        unfold rl
        rw [Int.toNat_natCast, List.getD_eq_getElem?_getD, List.getElem?_eq_getElem h2]
        rfl
      · rename_i h2; rw [List.getElem?_eq_none (by omega)]
    · rfl
  have hsl : sndL (l.set i (rl l i, true)) = (sndL l).set i true := by unfold sndL; rw [List.map_set]
  rw [Int.toNat_natCast, hfl, hsl, deckleref21_Wear.j0, if_neg (by decide)]
  exact refWear_l (fstL l) (sndL l) i (by rw [sndL_len]; exact hl) l.length 99 0 (by rw [sndL_len]; omega) (by omega)
theorem refNew (n : Nat) (h1 : 1 ≤ n) (h2 : n ≤ 64) : deckleref21_New.f (n : Int) = some (fstL (List.replicate n (0, false)), sndL (List.replicate n (0, false)), 0) := by
  unfold deckleref21_New.f fstL sndL
  rw [if_neg (by omega), if_neg (by omega), if_pos (by omega), if_pos (by omega), if_pos (by omega), Int.toNat_natCast, List.map_replicate, List.map_replicate]
theorem refNew_no (n : Int) (h : ¬ (1 ≤ n ∧ n ≤ 64)) : deckleref21_New.f n = some ([], [], 1) := by
  unfold deckleref21_New.f
  by_cases c : n < 1
  · rw [if_pos c]
  · rw [if_neg c, if_pos (by omega)]
theorem refList_1 (l : List (Int × Bool)) (ys : List Int) (hl : l.length ≤ 64) (hy : ys.length ≤ 64) (j : Nat) (hj : j < l.length) (out : List Int) (ho : out.length ≤ 64) : ∀ (d k i : Nat) (b : Bool), i + d = ys.length → d < k → deckleref21_List.l1 k ys out (j : Int) b (i : Int) (fstL l) (sndL l) = deckleref21_List.l0 (k - d - 1) ys (if b = true ∨ rl l j ∈ ys.drop i then out ++ [(j : Int)] else out) ((j + 1 : Nat) : Int) (fstL l) (sndL l)
  | 0, k, i, b, h, hk => by
    obtain ⟨k, rfl⟩ : ∃ m, k = m + 1 := ⟨k - 1, by omega⟩
    rw [deckleref21_List.l1, if_neg (by omega), w64 j (by omega), List.drop_eq_nil_of_le (by omega), show k + 1 - 0 - 1 = k by omega]
    cases b with
    | true => rw [if_pos rfl, if_pos (by omega), if_pos (.inl rfl)]
    | false => rw [if_neg (by decide), if_neg (by simp)]
  | d + 1, k, i, b, h, hk => by
    obtain ⟨k, rfl⟩ : ∃ m, k = m + 1 := ⟨k - 1, by omega⟩
    have hi : i < ys.length := by omega
    have e : rd ys (i : Int) = ys[i] := by unfold rd; rw [Int.toNat_natCast, List.getD_eq_getElem?_getD, List.getElem?_eq_getElem hi]; rfl
    rw [deckleref21_List.l1, if_pos (by omega), w64 i (by omega), fstL_len, if_pos (show (0 : Int) ≤ i by omega), if_pos (show (0 : Int) ≤ j by omega), if_pos (show (j : Int) < l.length by omega), rd_fst, e, List.drop_eq_getElem_cons hi]
    rw [refList_1 l ys hl hy j hj out ho d k (i + 1) true (by omega) (by omega), refList_1 l ys hl hy j hj out ho d k (i + 1) (ys[i] == rl l j) (by omega) (by omega), show k + 1 - (d + 1) - 1 = k - d - 1 by omega]
    cases b with
    | true => rw [if_pos rfl, if_pos (.inl rfl), if_pos (.inl rfl)]
    | false =>
      rw [if_neg (by decide)]
      congr 1
      by_cases c : rl l j ∈ ys[i] :: ys.drop (i + 1)
      · have c1 : (ys[i] == rl l j) = true ∨ rl l j ∈ ys.drop (i + 1) := by
          rcases List.mem_cons.1 c with c | c
          · exact .inl (beq_iff_eq.2 c.symm)
          · exact .inr c
        rw [if_pos c1, if_pos (.inr c)]
      · have c1 : ¬ ((ys[i] == rl l j) = true ∨ rl l j ∈ ys.drop (i + 1)) := by
          rintro (h | h)
          · exact c (by rw [← beq_iff_eq.1 h]; exact List.mem_cons_self)
          · exact c (List.mem_cons_of_mem _ h)
        rw [if_neg c1, if_neg (fun h => h.elim (fun h => by cases h) c)]
theorem refList_0 (l : List (Int × Bool)) (ys : List Int) (hl : l.length ≤ 64) (hy : ys.length ≤ 64) : ∀ (d k j : Nat), j + d = l.length → d * (ys.length + 2) < k → deckleref21_List.l0 k ys (listK l ys j) (j : Int) (fstL l) (sndL l) = some (listK l ys l.length)
  | 0, k, j, h, hk => by
    obtain ⟨k, rfl⟩ : ∃ m, k = m + 1 := ⟨k - 1, by omega⟩
    obtain rfl : j = l.length := by omega
    rw [deckleref21_List.l0, fstL_len, if_neg (by omega)]
  | d + 1, k, j, h, hk => by
    have hk2 : d * (ys.length + 2) + (ys.length + 2) < k := by rw [Nat.add_mul] at hk; omega
    obtain ⟨k, rfl⟩ : ∃ m, k = m + 1 := ⟨k - 1, by omega⟩
    have ho := listK_len l ys j
    rw [deckleref21_List.l0, fstL_len, if_pos (by omega), show (0 : Int) = ((0 : Nat) : Int) from rfl, refList_1 l ys hl hy j (by omega) (listK l ys j) (by omega) ys.length k 0 false (by omega) (by omega), List.drop_zero]
    have ih := refList_0 l ys hl hy d (k - ys.length - 1) (j + 1) (by omega) (by omega)
    rw [listK] at ih
    by_cases c : rl l j ∈ ys
    · rw [if_pos c] at ih
      rw [if_pos (.inr c)]; exact ih
    · rw [if_neg c] at ih
      rw [if_neg (fun h => h.elim (fun h => by cases h) c)]; exact ih
theorem refList (l : List (Int × Bool)) (ys : List Int) (hl : l.length ≤ 64) (hy : ys.length ≤ 64) : deckleref21_List.f 5000 (fstL l) (sndL l) ys = some (listK l ys l.length) := by
  refine refList_0 l ys hl hy l.length 5000 0 (by omega) ?_
  have : l.length * (ys.length + 2) ≤ 64 * 66 := Nat.mul_le_mul hl (by omega)
  omega
end Go.Proofs.YtoiofemekcnlbaaDoor.PQ
