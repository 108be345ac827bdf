/- The tag laws' pure statements: what bytes are as tags; no condition. -/
import Derived.Test.YtpghddanjlbcaaaPQx7
import Derived.Test.YtpghddanjlbcaaaPureTag
namespace Go.Proofs.Ytpghddanjlbcaaa.Pure
open Go.RowKit Go.Proofs.YtpghddanjlbcaaaW.PrintWords PQ
set_option linter.unusedVariables false
set_option linter.unusedSimpArgs false
theorem ex_size (s : ByteArray) (i j : Nat) (h : i ≤ j) (hj : j ≤ s.size) : (s.extract i j).size = j - i := by
  rw [← bytesL_length, bytesL_extract, List.length_drop, List.length_take, bytesL_length]; omega
theorem ex_num (s : ByteArray) (i j : Nat) (h : i < j) (hj : j ≤ s.size) (h6 : j ≤ i + 6) : num (((bytesL s).take j).drop i) < 281474976710656 := by
  have hl := num_lt _ (bytesL_lt (s.extract i j))
  rw [bytesL_length, ex_size s i j (by omega) hj, bytesL_extract] at hl
  have hp : 256 ^ (j - i) ≤ 256 ^ 6 := Nat.pow_le_pow_right (by decide) (by omega)
  omega
theorem part_ok (m : Nat) (hm : 12 ≤ m) (s : ByteArray) (i j : Nat) (h : i < j) (hj : j ≤ s.size) (h6 : j ≤ i + 6) : tag_part.f m s (i : Int) (j : Int) = some ((num (((bytesL s).take j).drop i) : Nat) : Int) := by
  have hl := ex_num s i j h hj h6
  have hz := ex_size s i j (by omega) hj
  unfold tag_part.f
  rw [if_pos (by omega), if_pos (by omega), if_pos (by omega), Int.toNat_natCast, Int.toNat_natCast, bget_ok _ (by omega) (by omega) m hm, obind, bytesL_extract, w64 (by omega) (by omega)]
/-- What bytes are, as a tag. -/
def takeT (l : List Nat) : Int × Int × Int × Int × Int :=
  if l.length = 16 ∧ l.getD 0 0 = 27 ∧ l.getD 14 0 = 0 ∧ l.getD 15 0 = 0 ∧ TagP (num ((l.take 2).drop 1)) (num ((l.take 4).drop 2)) (num ((l.take 10).drop 4)) (num ((l.take 14).drop 10)) then ((num ((l.take 2).drop 1) : Int), (num ((l.take 4).drop 2) : Int), (num ((l.take 10).drop 4) : Int), (num ((l.take 14).drop 10) : Int), 0) else (0, 0, 0, 0, 3)
theorem list16 : ∀ (l : List Nat), l.length = 16 → ∃ a b c d e f g h i j k m n o p q, l = [a, b, c, d, e, f, g, h, i, j, k, m, n, o, p, q]
  | [a, b, c, d, e, f, g, h, i, j, k, m, n, o, p, q], _ => ⟨a, b, c, d, e, f, g, h, i, j, k, m, n, o, p, q, rfl⟩
/-- The bytes of the tag that sixteen bytes tell: these, but for the first and the last two. -/
theorem back_tagB {l : List Nat} (hl : ∀ x ∈ l, x < 256) (h16 : l.length = 16) (h : TagP (num ((l.take 2).drop 1)) (num ((l.take 4).drop 2)) (num ((l.take 10).drop 4)) (num ((l.take 14).drop 10))) :
    bytesL (tagB (num ((l.take 2).drop 1)) (num ((l.take 4).drop 2)) (num ((l.take 10).drop 4)) (num ((l.take 14).drop 10))) = l ↔ (l.getD 0 0 = 27 ∧ l.getD 14 0 = 0 ∧ l.getD 15 0 = 0) := by
  rw [tagB_bytes h]
  clear h
  obtain ⟨a, b, c, d, e, f, g, h, i, j, k, m, n, o, p, q, rfl⟩ := list16 l h16
  have hx : ∀ u v, ∀ x ∈ (([a, b, c, d, e, f, g, h, i, j, k, m, n, o, p, q] : List Nat).take v).drop u, x < 256 := fun u v x hx => hl x (List.mem_of_mem_take (List.mem_of_mem_drop hx))
  have e1 : num (([a, b, c, d, e, f, g, h, i, j, k, m, n, o, p, q].take 2).drop 1) = b := by show b + 256 * 0 = b; omega
  have e2 := digs_num _ (hx 2 4)
  have e3 := digs_num _ (hx 4 10)
  have e4 := digs_num _ (hx 10 14)
  clear hx hl h16
  rw [Int.toNat_natCast, Int.toNat_natCast, Int.toNat_natCast, Int.toNat_natCast, e1]
  replace e2 : digs 2 (num (([a, b, c, d, e, f, g, h, i, j, k, m, n, o, p, q].take 4).drop 2)) = [c, d] := e2
  replace e3 : digs 6 (num (([a, b, c, d, e, f, g, h, i, j, k, m, n, o, p, q].take 10).drop 4)) = [e, f, g, h, i, j] := e3
  replace e4 : digs 4 (num (([a, b, c, d, e, f, g, h, i, j, k, m, n, o, p, q].take 14).drop 10)) = [k, m, n, o] := e4
  rw [e2, e3, e4]
  clear e1 e2 e3 e4
  constructor
  · intro x
    simp only [List.cons_append, List.nil_append, List.cons.injEq, and_true, true_and] at x
    exact ⟨x.1.symm, x.2.1.symm, x.2.2.symm⟩
  · rintro ⟨h1, h2, h3⟩
    replace h1 : a = 27 := h1
    replace h2 : p = 0 := h2
    replace h3 : q = 0 := h3
    subst h1 h2 h3; rfl
theorem dec_ok (m : Nat) (hm : 12 ≤ m) (s : ByteArray) : tag_Decode.f m s = some (takeT (bytesL s)) := by
  unfold tag_Decode.f takeT
  rw [bytesL_length]
  by_cases h : s.size = 16
  · rw [if_pos (by omega)]
    have p1 : tag_part.f m s 1 2 = _ := part_ok m hm s 1 2 (by omega) (by omega) (by omega)
    have p2 : tag_part.f m s 2 4 = _ := part_ok m hm s 2 4 (by omega) (by omega) (by omega)
    have p3 : tag_part.f m s 4 10 = _ := part_ok m hm s 4 10 (by omega) (by omega) (by omega)
    have p4 : tag_part.f m s 10 14 = _ := part_ok m hm s 10 14 (by omega) (by omega) (by omega)
    rw [p1, obind, p2, obind, p3, obind, p4, obind]
    unfold tag_Encode.f
    rw [obind]
    have hb := back_tagB (bytesL_lt s) (by rw [bytesL_length]; exact h)
    by_cases g : TagP (num (((bytesL s).take 2).drop 1)) (num (((bytesL s).take 4).drop 2)) (num (((bytesL s).take 10).drop 4)) (num (((bytesL s).take 14).drop 10))
    · have hb := hb g
      rw [if_pos g, if_pos rfl]
      by_cases z : (bytesL s).getD 0 0 = 27 ∧ (bytesL s).getD 14 0 = 0 ∧ (bytesL s).getD 15 0 = 0
      · rw [if_pos ((toList_eq_iff _ _).2 (hb.2 z)), if_pos ⟨h, z.1, z.2.1, z.2.2, g⟩]
      · rw [if_neg (fun x => z (hb.1 ((toList_eq_iff _ _).1 x))), if_neg (fun x => z ⟨x.2.1, x.2.2.1, x.2.2.2.1⟩)]
    · rw [if_neg g, if_neg (by decide), if_neg (fun x => g x.2.2.2.2)]
  · rw [if_neg (by omega), if_neg (fun x => h x.1)]
theorem takeT_of (l : List Nat) (a b c d : Nat) (h16 : l.length = 16) (h0 : l.getD 0 0 = 27) (h14 : l.getD 14 0 = 0) (h15 : l.getD 15 0 = 0) (e1 : num ((l.take 2).drop 1) = a) (e2 : num ((l.take 4).drop 2) = b) (e3 : num ((l.take 10).drop 4) = c) (e4 : num ((l.take 14).drop 10) = d) (h : TagP a b c d) : takeT l = ((a : Int), (b : Int), (c : Int), (d : Int), 0) := by
  subst e1 e2 e3 e4; unfold takeT; rw [if_pos ⟨h16, h0, h14, h15, h⟩]
/-- What a tag's bytes are. -/
theorem take_tagB {k l s e : Int} (h : TagP k l s e) : takeT (bytesL (tagB k l s e)) = (k, l, s, e, 0) := by
  rw [tagB_bytes h]
  have hh := h
  unfold TagP at hh
  obtain ⟨c0, c1, hc⟩ : ∃ a b, digs 2 l.toNat = [a, b] := ⟨_, _, rfl⟩
  obtain ⟨d0, d1, d2, d3, d4, d5, hd⟩ : ∃ a b c d e f, digs 6 s.toNat = [a, b, c, d, e, f] := ⟨_, _, _, _, _, _, rfl⟩
  obtain ⟨e0, e1, e2, e3, he⟩ : ∃ a b c d, digs 4 e.toNat = [a, b, c, d] := ⟨_, _, _, _, rfl⟩
  have n1 : num [k.toNat] = k.toNat := by show k.toNat + 256 * 0 = k.toNat; omega
  have n2 : num [c0, c1] = l.toNat := by rw [← hc, num_digs]; omega
  have n3 : num [d0, d1, d2, d3, d4, d5] = s.toNat := by rw [← hd, num_digs]; omega
  have n4 : num [e0, e1, e2, e3] = e.toNat := by rw [← he, num_digs]; omega
  rw [hc, hd, he]
  simp only [List.cons_append, List.nil_append]
  have g := takeT_of [27, k.toNat, c0, c1, d0, d1, d2, d3, d4, d5, e0, e1, e2, e3, 0, 0] k.toNat l.toNat s.toNat e.toNat rfl rfl rfl rfl n1 n2 n3 n4 (by rwa [Int.toNat_of_nonneg (by omega), Int.toNat_of_nonneg (by omega), Int.toNat_of_nonneg (by omega), Int.toNat_of_nonneg (by omega)])
  rwa [Int.toNat_of_nonneg (by omega), Int.toNat_of_nonneg (by omega), Int.toNat_of_nonneg (by omega), Int.toNat_of_nonneg (by omega)] at g
end Go.Proofs.Ytpghddanjlbcaaa.Pure
