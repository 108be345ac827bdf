/- What the document's functions answer, by the code; plain. -/
import Derived.Test.YtalnbmpfgmpkbaaDoorFlip
import Derived.Test.YtalnbmpfgmpkbaaDoorPQx5
import Derived.Test.YtalnbmpfgmpkbaaDoorPureHam
namespace Go.Proofs.YtalnbmpfgmpkbaaDoor.Pure
open Go.RowKit Go.Proofs.YtalnbmpfgmpkbaaDoorW.PrintWords PQ
set_option linter.unusedVariables false
set_option linter.unusedSimpArgs false
theorem lift {α : Type} (F : Nat → Option α) (hm : ∀ k, LeO (F k) (F (k + 1))) {a : Nat} {r : α} (h : F a = some r) : ∀ d, F (a + d) = some r
  | 0 => h
  | d + 1 => hm _ _ (lift F hm h d)
theorem lift' {α : Type} (F : Nat → Option α) (hm : ∀ k, LeO (F k) (F (k + 1))) {a m : Nat} {r : α} (h : F a = some r) (hle : a ≤ m) : F m = some r := by
  obtain ⟨d, rfl⟩ : ∃ d, m = a + d := ⟨m - a, by omega⟩
  exact lift F hm h d
theorem bit_ok (m : Nat) (hm : 70 ≤ m) (x p : Nat) (hx : x < 256) (hp : p < 8) : deckleref01_Bit.f m (x : Int) (p : Int) = some (if x.testBit p then 1 else 0) := by
  have h := lift' (fun k => deckleref01_Bit.f k (x : Int) (p : Int)) (fun k => deckleref01_Bit.mono _ _ k) (bits_ x hx p hp) hm
  rw [h]
  have e : x.testBit p = decide (x / 2 ^ p % 2 = 1) := Nat.testBit_eq_decide_div_mod_eq
  rw [e]
  by_cases c : x / 2 ^ p % 2 = 1
  · rw [decide_eq_true c, if_pos rfl, c]; rfl
  · rw [decide_eq_false c, if_neg (by decide), show x / 2 ^ p % 2 = 0 from by omega]; rfl
/-- The bits that are 1, one by one. -/
def blI (l : List Nat) : Nat → List Int
  | 0 => []
  | n + 1 => blI l n ++ (if bit l n then [(n : Int)] else [])
theorem blI_length (l : List Nat) : ∀ n, (blI l n).length = C l n
  | 0 => rfl
  | n + 1 => by
    show (blI l n ++ (if bit l n then [(n : Int)] else [])).length = C l n + (if bit l n then 1 else 0)
    rw [List.length_append, blI_length l n]
    cases bit l n <;> rfl
theorem C_le (l : List Nat) : ∀ n, C l n ≤ n
  | 0 => Nat.le_refl _
  | n + 1 => by
    have := C_le l n
    show C l n + (if bit l n then 1 else 0) ≤ n + 1
    cases bit l n <;> simp <;> omega
theorem bits_l0 (s : ByteArray) (hs : s.size ≤ 100) (d : Nat) : ∀ (i m : Nat), 8 * s.size - i = d → i ≤ 8 * s.size → 70 + d < m → deckleref03_Bits.l0 m s (blI (bytesL s) i) (i : Int) = some (blI (bytesL s) (8 * s.size)) := by
  induction d with
  | zero =>
    intro i m h1 h2 hm
    obtain ⟨m, rfl⟩ : ∃ j, m = j + 1 := ⟨m - 1, by omega⟩
    obtain rfl : i = 8 * s.size := by omega
    simp only [deckleref03_Bits.l0]
    rw [w64 (by omega) (by omega), if_neg (by omega)]
  | succ d ih =>
    intro i m h1 h2 hm
    obtain ⟨m, rfl⟩ : ∃ j, m = j + 1 := ⟨m - 1, by omega⟩
    simp only [deckleref03_Bits.l0]
    have c1 : (i : Int) < 8 * (s.size : Int) := by omega
    have c2 : (0 : Int) ≤ ((i / 8 : Nat) : Int) := by omega
    have c3 : ((i / 8 : Nat) : Int) < (s.size : Int) := by omega
    have u1 : wrap64 (8 * (s.size : Int)) = 8 * (s.size : Int) := w64 (by omega) (by omega)
    have u2 : wrap64 ((i / 8 : Nat) : Int) = ((i / 8 : Nat) : Int) := w64 (by omega) (by omega)
    have c5 : i / 8 < s.size := by omega
    have c6 : i % 8 < 8 := by omega
    have c7 : 70 ≤ m := by omega
    have eI : wrap64 ((i : Int) + 1) = ((i + 1 : Nat) : Int) := by rw [w64 (by omega) (by omega)]; rfl
    have nxt := ih (i + 1) m (by omega) (by omega) (by omega)
    have hlen : (blI (bytesL s) i).length < 17592186044416 := by rw [blI_length]; have := C_le (bytesL s) i; omega
    have q1 : Int.tdiv (i : Int) 8 = ((i / 8 : Nat) : Int) := by rw [Int.tdiv_eq_ediv_of_nonneg (by omega)]; omega
    have q2 : Int.tmod (i : Int) 8 = ((i % 8 : Nat) : Int) := by rw [Int.tmod_eq_emod_of_nonneg (by omega)]; omega
    have hb := getD_lt0 _ (bytesL_lt0 s) (i / 8)
    have hu : IntKind.u64.wrap (((bytesL s).getD (i / 8) 0 : Nat) : Int) = (((bytesL s).getD (i / 8) 0 : Nat) : Int) := IntWalk.u64_in _ ⟨by omega, by omega⟩
    have hbt : bt s ((i / 8 : Nat) : Int) = (((bytesL s).getD (i / 8) 0 : Nat) : Int) := bt_nat s (i / 8) c5
    rw [u1, if_pos c1, q1, q2, u2, if_pos c2, if_pos c3, hbt, hu, bit_ok m c7 _ _ hb c6, obind, eI]
    have hst : blI (bytesL s) (i + 1) = blI (bytesL s) i ++ (if bit (bytesL s) i then [(i : Int)] else []) := rfl
    rw [hst] at nxt
    unfold bit at nxt
    cases e : ((bytesL s).getD (i / 8) 0).testBit (i % 8) with
    | true =>
      rw [e, if_pos rfl] at nxt
      rw [if_pos rfl, if_pos rfl, if_pos hlen]
      exact nxt
    | false =>
      rw [e, if_neg (by decide), List.append_nil] at nxt
      rw [if_neg (by decide)]
      exact nxt
theorem rbits_ok (s : ByteArray) (hs : s.size ≤ 9) (m : Nat) (hm : 200 ≤ m) : deckleref03_Bits.f m s = some (blI (bytesL s) (8 * s.size)) :=
  bits_l0 s (by omega) (8 * s.size) 0 m (by omega) (by omega) (by omega)
theorem xor_low : ∀ a < 128, ∀ b < 128, (a ^^^ b) % 2 = (a + b) % 2 := by decide +kernel
theorem xor_half : ∀ a < 128, ∀ b < 128, a ^^^ b = 2 * ((a / 2) ^^^ (b / 2)) + (if a % 2 = b % 2 then 0 else 1) := by
  intro a ha b hb
  have h1 := Nat.div_add_mod (a ^^^ b) 2
  have h2 : (a ^^^ b) / 2 = (a / 2) ^^^ (b / 2) := Nat.xor_div_two
  have h3 : (a ^^^ b) % 2 = (a + b) % 2 := xor_low a ha b hb
  by_cases e : a % 2 = b % 2
  · rw [if_pos e]; omega
  · rw [if_neg e]; omega
theorem xor_l0 : ∀ d, d ≤ 7 → ∀ (a b out p m : Nat), a < 2 ^ d → b < 2 ^ d → p * 2 ^ d ≤ 128 → out + 200 * d ≤ 2000 → 2 * d + 2 ≤ m → deckleref03_Xor.l0 m (a : Int) (b : Int) (out : Int) (p : Int) = some ((out + p * (a ^^^ b) : Nat) : Int)
  | 0, _, a, b, out, p, m, ha, hb, hp, ho, hm => by
    obtain ⟨m, rfl⟩ : ∃ j, m = j + 2 := ⟨m - 2, by omega⟩
    obtain rfl : a = 0 := by omega
    obtain rfl : b = 0 := by omega
    simp only [deckleref03_Xor.l0, deckleref03_Xor.j1]
    rw [if_neg (by omega), if_neg (by simp), Nat.xor_self, Nat.mul_zero, Nat.add_zero]
  | d + 1, hd, a, b, out, p, m, ha, hb, hp, ho, hm => by
    obtain ⟨m, rfl⟩ : ∃ j, m = j + 2 := ⟨m - 2, by omega⟩
    have h2 : 2 ^ (d + 1) ≤ 2 ^ 7 := Nat.pow_le_pow_right (by decide) hd
    have hxh := xor_half a (by omega) b (by omega)
    have hpp : p * 2 ^ (d + 1) = p * 2 * 2 ^ d := by rw [Nat.pow_succ, Nat.mul_comm (2 ^ d) 2, Nat.mul_assoc]
    have hp1 : p ≤ p * 2 ^ (d + 1) := Nat.le_mul_of_pos_right _ (Nat.pow_pos (by decide))
    rw [Nat.pow_succ] at ha hb
    by_cases z : a = 0 ∧ b = 0
    · obtain ⟨rfl, rfl⟩ := z
      simp only [deckleref03_Xor.l0, deckleref03_Xor.j1]
      rw [if_neg (by omega), if_neg (by simp), Nat.xor_self, Nat.mul_zero, Nat.add_zero]
    · have ih0 := xor_l0 d (by omega) (a / 2) (b / 2) out (p * 2) m (by omega) (by omega) (by omega) (by omega) (by omega)
      have ih1 := xor_l0 d (by omega) (a / 2) (b / 2) (out + p) (p * 2) m (by omega) (by omega) (by omega) (by omega) (by omega)
      have j1 : deckleref03_Xor.j1 (m + 1) (a : Int) (b : Int) (out : Int) (p : Int) true = some ((out + p * (a ^^^ b) : Nat) : Int) := by
        simp only [deckleref03_Xor.j1]
        have qa : wrap64 (Int.tdiv (a : Int) 2) = ((a / 2 : Nat) : Int) := by rw [Int.tdiv_eq_ediv_of_nonneg (by omega), w64 (by omega) (by omega)]; omega
        have qb : wrap64 (Int.tdiv (b : Int) 2) = ((b / 2 : Nat) : Int) := by rw [Int.tdiv_eq_ediv_of_nonneg (by omega), w64 (by omega) (by omega)]; omega
        have qp : wrap64 ((p : Int) * 2) = ((p * 2 : Nat) : Int) := by rw [w64 (by omega) (by omega)]; omega
        have qo : wrap64 ((out : Int) + (p : Int)) = ((out + p : Nat) : Int) := by rw [w64 (by omega) (by omega)]; omega
        have ta : Int.tmod (a : Int) 2 = ((a % 2 : Nat) : Int) := by rw [Int.tmod_eq_emod_of_nonneg (by omega)]; omega
        have tb : Int.tmod (b : Int) 2 = ((b % 2 : Nat) : Int) := by rw [Int.tmod_eq_emod_of_nonneg (by omega)]; omega
        rw [if_pos trivial, qa, qb, qp, qo, ta, tb]
        by_cases e : a % 2 = b % 2
        · rw [if_pos e, Nat.add_zero] at hxh
          rw [if_pos (by omega), ih0, hxh, ← Nat.mul_assoc]
        · rw [if_neg e] at hxh
          rw [if_neg (by omega), ih1, hxh, Nat.mul_add, ← Nat.mul_assoc, Nat.mul_one]
          congr 2; omega
      simp only [deckleref03_Xor.l0]
      by_cases za : a = 0
      · rw [if_neg (by omega), decide_eq_true (by omega)]; exact j1
      · rw [if_pos (by omega)]; exact j1
theorem xor_ok (m : Nat) (hm : 20 ≤ m) (a b : Nat) (ha : a < 128) (hb : b < 128) : deckleref03_Xor.f m (a : Int) (b : Int) = some ((a ^^^ b : Nat) : Int) := by
  have h := xor_l0 7 (by omega) a b 0 1 m (by omega) (by omega) (by omega) (by omega) (by omega)
  rw [Nat.zero_add, Nat.one_mul] at h
  exact h
theorem places100 : deckleref03_Places.f 100 = some (plR.map fun x => ((x : Nat) : Int)) := by decide +kernel
theorem places_ok (m : Nat) (hm : 100 ≤ m) : deckleref03_Places.f m = some (plR.map fun x => ((x : Nat) : Int)) :=
  lift' (fun k => deckleref03_Places.f k) (fun k => deckleref03_Places.mono k) places100 hm
theorem plR_length : plR.length = 72 := by decide
def plI : List Int := plR.map fun x => ((x : Nat) : Int)
theorem plI_length : plI.length = 72 := by unfold plI; rw [List.length_map, plR_length]
theorem rd_pl (n : Nat) : rd plI (n : Int) = ((pl n : Nat) : Int) := by
  unfold rd plI pl
  rw [Int.toNat_natCast, List.getD_eq_getElem?_getD, List.getD_eq_getElem?_getD, List.getElem?_map]
  cases plR[n]? <;> rfl
def S (L : List Int) : Nat := L.foldl (fun a j => a ^^^ pl j.toNat) 0
theorem S_snoc (L : List Int) (e : Int) : S (L ++ [e]) = S L ^^^ pl e.toNat := by unfold S; rw [List.foldl_append]; rfl
theorem pl_lt (n : Nat) : pl n < 128 := by
  by_cases h : n < 72
  · have := pl_le n h; omega
  · unfold pl
    rw [List.getD_eq_getElem?_getD, List.getElem?_eq_none (by rw [plR_length]; omega)]; decide
theorem foldl_lt (L : List Int) : ∀ a, a < 128 → L.foldl (fun a j => a ^^^ pl j.toNat) a < 128 := by
  induction L with
  | nil => exact fun a h => h
  | cons e L ih => exact fun a h => ih _ (Nat.xor_lt_two_pow (n := 7) h (pl_lt _))
theorem S_lt (L : List Int) : S L < 128 := foldl_lt L 0 (by omega)
theorem left_step (m : Nat) (L : List Int) (x t : Nat) (r : Option Int) (c1 : ((t : Nat) : Int) < (L.length : Int)) (c2 : 0 ≤ rd L t) (c3 : rd L t < (plI.length : Int)) (y : Nat) (hx : deckleref03_Xor.f m (x : Int) (rd plI (rd L t)) = some (y : Int)) (h : deckleref03_Left.l0 m L plI (y : Int) (wrap64 ((t : Int) + 1)) = r) :
    deckleref03_Left.l0 (m + 1) L plI (x : Int) (t : Int) = r := by
  simp only [deckleref03_Left.l0]
  rw [if_pos c1, if_pos (Int.natCast_nonneg t), if_pos c2, if_pos c3, hx, obind, h]
theorem left_l0 (L : List Int) (hL : ∀ e ∈ L, 0 ≤ e ∧ e < 72) (hlen : L.length ≤ 72) (d : Nat) : ∀ (t m : Nat), L.length - t = d → t ≤ L.length → 20 + d < m → deckleref03_Left.l0 m L plI ((S (L.take t) : Nat) : Int) (t : Int) = some ((S L : Nat) : Int) := by
  induction d with
  | zero =>
    intro t m h1 h2 hm
    obtain ⟨m, rfl⟩ : ∃ j, m = j + 1 := ⟨m - 1, by omega⟩
    simp only [deckleref03_Left.l0]
    rw [if_neg (by omega), List.take_of_length_le (by omega)]
  | succ d ih =>
    intro t m h1 h2 hm
    obtain ⟨m, rfl⟩ : ∃ j, m = j + 1 := ⟨m - 1, by omega⟩
    have ht : t < L.length := by omega
    have hr : rd L ((t : Nat) : Int) = L[t] := by
      unfold rd; rw [Int.toNat_natCast, List.getD_eq_getElem?_getD, List.getElem?_eq_getElem ht]; rfl
    obtain ⟨e0, e1⟩ := hL L[t] (List.getElem_mem ht)
    have hs : S (L.take (t + 1)) = S (L.take t) ^^^ pl (L[t]).toNat := by rw [List.take_succ_eq_append_getElem ht, S_snoc]
    have nxt := ih (t + 1) m (by omega) (by omega) (by omega)
    have eI : wrap64 ((t : Int) + 1) = ((t + 1 : Nat) : Int) := by rw [w64 (by omega) (by omega)]; rfl
    have hp : rd plI (rd L ((t : Nat) : Int)) = ((pl (L[t]).toNat : Nat) : Int) := by
      rw [hr, show L[t] = ((L[t].toNat : Nat) : Int) from (Int.toNat_of_nonneg e0).symm, rd_pl, Int.toNat_natCast]
    refine left_step m L _ t _ (by omega) (by rw [hr]; exact e0) (by rw [hr, plI_length]; exact e1) (S (L.take (t + 1))) ?_ ?_
    · rw [hp, hs]
      exact xor_ok m (by omega) _ _ (S_lt _) (pl_lt _)
    · rw [eI]; exact nxt
theorem rleft_ok (L : List Int) (hL : ∀ e ∈ L, 0 ≤ e ∧ e < 72) (hlen : L.length ≤ 72) (m : Nat) (hm : 200 ≤ m) : deckleref03_Left.f m L = some ((S L : Nat) : Int) := by
  unfold deckleref03_Left.f
  rw [places_ok m (by omega), obind]
  exact left_l0 L hL hlen L.length 0 m (by omega) (by omega) (by omega)
theorem blI_mem (l : List Nat) : ∀ n, ∀ e ∈ blI l n, 0 ≤ e ∧ e < n
  | 0, e, h => by cases h
  | n + 1, e, h => by
    have h' : e ∈ blI l n ++ (if bit l n then [(n : Int)] else []) := h
    rcases List.mem_append.1 h' with g | g
    · have := blI_mem l n e g; omega
    · cases b : bit l n with
      | true => rw [b, if_pos rfl] at g; have := List.mem_singleton.1 g; omega
      | false => rw [b, if_neg (by decide)] at g; cases g
theorem S_bl (l : List Nat) : ∀ n, S (blI l n) = X l n
  | 0 => rfl
  | n + 1 => by
    show S (blI l n ++ (if bit l n then [(n : Int)] else [])) = X l n ^^^ (if bit l n then pl n else 0)
    cases bit l n with
    | true => rw [if_pos rfl, if_pos rfl, S_snoc, S_bl l n, Int.toNat_natCast]
    | false => rw [if_neg (by decide), if_neg (by decide), List.append_nil, Nat.xor_zero, S_bl l n]
theorem rleft_bl (l : List Nat) (m : Nat) (hm : 200 ≤ m) : deckleref03_Left.f m (blI l 72) = some ((X l 72 : Nat) : Int) := by
  rw [rleft_ok _ (fun e h => blI_mem l 72 e h) (by rw [blI_length]; exact C_le l 72) m hm, S_bl]
end Go.Proofs.YtalnbmpfgmpkbaaDoor.Pure
