/- The code of the chapter: places of all bits, what the bits of a word that are 1 come to and how many they are, and one bit turned; plain. -/
import Derived.IntWalk
import Derived.Laws.BitsAllLaws
import Derived.Laws.BytesArg
import Derived.Lib.ConvBytes
import Derived.Lib.Strings
import Derived.Test.YtalnbmpfgmpkbaaDoorLeft
import Derived.WalkSpells
namespace Go.Proofs.YtalnbmpfgmpkbaaDoor.Pure
open Go.RowKit Go.Proofs.YtalnbmpfgmpkbaaDoorW.PrintWords PQ
set_option linter.unusedVariables false
set_option linter.unusedSimpArgs false
/-- Not by 'rfl': so the kernel never compares two binds part by part. -/
theorem obind {α β : Type} (a : α) (f : α → Option β) : (some a).bind f = f a := by
  cases h : f a <;> simp [h]
theorem w64 {x : Int} (h0 : -9223372036854775808 ≤ x) (h1 : x ≤ 9223372036854775807) : wrap64 x = x := by
  unfold wrap64; omega
theorem bytesL_length (s : ByteArray) : (bytesL s).length = s.size := by unfold bytesL; simp
theorem bytesL_append (a b : ByteArray) : bytesL (a ++ b) = bytesL a ++ bytesL b := by
  unfold bytesL; rw [ByteArray.data_append]; simp
theorem bytesL_extract (s : ByteArray) (i j : Nat) : bytesL (s.extract i j) = ((bytesL s).take j).drop i := by
  unfold bytesL; rw [ByteArray.data_extract]
  simp only [Array.toList_extract, List.extract_eq_take_drop, List.map_drop, List.map_take]
  rw [List.drop_take]
theorem bytesL_inj {a b : ByteArray} (h : bytesL a = bytesL b) : a = b := by
  unfold bytesL at h
  apply ByteArray.ext
  apply Array.toList_inj.1
  exact List.map_inj_right (fun x y e => UInt8.toNat_inj.1 e) |>.1 h
theorem toList_bytes (s : ByteArray) : s.toList.map (·.toNat) = bytesL s := by
  rw [Lib.toList_data]; rfl
theorem toList_eq_iff (a b : ByteArray) : a.toList = b.toList ↔ bytesL a = bytesL b := by
  constructor
  · intro h; rw [← toList_bytes, ← toList_bytes, h]
  · intro h; rw [bytesL_inj h]
theorem toList_beq (a b : ByteArray) : (a.toList == b.toList) = (bytesL a == bytesL b) := by
  rw [Bool.eq_iff_iff, beq_iff_eq, beq_iff_eq]; exact toList_eq_iff a b
theorem bytesL_strOf (xs : List Int) (h : ∀ x ∈ xs, 0 ≤ x ∧ x < 256) : bytesL (strOfNums xs) = xs.map Int.toNat := by
  unfold bytesL
  rw [strOfNums_data, List.map_map]
  apply List.map_congr_left
  intro x hx
  have := h x hx
  show (UInt8.ofNat x.toNat).toNat = x.toNat
  rw [UInt8.toNat_ofNat']; omega
theorem bt_nat (s : ByteArray) (i : Nat) (h : i < s.size) : bt s (i : Int) = (((bytesL s).getD i 0 : Nat) : Int) := by
  unfold bt bytesL
  rw [dif_pos (by simpa using h)]
  simp only [Int.toNat_natCast]
  rw [List.getD_eq_getElem?_getD, List.getElem?_map, List.getElem?_eq_getElem (by simpa using h)]
  rfl
theorem take_snoc {α : Type} (l : List α) (i : Nat) (d : α) (h : i < l.length) : l.take (i + 1) = l.take i ++ [l.getD i d] := by
  rw [List.take_succ_eq_append_getElem h, List.getD_eq_getElem?_getD, List.getElem?_eq_getElem h]; rfl

/-! The code: places of all 72 bits, what a word's bits that are 1 come to, how many they are -/
/-- The places of all bits: the data's, the check's, and 0 for the last one. -/
def plR : List Nat := tabP.map Int.toNat ++ [1, 2, 4, 8, 16, 32, 64, 0]
def pl (j : Nat) : Nat := plR.getD j 0
def bit (l : List Nat) (j : Nat) : Bool := (l.getD (j / 8) 0).testBit (j % 8)
def X (l : List Nat) : Nat → Nat
  | 0 => 0
  | n + 1 => X l n ^^^ (if bit l n then pl n else 0)
def C (l : List Nat) : Nat → Nat
  | 0 => 0
  | n + 1 => C l n + (if bit l n then 1 else 0)
def synR (i b : Nat) : Nat := (if b.testBit 0 then pl (8 * i) else 0) ^^^ (if b.testBit 1 then pl (8 * i + 1) else 0) ^^^ (if b.testBit 2 then pl (8 * i + 2) else 0) ^^^ (if b.testBit 3 then pl (8 * i + 3) else 0) ^^^ (if b.testBit 4 then pl (8 * i + 4) else 0) ^^^ (if b.testBit 5 then pl (8 * i + 5) else 0) ^^^ (if b.testBit 6 then pl (8 * i + 6) else 0) ^^^ (if b.testBit 7 then pl (8 * i + 7) else 0)
theorem bit_at (l : List Nat) (i k : Nat) (h : k < 8) : bit l (8 * i + k) = (l.getD i 0).testBit k := by
  unfold bit; rw [show (8 * i + k) / 8 = i from by omega, show (8 * i + k) % 8 = k from by omega]
theorem X_byte (l : List Nat) (i : Nat) : X l (8 * (i + 1)) = X l (8 * i) ^^^ synR i (l.getD i 0) := by
  rw [show 8 * (i + 1) = 8 * i + 0 + 1 + 1 + 1 + 1 + 1 + 1 + 1 + 1 from by omega]
  simp only [X]
  have b0 := bit_at l i 0 (by omega)
  rw [Nat.add_zero] at b0
  rw [b0, bit_at l i 1 (by omega), show 8 * i + 1 + 1 = 8 * i + 2 from rfl, bit_at l i 2 (by omega), show 8 * i + 2 + 1 = 8 * i + 3 from rfl, bit_at l i 3 (by omega), show 8 * i + 3 + 1 = 8 * i + 4 from rfl, bit_at l i 4 (by omega), show 8 * i + 4 + 1 = 8 * i + 5 from rfl, bit_at l i 5 (by omega), show 8 * i + 5 + 1 = 8 * i + 6 from rfl, bit_at l i 6 (by omega), show 8 * i + 6 + 1 = 8 * i + 7 from rfl, bit_at l i 7 (by omega)]
  unfold synR
  simp only [Nat.xor_assoc, Nat.add_zero]
theorem ones_bits : ∀ b < 256, onesN b = (if b.testBit 0 then 1 else 0) + (if b.testBit 1 then 1 else 0) + (if b.testBit 2 then 1 else 0) + (if b.testBit 3 then 1 else 0) + (if b.testBit 4 then 1 else 0) + (if b.testBit 5 then 1 else 0) + (if b.testBit 6 then 1 else 0) + (if b.testBit 7 then 1 else 0) := by decide +kernel
theorem C_byte (l : List Nat) (hl : ∀ x ∈ l, x < 256) (i : Nat) : C l (8 * (i + 1)) = C l (8 * i) + onesN (l.getD i 0) := by
  rw [show 8 * (i + 1) = 8 * i + 0 + 1 + 1 + 1 + 1 + 1 + 1 + 1 + 1 from by omega]
  simp only [C]
  have b0 := bit_at l i 0 (by omega)
  rw [Nat.add_zero] at b0
  rw [b0, bit_at l i 1 (by omega), show 8 * i + 1 + 1 = 8 * i + 2 from rfl, bit_at l i 2 (by omega), show 8 * i + 2 + 1 = 8 * i + 3 from rfl, bit_at l i 3 (by omega), show 8 * i + 3 + 1 = 8 * i + 4 from rfl, bit_at l i 4 (by omega), show 8 * i + 4 + 1 = 8 * i + 5 from rfl, bit_at l i 5 (by omega), show 8 * i + 5 + 1 = 8 * i + 6 from rfl, bit_at l i 6 (by omega), show 8 * i + 6 + 1 = 8 * i + 7 from rfl, bit_at l i 7 (by omega)]
  rw [ones_bits _ (getD_lt0 l hl i)]
  simp only [Nat.add_assoc, Nat.add_zero]
theorem synR_data : ∀ i < 8, ∀ b < 256, synR i b = synB i b := by decide +kernel
theorem synR_check : ∀ b < 256, synR 8 b = b &&& 127 := by decide +kernel
theorem X_left (l : List Nat) (hl : ∀ x ∈ l, x < 256) : ∀ k, k ≤ 8 → X l (8 * k) = leftP l k
  | 0, _ => rfl
  | k + 1, h => by
    rw [X_byte, X_left l hl k (by omega), synR_data k (by omega) _ (getD_lt0 l hl k)]; rfl
theorem C_left (l : List Nat) (hl : ∀ x ∈ l, x < 256) : ∀ k, C l (8 * k) = leftN l k
  | 0 => rfl
  | k + 1 => by
    rw [C_byte l hl, C_left l hl k]; rfl
/-- What the bits of nine bytes come to. -/
theorem X_72 (l : List Nat) (hl : ∀ x ∈ l, x < 256) : X l 72 = leftP l 8 ^^^ (l.getD 8 0 &&& 127) := by
  rw [show 72 = 8 * (8 + 1) from rfl, X_byte, X_left l hl 8 (by omega), synR_check _ (getD_lt0 l hl 8)]
theorem C_72 (l : List Nat) (hl : ∀ x ∈ l, x < 256) : C l 72 = leftN l 8 + onesN (l.getD 8 0) := by
  rw [show 72 = 8 * (8 + 1) from rfl, C_byte l hl, C_left l hl 8]
theorem leftP_congr (l m : List Nat) : ∀ k, (∀ i, i < k → l.getD i 0 = m.getD i 0) → leftP l k = leftP m k
  | 0, _ => rfl
  | k + 1, h => by
    show leftP l k ^^^ synB k (l.getD k 0) = leftP m k ^^^ synB k (m.getD k 0)
    rw [leftP_congr l m k (fun i hi => h i (by omega)), h k (by omega)]
theorem leftN_congr (l m : List Nat) : ∀ k, (∀ i, i < k → l.getD i 0 = m.getD i 0) → leftN l k = leftN m k
  | 0, _ => rfl
  | k + 1, h => by
    show leftN l k + onesN (l.getD k 0) = leftN m k + onesN (m.getD k 0)
    rw [leftN_congr l m k (fun i hi => h i (by omega)), h k (by omega)]
theorem X_congr (l m : List Nat) : ∀ n, (∀ j, j < n → bit l j = bit m j) → X l n = X m n
  | 0, _ => rfl
  | n + 1, h => by
    show X l n ^^^ _ = X m n ^^^ _
    rw [X_congr l m n (fun j hj => h j (by omega)), h n (by omega)]
/-- One bit turned. -/
def flipL (l : List Nat) (c : Nat) : List Nat := l.set (c / 8) (l.getD (c / 8) 0 ^^^ 2 ^ (c % 8))
theorem flipL_length (l : List Nat) (c : Nat) : (flipL l c).length = l.length := by unfold flipL; simp
theorem flipL_getD (l : List Nat) (c i : Nat) (h : c / 8 < l.length) : (flipL l c).getD i 0 = if c / 8 = i then l.getD i 0 ^^^ 2 ^ (c % 8) else l.getD i 0 := by
  unfold flipL
  rw [List.getD_eq_getElem?_getD, List.getElem?_set]
  by_cases e : c / 8 = i
  · subst e
    rw [if_pos rfl, if_pos h, if_pos rfl]; rfl
  · rw [if_neg e, if_neg e, List.getD_eq_getElem?_getD]
theorem flipL_bit (l : List Nat) (c j : Nat) (h : c / 8 < l.length) : bit (flipL l c) j = (bit l j ^^ decide (j = c)) := by
  unfold bit
  rw [flipL_getD l c _ h]
  by_cases e : c / 8 = j / 8
  · rw [if_pos e, Nat.testBit_xor, Nat.testBit_two_pow]
    congr 1
    exact decide_eq_decide.2 (by omega)
  · rw [if_neg e, decide_eq_false (by intro x; exact e (by rw [x])), Bool.xor_false]
theorem X_flip (l : List Nat) (c : Nat) (h : c / 8 < l.length) : ∀ n, X (flipL l c) n = X l n ^^^ (if c < n then pl c else 0)
  | 0 => by simp [X]
  | n + 1 => by
    have ih := X_flip l c h n
    have hb := flipL_bit l c n h
    show X (flipL l c) n ^^^ (if bit (flipL l c) n then pl n else 0) = (X l n ^^^ (if bit l n then pl n else 0)) ^^^ _
    by_cases e : n = c
    · subst e
      rw [if_neg (Nat.lt_irrefl n), Nat.xor_zero] at ih
      rw [decide_eq_true rfl] at hb
      rw [ih, hb, if_pos (Nat.lt_succ_self n), Nat.xor_assoc]
      congr 1
      cases bit l n <;> simp
    · rw [decide_eq_false e, Bool.xor_false] at hb
      rw [ih, hb, Nat.xor_assoc, Nat.xor_assoc, Nat.xor_comm (if c < n then _ else _)]
      congr 2
      by_cases e' : c < n
      · rw [if_pos e', if_pos (by omega)]
      · rw [if_neg e', if_neg (by omega)]
theorem C_flip (l : List Nat) (c : Nat) (h : c / 8 < l.length) : ∀ n, (C (flipL l c) n + C l n + (if c < n then 1 else 0)) % 2 = 0
  | 0 => by simp [C]
  | n + 1 => by
    have ih := C_flip l c h n
    have hb := flipL_bit l c n h
    show (C (flipL l c) n + (if bit (flipL l c) n then 1 else 0) + (C l n + (if bit l n then 1 else 0)) + _) % 2 = 0
    by_cases e : n = c
    · subst e
      rw [if_neg (Nat.lt_irrefl n)] at ih
      rw [decide_eq_true rfl] at hb
      rw [hb, if_pos (Nat.lt_succ_self n)]
      generalize C (flipL l n) n = u at ih ⊢
      generalize C l n = v at ih ⊢
      cases bit l n <;> simp <;> omega
    · rw [decide_eq_false e, Bool.xor_false] at hb
      rw [hb]
      generalize C (flipL l c) n = u at ih ⊢
      generalize C l n = v at ih ⊢
      by_cases e' : c < n
      · rw [if_pos e'] at ih
        rw [if_pos (show c < n + 1 by omega)]
        cases bit l n <;> simp <;> omega
      · rw [if_neg e'] at ih
        rw [if_neg (show ¬ c < n + 1 by omega)]
        cases bit l n <;> simp <;> omega
theorem flipL_twice (l : List Nat) (c : Nat) (h : c / 8 < l.length) : flipL (flipL l c) c = l := by
  unfold flipL
  rw [List.set_set, show (l.set (c / 8) (l.getD (c / 8) 0 ^^^ 2 ^ (c % 8))).getD (c / 8) 0 = l.getD (c / 8) 0 ^^^ 2 ^ (c % 8) from by
    rw [List.getD_eq_getElem?_getD, List.getElem?_set_self h]; rfl, Nat.xor_assoc, Nat.xor_self, Nat.xor_zero, List.getD_eq_getElem?_getD, List.getElem?_eq_getElem h]
  show l.set (c / 8) l[c / 8] = l
  exact List.set_getElem_self h
theorem flipL_lt (l : List Nat) (c : Nat) (hl : ∀ x ∈ l, x < 256) : ∀ x ∈ flipL l c, x < 256 := by
  intro x hx
  unfold flipL at hx
  rcases List.mem_or_eq_of_mem_set hx with h | h
  · exact hl x h
  · rw [h]
    have h2 : 2 ^ (c % 8) ≤ 2 ^ 7 := Nat.pow_le_pow_right (by decide) (by omega)
    exact Nat.xor_lt_two_pow (n := 8) (getD_lt0 l hl _) (by omega)
/-- The places of the bits are all different. -/
theorem pl_inj : ∀ c < 72, ∀ d < 72, pl c = pl d → c = d := by decide +kernel
theorem pl_data : ∀ c < 64, pl c = placeN c ∧ 1 ≤ pl c ∧ pl c ≤ 71 := by decide +kernel
theorem pl_le : ∀ c < 72, pl c ≤ 71 := by decide +kernel
theorem xor_eq_zero {a b : Nat} (h : a ^^^ b = 0) : a = b := by
  have := congrArg (· ^^^ b) h
  simpa [Nat.xor_assoc] using this
end Go.Proofs.YtalnbmpfgmpkbaaDoor.Pure
