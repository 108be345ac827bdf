/- The bits law Turns, the pure statement: turned by two numbers, bits are as turned by their sum; no condition beyond 64 bits. -/
import Derived.Test.YtfddegniphmhiaaDoorPQx8
import Derived.Test.YtfddegniphmhiaaDoorPuts
namespace Go.Proofs.YtfddegniphmhiaaDoor.Pure
open Go.RowKit Go.Proofs.YtfddegniphmhiaaDoorW.PrintWords PQ
set_option linter.unusedVariables false
set_option linter.unusedSimpArgs false
/-- Turned left within 64 bits. -/
def rot (v n : Nat) : Nat := (v <<< n % 2 ^ 64) ||| (v >>> (64 - n))
theorem big_bit {v i : Nat} (hv : v < 2 ^ 64) (h : 64 ≤ i) : v.testBit i = false := Nat.testBit_lt_two_pow (Nat.lt_of_lt_of_le hv (Nat.pow_le_pow_right (by decide) h))
theorem rot_lt {v n : Nat} (hv : v < 2 ^ 64) : rot v n < 2 ^ 64 := by
  unfold rot
  refine Nat.or_lt_two_pow (Nat.mod_lt _ (by decide)) (Nat.lt_of_le_of_lt ?_ hv)
  rw [Nat.shiftRight_eq_div_pow]; exact Nat.div_le_self _ _
theorem rot_bit {v n : Nat} (hv : v < 2 ^ 64) (hn : n < 64) (i : Nat) (hi : i < 64) : (rot v n).testBit i = v.testBit ((i + (64 - n)) % 64) := by
  unfold rot
  rw [Nat.testBit_or, Nat.testBit_mod_two_pow, Nat.testBit_shiftLeft, Nat.testBit_shiftRight]
  by_cases h : n ≤ i
  · rw [big_bit hv (i := 64 - n + i) (by omega), decide_eq_true hi, decide_eq_true (by omega : i ≥ n), show (i + (64 - n)) % 64 = i - n from by omega]
    simp
  · rw [decide_eq_false (by omega : ¬ i ≥ n), show (i + (64 - n)) % 64 = 64 - n + i from by omega]
    simp
theorem bits_ext {a b : Nat} (ha : a < 2 ^ 64) (hb : b < 2 ^ 64) (h : ∀ i, i < 64 → a.testBit i = b.testBit i) : a = b := by
  apply Nat.eq_of_testBit_eq
  intro i
  by_cases hi : i < 64
  · exact h i hi
  · rw [big_bit ha (by omega), big_bit hb (by omega)]
theorem rot_rot {v a b c : Nat} (hv : v < 2 ^ 64) (ha : a < 64) (hb : b < 64) (hc : c < 64) (e : (a + b) % 64 = c) : rot (rot v a) b = rot v c := by
  refine bits_ext (rot_lt (rot_lt hv)) (rot_lt hv) fun i hi => ?_
  rw [rot_bit (rot_lt hv) hb i hi, rot_bit hv ha _ (by omega), rot_bit hv hc i hi]
  congr 1
  omega
theorem rot_zero {v : Nat} (hv : v < 2 ^ 64) : rot v 0 = v := by
  refine bits_ext (rot_lt hv) hv fun i hi => ?_
  rw [rot_bit hv (by decide) i hi]; congr 1; omega
theorem shl64 (x : Nat) (n : Nat) (hn : n ≤ 64) : shl .u64 (x : Int) (n : Int) = ((x <<< n % 2 ^ 64 : Nat) : Int) := by
  unfold shl
  rw [show min (n : Int).toNat IntKind.u64.bits = n from by rw [Int.toNat_natCast]; exact Nat.min_eq_left hn, IntKind.wrap_u64, Nat.shiftLeft_eq]
  rw [show ((x : Int) * 2 ^ n) = ((x * 2 ^ n : Nat) : Int) from by simp]
  omega
theorem shr64 (x : Nat) (n : Nat) (hn : n ≤ 64) : shr .u64 (x : Int) (n : Int) = ((x >>> n : Nat) : Int) := by
  unfold shr
  rw [show min (n : Int).toNat IntKind.u64.bits = n from by rw [Int.toNat_natCast]; exact Nat.min_eq_left hn, Nat.shiftRight_eq_div_pow]
  simp
theorem turn_ok (v : Nat) (hv : v < 2 ^ 64) (k : Int) : bits_Turn.f (v : Int) k = some ((rot v (k % 64).toNat : Nat) : Int) := by
  have e : Go.bits .and .u64 (IntKind.u64.wrap k) 63 = (((k % 64).toNat : Nat) : Int) := by
    rw [IntKind.wrap_u64]
    obtain ⟨x, hx⟩ := Int.eq_ofNat_of_zero_le (a := k % 18446744073709551616) (by omega)
    rw [hx]
    have := u64_and_nat x 63 (by omega) (by decide)
    rw [show ((63 : Nat) : Int) = 63 from rfl] at this
    rw [this, show (63 : Nat) = 2 ^ 6 - 1 from rfl, Nat.and_two_pow_sub_one_eq_mod x 6]
    omega
  unfold bits_Turn.f
  rw [e]
  have hn : (k % 64).toNat < 64 := by omega
  generalize (k % 64).toNat = n at hn
  have e2 : IntKind.u64.wrap (64 - (n : Int)) = ((64 - n : Nat) : Int) := by rw [IntKind.wrap_u64]; omega
  rw [e2, if_pos (by omega), if_pos (by omega), shl64 v n (by omega), shr64 v (64 - n) (by omega)]
  rw [u64_or_nat _ _ (by have := Nat.mod_lt (v <<< n) (show 2 ^ 64 > 0 by decide); omega) (by rw [Nat.shiftRight_eq_div_pow]; exact Nat.lt_of_le_of_lt (Nat.div_le_self _ _) (by omega))]
  rfl
theorem bitsTurns_pure (v a b : Int) (h0 : 0 ≤ v) (h1 : v ≤ 18446744073709551615) (ha : -32768 ≤ a ∧ a ≤ 32767) (hb : -32768 ≤ b ∧ b ≤ 32767) : decklelaw01_BitsTurns.f 20 v a b = some true := by
  obtain ⟨x, rfl⟩ := Int.eq_ofNat_of_zero_le h0
  have hx : x < 2 ^ 64 := by omega
  unfold decklelaw01_BitsTurns.f
  rw [works_ok 20 (by omega), obind, if_pos rfl, w64 (x := a) (by omega) (by omega), w64 (x := b) (by omega) (by omega), w64 (x := a + b) (by omega) (by omega)]
  rw [turn_ok x hx, obind, turn_ok _ (rot_lt hx), obind, turn_ok x hx, obind]
  rw [rot_rot hx (by omega) (by omega) (c := ((a + b) % 64).toNat) (by omega) (by omega), if_pos rfl, turn_ok x hx, obind, show ((64 : Int) % 64).toNat = 0 from rfl, rot_zero hx, if_pos rfl, turn_ok x hx, obind, show ((0 : Int) % 64).toNat = 0 from rfl, rot_zero hx]
  simp
end Go.Proofs.YtfddegniphmhiaaDoor.Pure
