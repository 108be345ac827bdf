/- Plain facts on bits turned next to one another, and on the state behind them. No condition beyond those stated. -/
import Derived.Test.YtogohafdkpibdaaDoorMath
namespace Go.Proofs.YtogohafdkpibdaaDoor.CrcMath
/-! Bits turned next to one another: the state behind bits, put together by exclusive or. -/
theorem bit_xor (a b : Bool) : bit (a != b) = bit a ^^^ bit b := by cases a <;> cases b <;> rfl
theorem moreB_xor : ∀ (a b : List Bool) (s t : Nat), a.length = b.length → moreB (s ^^^ t) (List.zipWith (· != ·) a b) = moreB s a ^^^ moreB t b
  | [], [], _, _, _ => rfl
  | x :: a, y :: b, s, t, h => by
    show moreB (st ((s ^^^ t) ^^^ bit (x != y))) (List.zipWith (· != ·) a b) = moreB (st (s ^^^ bit x)) a ^^^ moreB (st (t ^^^ bit y)) b
    rw [← moreB_xor a b _ _ (by simpa using h), ← st_xor, bit_xor]
    congr 2
    rw [Nat.xor_assoc, Nat.xor_assoc, ← Nat.xor_assoc t, Nat.xor_comm t, Nat.xor_assoc (bit x)]
  | [], _ :: _, _, _, h => by simp at h
  | _ :: _, [], _, _, h => by simp at h
/-- One bit of some bytes, turned. -/
def flipN (l : List Nat) (k : Nat) : List Nat := l.set (k / 8) (l.getD (k / 8) 0 ^^^ 2 ^ (k % 8))
theorem flip_byte : ∀ b < 256, ∀ p < 8, bitsN 8 (b ^^^ 2 ^ p) = (bitsN 8 b).set p (!(bitsN 8 b).getD p false) := by decide +kernel
theorem flipN_length (l : List Nat) (k : Nat) : (flipN l k).length = l.length := by unfold flipN; rw [List.length_set]
theorem flipN_lt (l : List Nat) (hl : ∀ b ∈ l, b < 256) (k : Nat) : ∀ b ∈ flipN l k, b < 256 := by
  intro b hb
  unfold flipN at hb
  rcases List.mem_or_eq_of_mem_set hb with h | h
  · exact hl b h
  · rw [h]
    refine Nat.xor_lt_two_pow (n := 8) ?_ (Nat.pow_lt_pow_right (by decide) (Nat.mod_lt k (by decide)))
    rw [List.getD_eq_getElem?_getD]
    cases e : l[k / 8]? with
    | none => decide
    | some b => exact hl b (List.mem_of_getElem? e)
theorem getD_left (a b : List Bool) (i : Nat) (h : i < a.length) : (a ++ b).getD i false = a.getD i false := by
  rw [List.getD_eq_getElem?_getD, List.getElem?_append_left h, ← List.getD_eq_getElem?_getD]
theorem getD_right (a b : List Bool) (i : Nat) (h : a.length ≤ i) : (a ++ b).getD i false = b.getD (i - a.length) false := by
  rw [List.getD_eq_getElem?_getD, List.getElem?_append_right h, ← List.getD_eq_getElem?_getD]
theorem bitsOf_flip : ∀ (l : List Nat) (_ : ∀ b ∈ l, b < 256) (k : Nat), k < 8 * l.length → bitsOf (flipN l k) = (bitsOf l).set k (!(bitsOf l).getD k false)
  | [], _, k, h => by simp at h
  | b :: l, hl, k, h => by
    have hb := hl b (List.mem_cons_self ..)
    have h8 := bitsN_length 8 b
    by_cases g : k < 8
    · have e : flipN (b :: l) k = (b ^^^ 2 ^ k) :: l := by
        unfold flipN
        rw [show k / 8 = 0 from by omega, show k % 8 = k from by omega]; rfl
      rw [e]
      show bitsN 8 (b ^^^ 2 ^ k) ++ bitsOf l = (bitsN 8 b ++ bitsOf l).set k (!(bitsN 8 b ++ bitsOf l).getD k false)
      rw [flip_byte b hb k g, List.set_append_left _ _ (by omega), getD_left _ _ _ (by omega)]
    · have e : flipN (b :: l) k = b :: flipN l (k - 8) := by
        unfold flipN
        obtain ⟨j, rfl⟩ : ∃ j, k = j + 8 := ⟨k - 8, by omega⟩
        rw [show (j + 8) / 8 = j / 8 + 1 from by omega, show (j + 8) % 8 = j % 8 from by omega, show j + 8 - 8 = j from by omega]; rfl
      rw [e]
      have ih := bitsOf_flip l (fun c hc => hl c (List.mem_cons_of_mem _ hc)) (k - 8) (by simp only [List.length_cons] at h; omega)
      show bitsN 8 b ++ bitsOf (flipN l (k - 8)) = (bitsN 8 b ++ bitsOf l).set k (!(bitsN 8 b ++ bitsOf l).getD k false)
      rw [ih, List.set_append_right _ _ (by omega), getD_right _ _ _ (by omega), h8]
/-- The first k of the bits u, turned from a place on. -/
def burstN (l : List Nat) (a u : Nat) : Nat → List Nat
  | 0 => l
  | k + 1 => if u / 2 ^ k % 2 = 1 then flipN (burstN l a u k) (a + k) else burstN l a u k
theorem burstN_length (l : List Nat) (a u : Nat) : ∀ k, (burstN l a u k).length = l.length
  | 0 => rfl
  | k + 1 => by
    show (if u / 2 ^ k % 2 = 1 then flipN (burstN l a u k) (a + k) else burstN l a u k).length = _
    split
    · rw [flipN_length, burstN_length l a u k]
    · exact burstN_length l a u k
theorem burstN_lt (l : List Nat) (hl : ∀ b ∈ l, b < 256) (a u : Nat) : ∀ k, ∀ b ∈ burstN l a u k, b < 256
  | 0 => hl
  | k + 1 => by
    show ∀ b ∈ (if u / 2 ^ k % 2 = 1 then flipN (burstN l a u k) (a + k) else burstN l a u k), b < 256
    split
    · exact flipN_lt _ (burstN_lt l hl a u k) _
    · exact burstN_lt l hl a u k
theorem burst_bits (l : List Nat) (hl : ∀ b ∈ l, b < 256) (a u : Nat) (i : Nat) (hi : i < 8 * l.length) : ∀ k, a + k ≤ 8 * l.length → (bitsOf (burstN l a u k)).getD i false = ((bitsOf l).getD i false != decide (a ≤ i ∧ i < a + k ∧ u / 2 ^ (i - a) % 2 = 1))
  | 0, _ => by
    rw [decide_eq_false (by omega)]
    show (bitsOf l).getD i false = _
    simp
  | k + 1, h => by
    have ih := burst_bits l hl a u i hi k (by omega)
    have hlen := burstN_length l a u k
    show (bitsOf (if u / 2 ^ k % 2 = 1 then flipN (burstN l a u k) (a + k) else burstN l a u k)).getD i false = _
    by_cases g : u / 2 ^ k % 2 = 1
    · rw [if_pos g, bitsOf_flip _ (burstN_lt l hl a u k) (a + k) (by omega)]
      by_cases e : i = a + k
      · subst e
        rw [List.getD_eq_getElem?_getD, List.getElem?_set_self (by rw [bitsOf_length]; omega), Option.getD_some, ih, decide_eq_false (by omega), decide_eq_true ⟨by omega, by omega, by rw [show a + k - a = k from by omega]; exact g⟩]
        cases (bitsOf l).getD (a + k) false <;> rfl
      · rw [List.getD_eq_getElem?_getD, List.getElem?_set_ne (by omega), ← List.getD_eq_getElem?_getD, ih]
        congr 1
        rw [decide_eq_decide]; omega
    · rw [if_neg g, ih]
      congr 1
      rw [decide_eq_decide]
      constructor
      · rintro ⟨x, y, z⟩; exact ⟨x, by omega, z⟩
      · rintro ⟨x, y, z⟩
        refine ⟨x, ?_, z⟩
        apply Decidable.byContradiction
        intro n
        have : i - a = k := by omega
        rw [this] at z; exact g z
theorem bitsN_at : ∀ n v i, i < n → (bitsN n v).getD i false = decide (v / 2 ^ i % 2 = 1)
  | 0, v, i, h => by omega
  | n + 1, v, 0, h => by
    show (v % 2 == 1) = _
    rw [Nat.pow_zero, Nat.div_one]
    rcases Nat.mod_two_eq_zero_or_one v with g | g <;> rw [g] <;> rfl
  | n + 1, v, i + 1, h => by
    show (bitsN n (v / 2)).getD i false = _
    rw [bitsN_at n _ i (by omega), Nat.div_div_eq_div_mul, Nat.pow_succ, Nat.mul_comm 2]
/-- The bits turned, in their place. -/
def mask (a c u : Nat) : List Bool := List.replicate a false ++ bitsN 32 u ++ List.replicate c false
theorem mask_length (a c u : Nat) : (mask a c u).length = a + 32 + c := by simp [mask, bitsN_length]; omega
theorem rep_at (n i : Nat) : (List.replicate n false).getD i false = false := by
  rw [List.getD_eq_getElem?_getD, List.getElem?_replicate]; split <;> rfl
theorem mask_at (a c u i : Nat) : (mask a c u).getD i false = decide (a ≤ i ∧ i < a + 32 ∧ u / 2 ^ (i - a) % 2 = 1) := by
  have h32 := bitsN_length 32 u
  unfold mask
  by_cases h1 : i < a + 32
  · rw [getD_left _ _ _ (by simp [h32]; omega)]
    by_cases h2 : i < a
    · rw [getD_left _ _ _ (by simp; omega), rep_at, decide_eq_false (by omega)]
    · rw [getD_right _ _ _ (by simp; omega), List.length_replicate, bitsN_at 32 u _ (by omega), decide_eq_decide]
      constructor
      · intro h; exact ⟨by omega, h1, h⟩
      · intro h; exact h.2.2
  · rw [getD_right _ _ _ (by simp [h32]; omega), rep_at, decide_eq_false (by omega)]
theorem burst_zip (l : List Nat) (hl : ∀ b ∈ l, b < 256) (a u : Nat) (h : a + 32 ≤ 8 * l.length) : bitsOf (burstN l a u 32) = List.zipWith (· != ·) (bitsOf l) (mask a (8 * l.length - (a + 32)) u) := by
  have hm := mask_length a (8 * l.length - (a + 32)) u
  apply List.ext_getElem
  · rw [bitsOf_length, burstN_length, List.length_zipWith, bitsOf_length, hm]; omega
  · intro i h1 h2
    rw [bitsOf_length, burstN_length] at h1
    have e := burst_bits l hl a u i h1 32 h
    rw [← mask_at a (8 * l.length - (a + 32)) u i] at e
    rw [List.getElem_zipWith]
    rw [List.getD_eq_getElem?_getD, List.getD_eq_getElem?_getD, List.getD_eq_getElem?_getD, List.getElem?_eq_getElem (by rw [bitsOf_length, burstN_length]; omega), List.getElem?_eq_getElem (by rw [bitsOf_length]; omega), List.getElem?_eq_getElem (by rw [hm]; omega)] at e
    exact e
/-- The state behind bytes of which some bits next to one another are turned is another. -/
theorem burst_more (l : List Nat) (hl : ∀ b ∈ l, b < 256) (a u s : Nat) (h : a + 32 ≤ 8 * l.length) (hu : u < 4294967296) (h0 : u ≠ 0) : more s (burstN l a u 32) ≠ more s l := by
  intro e
  rw [← moreB_bitsOf _ _ (burstN_lt l hl a u 32), ← moreB_bitsOf _ _ hl, burst_zip l hl a u h] at e
  have hx := moreB_xor (bitsOf l) (mask a (8 * l.length - (a + 32)) u) s 0 (by rw [bitsOf_length, mask_length]; omega)
  rw [Nat.xor_zero, e] at hx
  have hb := burst a (8 * l.length - (a + 32)) u hu h0
  apply hb
  have := congrArg (moreB s (bitsOf l) ^^^ ·) hx
  simp only [← Nat.xor_assoc, Nat.xor_self, Nat.zero_xor] at this
  exact this.symm
end Go.Proofs.YtogohafdkpibdaaDoor.CrcMath
