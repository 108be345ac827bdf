/- Plain facts on sums by division of polynomials over bits: states, bytes, bursts. No condition beyond those stated. -/
namespace Go.Proofs.YtogohafdkpibdaaDoor.CrcMath

/-- The polynomial, the lowest bit for the highest power. -/
def P : Nat := 3988292384
/-- One bit further. -/
def st (s : Nat) : Nat := if s % 2 = 1 then (s / 2) ^^^ P else s / 2
def stN : Nat → Nat → Nat
  | 0, s => s
  | n + 1, s => stN n (st s)

theorem st_lt {s : Nat} (h : s < 4294967296) : st s < 4294967296 := by
  unfold st
  split
  · exact Nat.xor_lt_two_pow (n := 32) (by omega) (by decide)
  · omega
theorem stN_lt : ∀ (n : Nat) {s : Nat}, s < 4294967296 → stN n s < 4294967296
  | 0, _, h => h
  | n + 1, _, h => stN_lt n (st_lt h)

theorem st_xor (a b : Nat) : st (a ^^^ b) = st a ^^^ st b := by
  unfold st
  have hm : (a ^^^ b) % 2 = (a % 2 + b % 2) % 2 := by
    have := Nat.xor_mod_two_pow (a := a) (b := b) (n := 1)
    simp only [Nat.pow_one] at this
    rw [this]
    rcases Nat.mod_two_eq_zero_or_one a with h | h <;> rcases Nat.mod_two_eq_zero_or_one b with h' | h' <;> rw [h, h'] <;> rfl
  have hd : (a ^^^ b) / 2 = a / 2 ^^^ b / 2 := Nat.xor_div_two_pow (n := 1)
  rw [hd, hm]
  rcases Nat.mod_two_eq_zero_or_one a with h | h <;> rcases Nat.mod_two_eq_zero_or_one b with h' | h' <;> simp only [h, h']
  · simp
  · simp [Nat.xor_assoc]
  · rw [if_pos trivial, if_pos trivial, if_neg (show ¬ (0 : Nat) = 1 by decide), Nat.xor_assoc, Nat.xor_assoc, Nat.xor_comm (b / 2) P]
  · rw [if_neg (show ¬ (2 % 2 : Nat) = 1 by decide), if_pos trivial, if_pos trivial, Nat.xor_assoc, Nat.xor_comm P, Nat.xor_assoc, Nat.xor_self, Nat.xor_zero]
theorem stN_xor : ∀ (n a b : Nat), stN n (a ^^^ b) = stN n a ^^^ stN n b
  | 0, _, _ => rfl
  | n + 1, a, b => by simp only [stN]; rw [st_xor, stN_xor n]
theorem st_even (t : Nat) : st (2 * t) = t := by
  unfold st; rw [if_neg (by omega)]; omega
theorem st_zero : st 0 = 0 := rfl
theorem stN_zero : ∀ n, stN n 0 = 0
  | 0 => rfl
  | n + 1 => stN_zero n
theorem stN_add : ∀ (n m s : Nat), stN (n + m) s = stN m (stN n s)
  | 0, m, s => by rw [Nat.zero_add]; rfl
  | n + 1, m, s => by rw [Nat.add_right_comm]; exact stN_add n m (st s)

/-- Nothing comes of nothing alone. -/
theorem st_eq_zero {s : Nat} (h : s < 4294967296) (e : st s = 0) : s = 0 := by
  unfold st at e
  split at e
  · have e2 : s / 2 = P := by
      have : (s / 2 ^^^ P) ^^^ P = P := by rw [e]; simp
      rwa [Nat.xor_assoc, Nat.xor_self, Nat.xor_zero] at this
    unfold P at e2; omega
  · omega
theorem stN_eq_zero : ∀ (n : Nat) {s : Nat}, s < 4294967296 → stN n s = 0 → s = 0
  | 0, _, _, e => e
  | n + 1, _, h, e => st_eq_zero h (stN_eq_zero n (st_lt h) e)
theorem xor_eq_zero {a b : Nat} (h : a ^^^ b = 0) : a = b := by
  have : (a ^^^ b) ^^^ b = b := by rw [h]; simp
  rwa [Nat.xor_assoc, Nat.xor_self, Nat.xor_zero] at this
theorem stN_inj (n : Nat) {a b : Nat} (ha : a < 4294967296) (hb : b < 4294967296) (e : stN n a = stN n b) : a = b := by
  apply xor_eq_zero
  apply stN_eq_zero n (Nat.xor_lt_two_pow (n := 32) ha hb)
  rw [stN_xor, e, Nat.xor_self]

/-- A number parts into its lowest bits and the others. -/
theorem part (n v : Nat) : v = v % 2 ^ n ^^^ 2 ^ n * (v / 2 ^ n) := by
  rw [Nat.xor_comm]
  apply Nat.eq_of_testBit_eq
  intro i
  rw [Nat.testBit_xor, Nat.testBit_mod_two_pow, Nat.testBit_two_pow_mul, Nat.testBit_div_two_pow]
  by_cases h : i < n
  · simp [h, Nat.not_le.mpr h]
  · have : n ≤ i := by omega
    simp [h, this]
theorem stN_pow : ∀ (n t : Nat), stN n (2 ^ n * t) = t
  | 0, t => by simp [stN]
  | n + 1, t => by
    have : 2 ^ (n + 1) * t = 2 * (2 ^ n * t) := by rw [Nat.pow_succ]; rw [Nat.mul_comm (2 ^ n) 2, Nat.mul_assoc]
    simp only [stN]; rw [this, st_even]; exact stN_pow n t
/-- A state ahead of n more bits of a number v. -/
theorem stN_part (n s v : Nat) : stN n (s ^^^ v) = stN n (s ^^^ v % 2 ^ n) ^^^ v / 2 ^ n := by
  have h : s ^^^ v = (s ^^^ v % 2 ^ n) ^^^ 2 ^ n * (v / 2 ^ n) := by
    rw [Nat.xor_assoc, ← part]
  rw [h, stN_xor, stN_pow]

/-- One byte. -/
def byte (s b : Nat) : Nat := stN 8 (s ^^^ b)
theorem byte_lt {s b : Nat} (hs : s < 4294967296) (hb : b < 256) : byte s b < 4294967296 := stN_lt 8 (Nat.xor_lt_two_pow (n := 32) hs (by omega))
/-- All bytes. -/
def more (s : Nat) (l : List Nat) : Nat := l.foldl byte s
theorem more_append (s : Nat) (a b : List Nat) : more s (a ++ b) = more (more s a) b := by unfold more; rw [List.foldl_append]
theorem more_lt : ∀ (l : List Nat) {s : Nat}, s < 4294967296 → (∀ b ∈ l, b < 256) → more s l < 4294967296
  | [], _, h, _ => h
  | b :: l, s, h, hl => more_lt l (byte_lt h (hl b (by simp))) (fun c hc => hl c (by simp [hc]))
theorem more_xor : ∀ (a b : List Nat) (s t : Nat), a.length = b.length → more (s ^^^ t) (List.zipWith (· ^^^ ·) a b) = more s a ^^^ more t b
  | [], [], _, _, _ => rfl
  | x :: a, y :: b, s, t, h => by
    show more (byte (s ^^^ t) (x ^^^ y)) (List.zipWith (· ^^^ ·) a b) = more (byte s x) a ^^^ more (byte t y) b
    rw [← more_xor a b _ _ (by simpa using h)]
    congr 1
    unfold byte
    rw [← stN_xor]
    congr 1
    rw [Nat.xor_assoc, ← Nat.xor_assoc t, Nat.xor_comm t, Nat.xor_assoc, Nat.xor_assoc]

/-- A number's four bytes, the lowest first. -/
def tail (n : Nat) : List Nat := [n % 256, n / 256 % 256, n / 65536 % 256, n / 16777216 % 256]
theorem more_tail (s v : Nat) (hv : v < 4294967296) : more s (tail v) = stN 32 (s ^^^ v) := by
  have e : ∀ s v, stN 8 (s ^^^ v) = byte s (v % 256) ^^^ v / 256 := fun s v => stN_part 8 s v
  rw [show (32 : Nat) = 8 + (8 + (8 + 8)) from rfl, stN_add, e, stN_add, e, stN_add, e, e]
  have h0 : v / 256 / 256 / 256 / 256 = 0 := by omega
  have h1 : v / 256 / 256 = v / 65536 := by omega
  have h2 : v / 65536 / 256 = v / 16777216 := by omega
  rw [h0, h1, h2, Nat.xor_zero]
  rfl

def first : Nat := 4294967295
def sum (l : List Nat) : Nat := first ^^^ more first l
theorem sum_lt {l : List Nat} (h : ∀ b ∈ l, b < 256) : sum l < 4294967296 := Nat.xor_lt_two_pow (n := 32) (by decide) (more_lt l (by decide) h)
def seal_ (l : List Nat) : List Nat := l ++ tail (sum l)
/-- What a sealed text leaves. -/
theorem more_seal {l : List Nat} (h : ∀ b ∈ l, b < 256) : more first (seal_ l) = stN 32 first := by
  unfold seal_
  rw [more_append, more_tail _ _ (sum_lt h)]
  congr 1
  unfold sum
  rw [Nat.xor_comm first, ← Nat.xor_assoc, Nat.xor_self, Nat.zero_xor]
/-- What leaves that is sealed. -/
theorem sealed {l : List Nat} {v : Nat} (h : ∀ b ∈ l, b < 256) (hv : v < 4294967296) (e : more first (l ++ tail v) = stN 32 first) : v = sum l := by
  rw [more_append, more_tail _ _ hv] at e
  have := stN_inj 32 (Nat.xor_lt_two_pow (n := 32) (more_lt l (by decide) h) hv) (by decide) e
  unfold sum
  generalize more first l = m at this
  rw [← this, Nat.xor_comm m, Nat.xor_assoc, Nat.xor_self, Nat.xor_zero]

/-! bits -/
def bit (b : Bool) : Nat := if b then 1 else 0
def moreB (s : Nat) (l : List Bool) : Nat := l.foldl (fun s b => st (s ^^^ bit b)) s
def bitsN : Nat → Nat → List Bool
  | 0, _ => []
  | n + 1, v => (v % 2 == 1) :: bitsN n (v / 2)
theorem bitsN_length : ∀ n v, (bitsN n v).length = n
  | 0, _ => rfl
  | n + 1, v => by simp [bitsN, bitsN_length n]
theorem bit_mod (v : Nat) : bit (v % 2 == 1) = v % 2 := by
  unfold bit; rcases Nat.mod_two_eq_zero_or_one v with h | h <;> rw [h] <;> rfl
theorem moreB_append (s : Nat) (a b : List Bool) : moreB s (a ++ b) = moreB (moreB s a) b := by unfold moreB; rw [List.foldl_append]
theorem moreB_bitsN : ∀ (n s v : Nat), v < 2 ^ n → moreB s (bitsN n v) = stN n (s ^^^ v)
  | 0, s, v, h => by
    have : v = 0 := by simpa using h
    subst this; simp [bitsN, moreB, stN]
  | n + 1, s, v, h => by
    show moreB (st (s ^^^ bit (v % 2 == 1))) (bitsN n (v / 2)) = stN n (st (s ^^^ v))
    rw [moreB_bitsN n _ _ (by rw [Nat.pow_succ] at h; omega), bit_mod]
    have := stN_part 1 s v
    simp only [stN, Nat.pow_one] at this
    rw [this]
def bitsOf (l : List Nat) : List Bool := l.flatMap (bitsN 8)
theorem bitsOf_length : ∀ l : List Nat, (bitsOf l).length = 8 * l.length
  | [] => rfl
  | b :: l => by
    have := bitsOf_length l
    unfold bitsOf at this ⊢
    rw [List.flatMap_cons, List.length_append, this, bitsN_length, List.length_cons]; omega
theorem moreB_bitsOf : ∀ (l : List Nat) (s : Nat), (∀ b ∈ l, b < 256) → moreB s (bitsOf l) = more s l
  | [], _, _ => rfl
  | b :: l, s, h => by
    show moreB s (bitsN 8 b ++ bitsOf l) = more (byte s b) l
    rw [moreB_append, moreB_bitsN 8 s b (h b (by simp)), moreB_bitsOf l _ (fun c hc => h c (by simp [hc]))]
    rfl
theorem moreB_zeros : ∀ (n s : Nat), moreB s (List.replicate n false) = stN n s
  | 0, _ => rfl
  | n + 1, s => by
    rw [List.replicate_succ]
    show moreB (st (s ^^^ bit false)) _ = stN n (st s)
    rw [moreB_zeros n]; simp [bit]
/-- A burst is never lost. -/
theorem burst (a c u : Nat) (hu : u < 4294967296) (h : u ≠ 0) : moreB 0 (List.replicate a false ++ bitsN 32 u ++ List.replicate c false) ≠ 0 := by
  rw [moreB_append, moreB_append, moreB_zeros a, stN_zero, moreB_bitsN 32 0 u hu, Nat.zero_xor, moreB_zeros c]
  intro e
  exact h (stN_eq_zero 32 hu (stN_eq_zero c (stN_lt 32 hu) e))

/-! the table -/
def tab (i : Nat) : Nat := stN 4 i
theorem nib (s : Nat) : tab (s % 16) ^^^ s / 16 = stN 4 s := by
  have := stN_part 4 0 s
  simp only [Nat.zero_xor] at this
  exact this.symm
theorem nib2 (s : Nat) : stN 8 s = stN 4 (stN 4 s) := stN_add 4 4 s
end Go.Proofs.YtogohafdkpibdaaDoor.CrcMath
