/- The bits law Signs, the pure statement: signs, numbers in so many bits and turned bits are as the document has them; no condition beyond 64 bits. -/
import Derived.Test.YtfddegniphmhiaaDoorPQx6
import Derived.Test.YtfddegniphmhiaaDoorRefs
namespace Go.Proofs.YtfddegniphmhiaaDoor.Pure
open Go.RowKit Go.Proofs.YtfddegniphmhiaaDoorW.PrintWords PQ
set_option linter.unusedVariables false
set_option linter.unusedSimpArgs false
/-- What the document's turning has put together of the first i bits: those below 64 - k, moved up; those from there on, moved down. -/
def part (v k i : Nat) : Nat := v % 2 ^ (min i (64 - k)) * 2 ^ k + (v / 2 ^ (64 - k)) % 2 ^ (i - (64 - k))
theorem part_zero (v k : Nat) : part v k 0 = 0 := by
  unfold part; rw [Nat.zero_min, Nat.zero_sub, Nat.pow_zero, Nat.mod_one, Nat.mod_one]; omega
theorem part_succ (v k i : Nat) (hk : k < 64) (hi : i < 64) : part v k (i + 1) = part v k i + 2 ^ ((i + k) % 64) * (v / 2 ^ i % 2) := by
  unfold part
  by_cases h : i < 64 - k
  · rw [Nat.min_eq_left (by omega), Nat.min_eq_left (by omega), show i + 1 - (64 - k) = 0 from by omega, show i - (64 - k) = 0 from by omega, Nat.mod_eq_of_lt (a := i + k) (by omega), mod_succ, Nat.add_mul, Nat.pow_add]
    rw [show 2 ^ i * (v / 2 ^ i % 2) * 2 ^ k = 2 ^ i * 2 ^ k * (v / 2 ^ i % 2) from by rw [Nat.mul_assoc, Nat.mul_comm (v / 2 ^ i % 2), Nat.mul_assoc]]
    omega
  · rw [Nat.min_eq_right (by omega), Nat.min_eq_right (by omega), show i + 1 - (64 - k) = i - (64 - k) + 1 from by omega, show (i + k) % 64 = i - (64 - k) from by omega, mod_succ, Nat.div_div_eq_div_mul, ← Nat.pow_add, show 64 - k + (i - (64 - k)) = i from by omega]
    omega
theorem part_lt (v k i : Nat) (hk : k < 64) (hi : i ≤ 64) : part v k i < 2 ^ 64 := by
  unfold part
  have e : 2 ^ (64 - k) * 2 ^ k = 2 ^ 64 := by rw [← Nat.pow_add]; congr 1; omega
  have h1 : v % 2 ^ (min i (64 - k)) + 1 ≤ 2 ^ (64 - k) := Nat.le_trans (Nat.mod_lt v (Nat.pow_pos (by decide))) (Nat.pow_le_pow_right (by decide) (by omega))
  have h2 : (v / 2 ^ (64 - k)) % 2 ^ (i - (64 - k)) < 2 ^ k := Nat.lt_of_lt_of_le (Nat.mod_lt _ (Nat.pow_pos (by decide))) (Nat.pow_le_pow_right (by decide) (by omega))
  have h3 := Nat.mul_le_mul_right (2 ^ k) h1
  rw [e, Nat.add_mul, Nat.one_mul] at h3
  omega
theorem part_all (v k : Nat) (hv : v < 2 ^ 64) (hk : k < 64) : part v k 64 = rot v k := by
  have e : 2 ^ (64 - k) * 2 ^ k = 2 ^ 64 := by rw [← Nat.pow_add]; congr 1; omega
  have hd : v / 2 ^ (64 - k) < 2 ^ k := by rw [Nat.div_lt_iff_lt_mul (Nat.pow_pos (by decide)), Nat.mul_comm, e]; exact hv
  unfold part rot
  rw [Nat.min_eq_right (by omega), show 64 - (64 - k) = k from by omega, Nat.mod_eq_of_lt hd, Nat.shiftRight_eq_div_pow, Nat.shiftLeft_eq]
  rw [show v * 2 ^ k % 2 ^ 64 = v % 2 ^ (64 - k) * 2 ^ k from by rw [← e, Nat.mul_mod_mul_right]]
  have := Nat.shiftLeft_add_eq_or_of_lt hd (v % 2 ^ (64 - k))
  rw [Nat.shiftLeft_eq] at this
  exact this
theorem rturn_l0 (v k : Nat) (hv : v < 2 ^ 64) (hk : k < 64) (d : Nat) : ∀ (i m : Nat), 64 - i = d → i ≤ 64 → d + 70 < m →
    deckleref01_Turn.l0 m (v : Int) (k : Int) ((part v k i : Nat) : Int) (i : Int) = some ((rot v k : Nat) : Int) := by
  induction d with
  | zero =>
    intro i m hd hi hm
    obtain ⟨m, rfl⟩ : ∃ j, m = j + 1 := ⟨m - 1, by omega⟩
    have : i = 64 := by omega
    subst this
    simp only [deckleref01_Turn.l0]
    rw [if_neg (by omega), part_all v k hv hk]
  | succ d ih =>
    intro i m hd hi hm
    obtain ⟨m, rfl⟩ : ∃ j, m = j + 1 := ⟨m - 1, by omega⟩
    simp only [deckleref01_Turn.l0]
    rw [if_pos (by omega), bit_ok v i hv (by omega) m (by omega), obind, w64 (x := (i : Int) + 1) (by omega) (by omega), show (i : Int) + 1 = ((i + 1 : Nat) : Int) from by omega]
    have et : Int.tmod (wrap64 ((i : Int) + (k : Int))) 64 = (((i + k) % 64 : Nat) : Int) := by
      rw [w64 (x := (i : Int) + (k : Int)) (by omega) (by omega), Int.tmod_eq_emod_of_nonneg (by omega)]; omega
    have go := ih (i + 1) m (by omega) (by omega) (by omega)
    have hlt := part_lt v k (i + 1) hk (by omega)
    rw [part_succ v k i hk (by omega)] at go hlt
    rcases two_cases (v / 2 ^ i) with h | h
    · rw [h] at go hlt ⊢
      rw [if_pos (by decide), et, power_ok _ (by omega) m (by omega), obind]
      rw [Nat.mul_one] at go hlt
      rw [← Int.natCast_add, u64w (Int.natCast_nonneg _) (by omega)]
      exact go
    · rw [h] at go ⊢
      rw [if_neg (by decide)]
      rw [Nat.mul_zero, Nat.add_zero] at go
      exact go
theorem tmod64 (k : Int) : (0 ≤ k ∧ Int.tmod k 64 = k % 64) ∨ (k < 0 ∧ Int.tmod k 64 = -((-k) % 64)) := by
  by_cases h : 0 ≤ k
  · exact Or.inl ⟨h, Int.tmod_eq_emod_of_nonneg h⟩
  · refine Or.inr ⟨by omega, ?_⟩
    have := Int.neg_tmod (-k) 64
    rw [Int.neg_neg] at this
    rw [this, Int.tmod_eq_emod_of_nonneg (by omega)]
theorem rturn_ok (v : Nat) (hv : v < 2 ^ 64) (k : Int) (m : Nat) (hm : 140 ≤ m) : deckleref01_Turn.f m (v : Int) k = some ((rot v (k % 64).toNat : Nat) : Int) := by
  obtain ⟨m, rfl⟩ : ∃ j, m = j + 1 := ⟨m - 1, by omega⟩
  have go := rturn_l0 v (k % 64).toNat hv (by omega) 64 0 m (by omega) (by omega) (by omega)
  rw [part_zero] at go
  unfold deckleref01_Turn.f
  simp only [deckleref01_Turn.j0]
  have ht := tmod64 k
  by_cases h : Int.tmod k 64 < 0
  · rw [if_pos h]
    have e : wrap64 (Int.tmod k 64 + 64) = (((k % 64).toNat : Nat) : Int) := by
      rw [w64 (x := Int.tmod k 64 + 64) (by omega) (by omega)]; omega
    rw [e]; exact go
  · rw [if_neg h]
    have e : Int.tmod k 64 = (((k % 64).toNat : Nat) : Int) := by omega
    rw [e]; exact go
theorem sign_no (m : Nat) (hm : 2 ≤ m) (v n : Int) (h : n < 1 ∨ n > 64) : bits_Sign.f v n = some (0, 1) ∧ deckleref01_Sign.f m v n = some (0, 1) ∧ deckleref01_Narrow.f m v n = some (0, false) := by
  obtain ⟨m, rfl⟩ : ∃ j, m = j + 1 := ⟨m - 1, by omega⟩
  unfold bits_Sign.f deckleref01_Sign.f deckleref01_Narrow.f
  by_cases h1 : n < 1
  · rw [if_pos h1, if_pos h1, if_pos h1]; simp only [deckleref01_Sign.j0, deckleref01_Narrow.j0]; simp
  · rw [if_neg h1, if_neg h1, if_neg h1, if_pos (by omega), decide_eq_true (by omega)]; simp only [deckleref01_Sign.j0, deckleref01_Narrow.j0]; simp
theorem bitsSigns_pure (v x n : Int) (h0 : 0 ≤ v) (h1 : v ≤ 18446744073709551615) : decklelaw01_BitsSigns.f 300 v x n = some true := by
  obtain ⟨u, rfl⟩ := Int.eq_ofNat_of_zero_le h0
  have hs : ∃ a b, bits_Sign.f (u : Int) n = some a ∧ deckleref01_Sign.f 300 (u : Int) n = some a ∧ bits_Narrow.f 300 x n = some b ∧ deckleref01_Narrow.f 300 x n = some b := by
    by_cases h : n < 1 ∨ n > 64
    · exact ⟨_, _, (sign_no 300 (by omega) u n h).1, (sign_no 300 (by omega) u n h).2.1, narrow_no 300 (by omega) x n h, (sign_no 300 (by omega) x n h).2.2⟩
    · obtain ⟨c, rfl⟩ := Int.eq_ofNat_of_zero_le (a := n) (by omega)
      exact ⟨_, _, sign_ok u c (by omega) (by omega), rsign_ok u c (by omega) (by omega) (by omega) 300 (by omega), narrow_ok 300 (by omega) x c (by omega) (by omega), rnarrow_ok 300 (by omega) x c (by omega) (by omega)⟩
  obtain ⟨a, b, e1, e2, e3, e4⟩ := hs
  unfold decklelaw01_BitsSigns.f
  rw [e1, obind, e2, obind, e3, obind, e4, obind, if_pos rfl, if_pos rfl, if_pos rfl, if_pos (by simp), turn_ok u (by omega), obind, rturn_ok u (by omega) n 300 (by omega), obind, if_pos rfl, works_ok 300 (by omega), obind]
end Go.Proofs.YtfddegniphmhiaaDoor.Pure
