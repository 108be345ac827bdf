/- The document's answers for signs and numbers in so many bits, by powers of two; no condition beyond 64 bits. -/
import Derived.Test.YtfddegniphmhiaaDoorNarrows
import Derived.Test.YtfddegniphmhiaaDoorPQx4
import Derived.Test.YtfddegniphmhiaaDoorPQx5
import Derived.Test.YtfddegniphmhiaaDoorTurns
namespace Go.Proofs.YtfddegniphmhiaaDoor.Pure
open Go.RowKit Go.Proofs.YtfddegniphmhiaaDoorW.PrintWords PQ
set_option linter.unusedVariables false
set_option linter.unusedSimpArgs false
/-! The document's answers, by powers of two. -/
theorem pow_lt64 {j : Nat} (h : j ≤ 63) : 2 ^ j ≤ 9223372036854775808 := Nat.le_trans (Nat.pow_le_pow_right (by decide) h) (by decide)
theorem power_l0 (n : Nat) (hn : n ≤ 63) (d : Nat) : ∀ (i m : Nat), n - i = d → i ≤ n → d < m → deckleref01_Power.l0 m (n : Int) ((2 ^ i : Nat) : Int) (i : Int) = some ((2 ^ n : Nat) : Int) := by
  induction d with
  | zero =>
    intro i m hd hi hm
    obtain ⟨m, rfl⟩ : ∃ j, m = j + 1 := ⟨m - 1, by omega⟩
    have : i = n := by omega
    subst this
    simp only [deckleref01_Power.l0]
    rw [if_neg (by omega)]
  | succ d ih =>
    intro i m hd hi hm
    obtain ⟨m, rfl⟩ : ∃ j, m = j + 1 := ⟨m - 1, by omega⟩
    simp only [deckleref01_Power.l0]
    have hp := pow_lt64 (j := i + 1) (by omega)
    have e : IntKind.u64.wrap (((2 ^ i : Nat) : Int) * 2) = ((2 ^ (i + 1) : Nat) : Int) := by
      rw [Nat.pow_succ] at hp ⊢
      generalize 2 ^ i = X at hp
      rw [u64w (by omega) (by omega)]; omega
    rw [if_pos (by omega), e, w64 (x := (i : Int) + 1) (by omega) (by omega), show (i : Int) + 1 = ((i + 1 : Nat) : Int) from by omega]
    exact ih (i + 1) m (by omega) (by omega) (by omega)
theorem power_ok (n : Nat) (hn : n ≤ 63) (m : Nat) (hm : 66 ≤ m) : deckleref01_Power.f m (n : Int) = some ((2 ^ n : Nat) : Int) := by
  unfold deckleref01_Power.f
  have := power_l0 n hn n 0 m (by omega) (by omega) (by omega)
  simpa using this
theorem bit_ok (v n : Nat) (hv : v < 18446744073709551616) (hn : n ≤ 63) (m : Nat) (hm : 66 ≤ m) : deckleref01_Bit.f m (v : Int) (n : Int) = some ((v / 2 ^ n % 2 : Nat) : Int) := by
  unfold deckleref01_Bit.f
  have hp : 0 < 2 ^ n := Nat.pow_pos (by decide)
  rw [power_ok n hn m hm, obind, if_neg (by omega), Int.tdiv_eq_ediv_of_nonneg (by omega)]
  have hle := Nat.div_le_self v (2 ^ n)
  rw [show (v : Int) / ((2 ^ n : Nat) : Int) = ((v / 2 ^ n : Nat) : Int) from rfl]
  generalize v / 2 ^ n = X at hle
  rw [u64w (by omega) (by omega), Int.tmod_eq_emod_of_nonneg (by omega)]
  rfl
theorem mod_succ (v i : Nat) : v % 2 ^ (i + 1) = v % 2 ^ i + 2 ^ i * (v / 2 ^ i % 2) := by
  rw [Nat.pow_succ, Nat.mod_mul]
theorem two_cases (x : Nat) : x % 2 = 1 ∨ x % 2 = 0 := by omega
theorem sgn_parts (H v : Nat) (hH : 0 < H) : sgn (H : Int) (v : Int) = (v % H : Nat) - (H : Int) * (v / H % 2 : Nat) := by
  unfold sgn
  have e := Nat.div_add_mod v H
  have e2 := Nat.div_add_mod (v / H) 2
  have hr := Nat.mod_lt v hH
  generalize v % H = r at e hr
  generalize v / H / 2 = q at e2
  rcases two_cases (v / H) with h | h
  · rw [h] at e2 ⊢
    have : (v : Int) + H = (r : Int) + (2 * (H : Int)) * ((q : Int) + 1) := by
      rw [← e, ← e2]; push_cast; rw [Int.mul_add, Int.mul_add]; generalize (H : Int) = h'; rw [Int.mul_comm 2 h', Int.mul_assoc]; omega
    rw [this, Int.add_mul_emod_self_left, Int.emod_eq_of_lt (by omega) (by omega)]
    simp
  · rw [h] at e2 ⊢
    have : (v : Int) + H = ((r : Int) + H) + (2 * (H : Int)) * (q : Int) := by
      rw [← e, ← e2]; push_cast; rw [Int.mul_add]; generalize (H : Int) = h'; rw [Int.mul_comm 2 h', Int.mul_assoc]; omega
    rw [this, Int.add_mul_emod_self_left, Int.emod_eq_of_lt (by omega) (by omega)]
    simp
theorem half_cast (n : Nat) : halfOf n = ((2 ^ (n - 1) : Nat) : Int) := by unfold halfOf; simp
theorem rsign_l0 (v n : Nat) (hv : v < 18446744073709551616) (h1 : 1 ≤ n) (h64 : n ≤ 64) (d : Nat) : ∀ (i m : Nat), n - 1 - i = d → i ≤ n - 1 → d + 70 < m →
    deckleref01_Sign.l0 m (v : Int) (n : Int) ((v % 2 ^ i : Nat) : Int) (i : Int) = some (sgn (halfOf n) (v : Int), 0) := by
  have ew : wrap64 ((n : Int) - 1) = ((n - 1 : Nat) : Int) := by rw [w64 (by omega) (by omega)]; omega
  have ew2 : wrap64 (wrap64 ((n : Int) - 2) + 1) = ((n - 1 : Nat) : Int) := by rw [w64 (x := (n : Int) - 2) (by omega) (by omega), w64 (by omega) (by omega)]; omega
  induction d with
  | zero =>
    intro i m hd hi hm
    obtain ⟨m, rfl⟩ : ∃ j, m = j + 1 := ⟨m - 1, by omega⟩
    have : i = n - 1 := by omega
    subst this
    simp only [deckleref01_Sign.l0]
    rw [ew, ew2, if_neg (by omega), bit_ok v _ hv (by omega) m (by omega), obind]
    have hp := pow_lt64 (j := n - 1) (by omega)
    have hp0 : 0 < 2 ^ (n - 1) := Nat.pow_pos (by decide)
    have hs := sgn_parts (2 ^ (n - 1)) v hp0
    rw [half_cast, hs]
    have hr := Nat.mod_lt v hp0
    have hodd : 2 ^ (n - 1) = 1 ∨ 2 ^ (n - 1) % 2 = 0 := by
      rcases Nat.eq_zero_or_pos (n - 1) with h | h
      · left; rw [h]
      · right; obtain ⟨k, hk⟩ : ∃ k, n - 1 = k + 1 := ⟨n - 2, by omega⟩
        rw [hk, Nat.pow_succ]; omega
    rcases two_cases (v / 2 ^ (n - 1)) with h | h
    · rw [h, if_pos (by decide), power_ok (n - 1) (by omega) m (by omega), obind, obind, obind]
      generalize 2 ^ (n - 1) = H at *
      generalize v % H = r at *
      rw [show Int.tdiv (H : Int) 2 = ((H / 2 : Nat) : Int) from by rw [Int.tdiv_eq_ediv_of_nonneg (by omega)]; rfl]
      rw [u64w (x := ((H / 2 : Nat) : Int)) (by omega) (by omega), w64 (x := ((H / 2 : Nat) : Int)) (by omega) (by omega), u64w (x := (H : Int) - ((H / 2 : Nat) : Int)) (by omega) (by omega), w64 (x := (H : Int) - ((H / 2 : Nat) : Int)) (by omega) (by omega), w64 (x := (r : Int) - ((H / 2 : Nat) : Int)) (by omega) (by omega), w64 (by omega) (by omega)]
      congr 2
      omega
    · rw [h, if_neg (by decide)]
      simp
  | succ d ih =>
    intro i m hd hi hm
    obtain ⟨m, rfl⟩ : ∃ j, m = j + 1 := ⟨m - 1, by omega⟩
    simp only [deckleref01_Sign.l0]
    rw [ew, if_pos (by omega), bit_ok v i hv (by omega) m (by omega), obind, w64 (x := (i : Int) + 1) (by omega) (by omega), show (i : Int) + 1 = ((i + 1 : Nat) : Int) from by omega]
    have hp := pow_lt64 (j := i + 1) (by omega)
    have go := ih (i + 1) m (by omega) (by omega) (by omega)
    rw [mod_succ] at go
    have hr := Nat.mod_lt v (show 0 < 2 ^ i from Nat.pow_pos (by decide))
    rw [Nat.pow_succ] at hp
    rcases two_cases (v / 2 ^ i) with h | h
    · rw [h] at go ⊢
      rw [if_pos (by decide), power_ok i (by omega) m (by omega), obind]
      rw [Nat.mul_one] at go
      generalize v % 2 ^ i = r at *
      generalize 2 ^ i = H at *
      rw [w64 (x := (H : Int)) (by omega) (by omega), w64 (x := (r : Int) + (H : Int)) (by omega) (by omega), show (r : Int) + (H : Int) = ((r + H : Nat) : Int) from by omega]
      exact go
    · rw [h] at go ⊢
      rw [if_neg (by decide)]
      rw [Nat.mul_zero, Nat.add_zero] at go
      exact go
theorem rsign_ok (v n : Nat) (hv : v < 18446744073709551616) (h1 : 1 ≤ n) (h64 : n ≤ 64) (m : Nat) (hm : 140 ≤ m) : deckleref01_Sign.f m (v : Int) (n : Int) = some (sgn (halfOf n) (v : Int), 0) := by
  obtain ⟨m, rfl⟩ : ∃ j, m = j + 1 := ⟨m - 1, by omega⟩
  unfold deckleref01_Sign.f
  rw [if_neg (by omega), decide_eq_false (by omega)]
  simp only [deckleref01_Sign.j0]
  rw [if_neg (by simp)]
  have := rsign_l0 v n hv h1 h64 (n - 1) 0 m (by omega) (by omega) (by omega)
  rw [Nat.pow_zero, Nat.mod_one] at this
  exact this
theorem rnarrow_l0 (x : Int) (u n : Nat) (hu : u < 18446744073709551616) (h1 : 1 ≤ n) (h64 : n ≤ 64) (d : Nat) : ∀ (i m : Nat), n - i = d → i ≤ n → d + 150 < m →
    deckleref01_Narrow.l0 m x (n : Int) ((u % 2 ^ i : Nat) : Int) (u : Int) (i : Int) = some (if sgn (halfOf n) ((u % 2 ^ n : Nat) : Int) = x then (((u % 2 ^ n : Nat) : Int), true) else (0, false)) := by
  induction d with
  | zero =>
    intro i m hd hi hm
    obtain ⟨m, rfl⟩ : ∃ j, m = j + 1 := ⟨m - 1, by omega⟩
    have : i = n := by omega
    subst this
    simp only [deckleref01_Narrow.l0]
    have hr := Nat.mod_le u (2 ^ i)
    rw [if_neg (by omega), rsign_ok _ i (by omega) h1 h64 m (by omega), obind]
    split <;> rfl
  | succ d ih =>
    intro i m hd hi hm
    obtain ⟨m, rfl⟩ : ∃ j, m = j + 1 := ⟨m - 1, by omega⟩
    simp only [deckleref01_Narrow.l0]
    rw [if_pos (by omega), bit_ok u i hu (by omega) m (by omega), obind, w64 (x := (i : Int) + 1) (by omega) (by omega), show (i : Int) + 1 = ((i + 1 : Nat) : Int) from by omega]
    have go := ih (i + 1) m (by omega) (by omega) (by omega)
    have hle := Nat.mod_le u (2 ^ (i + 1))
    rw [mod_succ] at go hle
    rcases two_cases (u / 2 ^ i) with h | h
    · rw [h] at go hle ⊢
      rw [if_pos (by decide), power_ok i (by omega) m (by omega), obind]
      rw [Nat.mul_one] at go hle
      rw [← Int.natCast_add, u64w (by omega) (by omega)]
      exact go
    · rw [h] at go ⊢
      rw [if_neg (by decide)]
      rw [Nat.mul_zero, Nat.add_zero] at go
      exact go
theorem rnarrow_ok (m : Nat) (hm : 230 ≤ m) (v : Int) (n : Nat) (h1 : 1 ≤ n) (h64 : n ≤ 64) : deckleref01_Narrow.f m v (n : Int) = some (if -halfOf n ≤ v ∧ v < halfOf n then (v % (2 * halfOf n), true) else (0, false)) := by
  obtain ⟨m, rfl⟩ : ∃ j, m = j + 1 := ⟨m - 1, by omega⟩
  unfold deckleref01_Narrow.f
  rw [if_neg (by omega), decide_eq_false (by omega)]
  simp only [deckleref01_Narrow.j0]
  rw [if_neg (by simp)]
  have hw : IntKind.u64.wrap v = v % 18446744073709551616 := by rw [IntKind.wrap_u64]
  obtain ⟨u, hu⟩ := Int.eq_ofNat_of_zero_le (a := v % 18446744073709551616) (by omega)
  have hu2 : u < 18446744073709551616 := by omega
  have := rnarrow_l0 v u n hu2 h1 h64 n 0 m (by omega) (by omega) (by omega)
  rw [Nat.pow_zero, Nat.mod_one] at this
  rw [hw, hu]
  refine this.trans ?_
  have e : ((u % 2 ^ n : Nat) : Int) = v % (2 * halfOf n) := by
    rw [Int.natCast_emod, ← hu, show ((2 ^ n : Nat) : Int) = 2 * halfOf n from by rw [half_dvd n h1]; simp]
    exact Int.emod_emod_of_dvd v ⟨2 ^ (64 - n), by rw [Int.mul_comm]; exact (half_mul n h1 h64).symm⟩
  rw [e, sgn_mod]
  by_cases h : -halfOf n ≤ v ∧ v < halfOf n
  · rw [if_pos h, if_pos ((sgn_eq (half_pos n)).2 h)]
  · rw [if_neg h, if_neg (fun g => h ((sgn_eq (half_pos n)).1 g))]
end Go.Proofs.YtfddegniphmhiaaDoor.Pure
