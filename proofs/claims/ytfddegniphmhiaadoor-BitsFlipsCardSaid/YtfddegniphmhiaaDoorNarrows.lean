/- The bits law Narrows, the pure statement: numbers in so many bits have their signs again, and have room just between the least and the greatest; no condition beyond 64 bits. -/
import Derived.Test.YtfddegniphmhiaaDoorPQx7
import Derived.Test.YtfddegniphmhiaaDoorPuts
namespace Go.Proofs.YtfddegniphmhiaaDoor.Pure
open Go.RowKit Go.Proofs.YtfddegniphmhiaaDoorW.PrintWords PQ
set_option linter.unusedVariables false
set_option linter.unusedSimpArgs false
/-! Signs within so many bits, by remainders: with P * (2 * H) = 2^64, H = 2^(n-1). -/
/-- The number that so many bits say, below 0 where the highest is 1. -/
def sgn (H v : Int) : Int := (v + H) % (2 * H) - H
theorem mul_mod {P Q : Int} (hP : 0 < P) (x : Int) : (x * P) % (P * Q) = P * (x % Q) := by
  rw [Int.mul_comm x P]; exact Int.mul_emod_mul_of_pos _ _ hP
theorem sign_core (P H v : Int) (hP : 0 < P) (hH : 0 < H) (h : P * (2 * H) = 18446744073709551616) : (wrap64 (IntKind.u64.wrap (v * P))) / P = sgn H v := by
  have h2 : P * H = 9223372036854775808 := by
    have : P * (2 * H) = 2 * (P * H) := by rw [← Int.mul_assoc, Int.mul_comm P 2, Int.mul_assoc]
    omega
  have e0 : wrap64 (IntKind.u64.wrap (v * P)) = wrap64 (v * P) := by rw [IntKind.wrap_u64]; unfold wrap64; omega
  have e1 : wrap64 (v * P) = (v * P + 9223372036854775808) % 18446744073709551616 - 9223372036854775808 := by unfold wrap64; omega
  have e2 : v * P + 9223372036854775808 = (v + H) * P := by rw [Int.add_mul, Int.mul_comm H P, h2]
  have e3 : ((v + H) * P) % 18446744073709551616 = P * ((v + H) % (2 * H)) := by rw [← h]; exact mul_mod hP _
  have e4 : P * ((v + H) % (2 * H)) - 9223372036854775808 = P * ((v + H) % (2 * H) - H) := by rw [Int.mul_sub, h2]
  rw [e0, e1, e2, e3, e4, Int.mul_ediv_cancel_left _ (by omega)]
  rfl
theorem low_core (P H v : Int) (hP : 0 < P) (hH : 0 < H) (h : P * (2 * H) = 18446744073709551616) : (IntKind.u64.wrap (IntKind.u64.wrap v * P)) / P = v % (2 * H) := by
  have e0 : IntKind.u64.wrap (IntKind.u64.wrap v * P) = P * (IntKind.u64.wrap v % (2 * H)) := by
    have : IntKind.u64.wrap (IntKind.u64.wrap v * P) = (IntKind.u64.wrap v * P) % 18446744073709551616 := by rw [IntKind.wrap_u64]
    rw [this, ← h]; exact mul_mod hP _
  have e1 : IntKind.u64.wrap v % (2 * H) = v % (2 * H) := by
    rw [IntKind.wrap_u64]
    exact Int.emod_emod_of_dvd v ⟨P, by rw [Int.mul_comm (2 * H) P]; exact h.symm⟩
  rw [e0, e1, Int.mul_ediv_cancel_left _ (by omega)]
theorem sgn_mod (H v : Int) : sgn H (v % (2 * H)) = sgn H v := by
  unfold sgn; rw [Int.emod_add_emod]
theorem sgn_eq {H v : Int} (hH : 0 < H) : sgn H v = v ↔ -H ≤ v ∧ v < H := by
  unfold sgn
  have h1 := Int.emod_nonneg (v + H) (show 2 * H ≠ 0 by omega)
  have h2 := Int.emod_lt_of_pos (v + H) (show 0 < 2 * H by omega)
  constructor
  · intro h; omega
  · rintro ⟨a, b⟩
    rw [Int.emod_eq_of_lt (by omega) (by omega)]; omega
/-- Half of what so many bits can say. -/
def halfOf (n : Nat) : Int := 2 ^ (n - 1)
theorem half_pos (n : Nat) : 0 < halfOf n := Int.pow_pos (by decide)
theorem half_mul (n : Nat) (h1 : 1 ≤ n) (h64 : n ≤ 64) : (2 : Int) ^ (64 - n) * (2 * halfOf n) = 18446744073709551616 := by
  unfold halfOf
  rw [show (2 : Int) * 2 ^ (n - 1) = 2 ^ n from by rw [Int.mul_comm, ← Int.pow_succ]; congr 1; omega, ← Int.pow_add, show 64 - n + n = 64 from by omega]
  rfl
theorem half_dvd (n : Nat) (h1 : 1 ≤ n) : (2 : Int) * halfOf n = 2 ^ n := by
  unfold halfOf; rw [Int.mul_comm, ← Int.pow_succ]; congr 1; omega
theorem half_mono {a b : Nat} (h : a ≤ b) : halfOf a ≤ halfOf b := by
  unfold halfOf
  have := Nat.pow_le_pow_right (n := 2) (by decide) (show a - 1 ≤ b - 1 by omega)
  exact_mod_cast this
theorem width_ok (n : Nat) (h1 : 1 ≤ n) (h64 : n ≤ 64) : IntKind.u64.wrap (wrap64 (64 - (n : Int))) = ((64 - n : Nat) : Int) := by
  rw [IntKind.wrap_u64]; unfold wrap64; omega
theorem min64 (n : Nat) : min (((64 - n : Nat) : Int)).toNat 64 = 64 - n := by rw [Int.toNat_natCast]; omega
theorem sign_ok (v : Int) (n : Nat) (h1 : 1 ≤ n) (h64 : n ≤ 64) : bits_Sign.f v (n : Int) = some (sgn (halfOf n) v, 0) := by
  unfold bits_Sign.f
  rw [if_neg (by omega), if_neg (by omega), width_ok n h1 h64, if_pos (by omega)]
  unfold shl shr
  rw [show IntKind.u64.bits = 64 from rfl, show IntKind.i64.bits = 64 from rfl, min64, sign_core _ _ _ (Int.pow_pos (by decide)) (half_pos n) (half_mul n h1 h64)]
theorem narrow_ok (m : Nat) (hm : 2 ≤ m) (v : Int) (n : Nat) (h1 : 1 ≤ n) (h64 : n ≤ 64) : bits_Narrow.f m v (n : Int) = some (if -halfOf n ≤ v ∧ v < halfOf n then (v % (2 * halfOf n), true) else (0, false)) := by
  obtain ⟨m, rfl⟩ : ∃ j, m = j + 1 := ⟨m - 1, by omega⟩
  unfold bits_Narrow.f
  rw [if_neg (by omega), decide_eq_false (by omega)]
  simp only [bits_Narrow.j0]
  rw [if_neg (by simp), width_ok n h1 h64, if_pos (by omega)]
  have e : shr .u64 (shl .u64 (IntKind.u64.wrap v) ((64 - n : Nat) : Int)) ((64 - n : Nat) : Int) = v % (2 * halfOf n) := by
    unfold shl shr
    rw [show IntKind.u64.bits = 64 from rfl, min64, low_core _ _ _ (Int.pow_pos (by decide)) (half_pos n) (half_mul n h1 h64)]
  rw [e, sign_ok _ n h1 h64, obind, sgn_mod]
  by_cases h : -halfOf n ≤ v ∧ v < halfOf n
  · rw [if_pos h, if_pos ((sgn_eq (half_pos n)).2 h)]
  · rw [if_neg h, if_neg (fun g => h ((sgn_eq (half_pos n)).1 g))]
theorem narrow_no (m : Nat) (hm : 2 ≤ m) (v n : Int) (h : n < 1 ∨ n > 64) : bits_Narrow.f m v n = some (0, false) := by
  obtain ⟨m, rfl⟩ : ∃ j, m = j + 1 := ⟨m - 1, by omega⟩
  unfold bits_Narrow.f
  by_cases h1 : n < 1
  · rw [if_pos h1]; simp only [bits_Narrow.j0]; rw [if_pos trivial]
  · rw [if_neg h1, decide_eq_true (by omega)]; simp only [bits_Narrow.j0]; rw [if_pos trivial]
/-- The last part: its sign again, and room in more bits. -/
theorem narrows_j3 (m : Nat) (hm : 4 ≤ m) (v : Int) (n : Nat) (h1 : 1 ≤ n) (h64 : n ≤ 64) (u : Int) (ok room : Bool) (hu : (u, ok) = if -halfOf n ≤ v ∧ v < halfOf n then (v % (2 * halfOf n), true) else (0, false)) (hr : room = ok) :
    decklelaw01_BitsNarrows.j3 m v (n : Int) u ok room = some true := by
  obtain ⟨m, rfl⟩ : ∃ j, m = j + 1 := ⟨m - 1, by omega⟩
  subst hr
  simp only [decklelaw01_BitsNarrows.j3]
  rw [if_neg (by simp)]
  by_cases h : -halfOf n ≤ v ∧ v < halfOf n
  · rw [if_pos h] at hu
    obtain ⟨rfl, rfl⟩ := Prod.mk.inj hu
    rw [if_pos rfl]
    have e1 : wrap64 ((n : Int) + 1) = (n : Int) + 1 := w64 (by omega) (by omega)
    obtain ⟨c, hc, hc2⟩ : ∃ c : Nat, mn ((n : Int) + 1) 64 = (c : Int) ∧ n ≤ c ∧ c ≤ 64 := by
      by_cases g : n = 64
      · exact ⟨64, by subst g; rfl, by omega⟩
      · refine ⟨n + 1, ?_, by omega⟩
        unfold mn; split <;> omega
    have hh := half_mono hc2.1
    have hp := half_pos n
    rw [sign_ok _ n h1 h64, obind, e1, hc, narrow_ok m (by omega) v c (by omega) hc2.2, obind, sgn_mod, (sgn_eq hp).2 h]
    rw [if_pos rfl, if_pos rfl, if_pos (show -halfOf c ≤ v ∧ v < halfOf c by omega), if_pos rfl]
    by_cases g : (n : Int) = 64
    · rw [if_pos g]
    · rw [if_neg g]
      have e2 : IntKind.u64.wrap (n : Int) = (n : Int) := u64w (by omega) (by omega)
      rw [e2, if_pos (by omega)]
      congr 1
      rw [beq_iff_eq]
      unfold shr
      rw [show IntKind.u64.bits = 64 from rfl, Int.toNat_natCast, Nat.min_eq_left (by omega), ← half_dvd n h1]
      exact Int.ediv_eq_zero_of_lt (Int.emod_nonneg _ (by omega)) (Int.emod_lt_of_pos _ (by omega))
  · rw [if_neg h] at hu
    obtain ⟨rfl, rfl⟩ := Prod.mk.inj hu
    rw [if_neg (by simp)]; rfl
theorem narrows_j1 (m : Nat) (hm : 6 ≤ m) (v : Int) (n : Nat) (h1 : 1 ≤ n) (h64 : n ≤ 64) (hv : -9223372036854775808 ≤ v ∧ v ≤ 9223372036854775807) (u : Int) (ok room : Bool) (hu : (u, ok) = if -halfOf n ≤ v ∧ v < halfOf n then (v % (2 * halfOf n), true) else (0, false)) (hr : room = decide (n = 64 ∨ v = 0 ∨ v = -1)) :
    decklelaw01_BitsNarrows.j1 m v (n : Int) u ok room = some true := by
  obtain ⟨m, rfl⟩ : ∃ j, m = j + 2 := ⟨m - 2, by omega⟩
  have hok : ok = decide (-halfOf n ≤ v ∧ v < halfOf n) := by
    by_cases h : -halfOf n ≤ v ∧ v < halfOf n
    · rw [if_pos h] at hu; rw [decide_eq_true h]; exact (Prod.mk.inj hu).2
    · rw [if_neg h] at hu; rw [decide_eq_false h]; exact (Prod.mk.inj hu).2
  simp only [decklelaw01_BitsNarrows.j1]
  by_cases g1 : n = 1
  · subst g1
    rw [if_neg (by decide)]
    simp only [decklelaw01_BitsNarrows.j2]
    rw [if_neg (by simp)]
    refine narrows_j3 m (by omega) v 1 h1 h64 u ok room hu ?_
    rw [hr, hok, decide_eq_decide]
    show _ ↔ -(1 : Int) ≤ v ∧ v < 1
    omega
  · rw [if_pos (by omega)]
    by_cases g64 : n = 64
    · subst g64
      rw [decide_eq_false (by decide)]
      simp only [decklelaw01_BitsNarrows.j2]
      rw [if_neg (by simp)]
      refine narrows_j3 m (by omega) v 64 h1 h64 u ok room hu ?_
      rw [hr, hok, decide_eq_decide]
      show _ ↔ -(9223372036854775808 : Int) ≤ v ∧ v < 9223372036854775808
      omega
    · rw [decide_eq_true (by omega)]
      simp only [decklelaw01_BitsNarrows.j2]
      have e1 : IntKind.u64.wrap (wrap64 ((n : Int) - 1)) = ((n - 1 : Nat) : Int) := by rw [IntKind.wrap_u64]; unfold wrap64; omega
      have hle : halfOf n ≤ 4611686018427387904 := half_mono (a := n) (b := 63) (by omega)
      have hp := half_pos n
      have e2 : shl .i64 1 ((n - 1 : Nat) : Int) = halfOf n := by
        unfold shl
        rw [show IntKind.i64.bits = 64 from rfl, Int.toNat_natCast, Nat.min_eq_left (by omega), Int.one_mul]
        show IntKind.i64.wrap (halfOf n) = halfOf n
        rw [show ∀ x : Int, IntKind.i64.wrap x = wrap64 x from fun x => by unfold wrap64; exact IntKind.wrap_i64 x]; exact w64 (x := halfOf n) (by omega) (by omega)
      rw [if_pos trivial, e1, if_pos (by omega), e2]
      rw [w64 (x := halfOf n - 1) (by omega) (by omega), w64 (x := -(halfOf n - 1)) (by omega) (by omega), w64 (x := -(halfOf n - 1) - 1) (by omega) (by omega)]
      by_cases g : v ≤ halfOf n - 1
      · rw [if_pos g]
        refine narrows_j3 m (by omega) v n h1 h64 u ok _ hu ?_
        rw [hok, decide_eq_decide]; omega
      · rw [if_neg g]
        refine narrows_j3 m (by omega) v n h1 h64 u ok _ hu ?_
        rw [hok, decide_eq_false (by omega)]
theorem bitsNarrows_pure (v n : Int) (hv : -9223372036854775808 ≤ v ∧ v ≤ 9223372036854775807) : decklelaw01_BitsNarrows.f 20 v n = some true := by
  unfold decklelaw01_BitsNarrows.f
  rw [works_ok 20 (by omega), obind, if_pos rfl]
  by_cases h : n < 1 ∨ n > 64
  · rw [narrow_no 20 (by omega) v n h, obind]
    have e : ∀ b, b = true → decklelaw01_BitsNarrows.j0 20 v n 0 false b = some true := by
      intro b hb
      subst hb
      simp only [decklelaw01_BitsNarrows.j0]
      rw [if_pos trivial, if_neg (by simp)]; rfl
    by_cases h1 : n < 1
    · rw [if_pos h1]; exact e _ rfl
    · rw [if_neg h1]; exact e _ (decide_eq_true (by omega))
  · obtain ⟨c, rfl⟩ := Int.eq_ofNat_of_zero_le (a := n) (by omega)
    rw [narrow_ok 20 (by omega) v c (by omega) (by omega), obind, if_neg (by omega), decide_eq_false (by omega)]
    generalize hu : (if -halfOf c ≤ v ∧ v < halfOf c then (v % (2 * halfOf c), true) else (0, false)) = p
    obtain ⟨u, ok⟩ := p
    simp only [decklelaw01_BitsNarrows.j0]
    rw [if_neg (by simp)]
    by_cases g : (c : Int) = 64
    · rw [if_pos g]; exact narrows_j1 19 (by omega) v c (by omega) (by omega) hv u ok _ hu.symm (decide_eq_true (by omega)).symm
    · rw [if_neg g]
      by_cases g0 : v = 0
      · rw [if_pos g0]; exact narrows_j1 19 (by omega) v c (by omega) (by omega) hv u ok _ hu.symm (decide_eq_true (by omega)).symm
      · rw [if_neg g0]
        refine narrows_j1 19 (by omega) v c (by omega) (by omega) hv u ok _ hu.symm ?_
        rw [Bool.eq_iff_iff, beq_iff_eq, decide_eq_true_iff]; omega
end Go.Proofs.YtfddegniphmhiaaDoor.Pure
