/- The contract of bits.Put: a number's bytes, the lowest first, or the code for what is out of range; of numbers of 64 bits. -/
import Derived.Test.YtpghddanjlbcaaaPut
import Derived.Test.YtpghddanjlbcaaaWWords
import Derived.Shelf.Strings.BuilderK
import Derived.WalkKit
import Derived.WalkSpells
import Derived.LoopTactic
import Derived.Lib.Hide
set_option linter.unusedVariables false
set_option linter.unusedSimpArgs false
namespace Go.Proofs.Ytpghddanjlbcaaa.PQ
open Go.RowKit Go.Proofs.YtpghddanjlbcaaaW.PrintWords
def putL (n v : Nat) : List UInt8 := (List.range n).map fun j => UInt8.ofNat (v / 256 ^ j)
theorem putL_succ (n v : Nat) : putL (n + 1) v = putL n v ++ [UInt8.ofNat (v / 256 ^ n)] := by
  unfold putL; rw [List.range_succ, List.map_append]; rfl
theorem putL_length (n v : Nat) : (putL n v).length = n := by simp [putL]
theorem byte_of (x : Nat) : ((x : Int) % 256) = (((UInt8.ofNat x).toNat : Nat) : Int) := by
  rw [UInt8.toNat_ofNat']; omega
theorem div_step (v k : Nat) : v / 256 ^ k / 256 = v / 256 ^ (k + 1) := by
  rw [Nat.div_div_eq_div_mul, Nat.pow_succ]
set_option maxHeartbeats 2000000 in
set_option maxRecDepth 100000 in
theorem put_good (n v : Nat) (w : World) (hn : 1 ≤ n) (hn8 : n ≤ 8) (hv : v < 18446744073709551616) (hc : n = 8 ∨ n < 8 ∧ (((v : Nat) : Int) / 2 ^ (n * 8) != 0) = false) :
    Calls Try.prog 19 #[.int .u64 (v : Int), .int .i64 (n : Int)] w fun e w' => e = .returned (.tuple #[.string ⟨(putL n v).toArray⟩, .int .i64 0]) ∧ Below w.heap.size w w' := by
  clear hv
  have a1 : (1 : Int) ≤ (n : Int) := by omega
  have a8 : (n : Int) ≤ 8 := by omega
  rcases hc with h | ⟨h, g⟩
  case' inl => have h8 : (8 : Int) ≤ (n : Int) := by omega
  case' inr => have h8 : (n : Int) < 8 := by omega
  all_goals
    clear h
    go_enter Try.func19, Try.ntmps19
    go_wp2
    go_loopw [0, 26] (fun x i wr => ∃ k : Nat, k ≤ n ∧ i = .int .i64 k ∧ x = .int .u64 ((v / 256 ^ k : Nat) : Int) ∧ Lib.IsBuilderF 46 5 w.heap.size w.heap.size (Lib.byteCells (putL k v)) wr ∧ Below w.heap.size w wr) (fun _ i _ => n - (intOf i).toNat)
    case atStart => exact ⟨0, Nat.zero_le _, rfl, by simp, Lib.IsBuilderF.of (Lib.fresh_isBuilder 46 5 w), (Below.refl _ w).alloc (Nat.le_refl _) _⟩
    case round =>
      obtain ⟨k, hk, rfl, rfl, hI, hb⟩ := hrel
      have hBw := hb.size
      by_cases hlt : k < n
      · have hX : v / 256 ^ k ≤ v := Nat.div_le_self _ _
        have hs := div_step v k
        have hp := putL_succ k v
        have hl : (Lib.byteCells (putL k v)).length + 1 ≤ 140737488355328 := by rw [Lib.byteCells_length, putL_length]; omega
        replace hs := Lib.hid hs
        replace hp := Lib.hid hp
        obtain ⟨X, eX⟩ : ∃ X, X = v / 256 ^ k := ⟨_, rfl⟩
        rw [← eX] at hX hs hp
        simp only [← eX]
        replace eX := Lib.hid eX
        go_wp2_with (go_at_call 23; refine (writeByte_any w.heap.size w.heap.size _ _ _ hI hl hBw).mono ?_)
        rintro e W1 ⟨rfl, h1, b1⟩
        go_wp2
        go_roundw
        case rel =>
          refine ⟨k + 1, by omega, by go_num, ?_, Or.inr ?_, hb.trans b1⟩
          · rw [← hs.out]; go_num
          · rw [hp.out, Lib.byteCells_append]
            have : Lib.byteCells [UInt8.ofNat X] = [.int .u8 ((X : Int) % 256)] := by rw [byte_of]; rfl
            rw [this]
            exact h1
        case measure => simp [intOf]; omega
      · have : k = n := by omega
        subst this
        go_wp2_with (go_at_call 24; refine (Try.Builder_String_any_f w.heap.size w.heap.size _ _ hI hBw).mono ?_)
        rintro e W1 ⟨rfl, _, b1⟩
        go_wp2
        go_ret2
        exact ⟨rfl, hb.trans b1⟩
set_option maxHeartbeats 2000000 in
set_option maxRecDepth 100000 in
theorem put_bad (n : Int) (v : Nat) (w : World) (hv : v < 18446744073709551616) (hc : n < 1 ∨ 8 < n ∨ 1 ≤ n ∧ n < 8 ∧ (((v : Nat) : Int) / 2 ^ (n.toNat * 8) != 0) = true) :
    Calls Try.prog 19 #[.int .u64 (v : Int), .int .i64 n] w fun e w' => e = .returned (.tuple #[.string ⟨#[]⟩, .int .i64 1]) ∧ Below w.heap.size w w' := by
  clear hv
  rcases hc with h | h | ⟨h1, h2, g⟩
  · go_enter Try.func19, Try.ntmps19
    go_wp2
    go_ret2
    exact ⟨rfl, Below.refl _ _⟩
  · have h1 : ¬ n < 1 := by omega
    go_enter Try.func19, Try.ntmps19
    go_wp2
    go_ret2
    exact ⟨rfl, Below.refl _ _⟩
  · obtain ⟨m, rfl⟩ := Int.eq_ofNat_of_zero_le (show 0 ≤ n by omega)
    rw [Int.toNat_natCast] at g
    go_enter Try.func19, Try.ntmps19
    go_wp2
    go_ret2
    exact ⟨rfl, Below.refl _ _⟩
theorem pow_256 (n : Nat) : (256 : Nat) ^ n = 2 ^ (n * 8) := by
  rw [Nat.mul_comm, Nat.pow_mul]
theorem div_test (v n : Nat) : ((((v : Nat) : Int) / 2 ^ (n * 8) != 0) = false) ↔ v < 256 ^ n := by
  have e : ((v : Nat) : Int) / 2 ^ (n * 8) = ((v / 2 ^ (n * 8) : Nat) : Int) := by
    rw [Int.natCast_ediv, Int.natCast_pow]; rfl
  rw [e, pow_256, bne_eq_false_iff_eq]
  constructor
  · intro h
    have : v / 2 ^ (n * 8) = 0 := by omega
    exact (Nat.div_eq_zero_iff_lt (Nat.two_pow_pos _)).1 this
  · intro h
    rw [Nat.div_eq_of_lt h]; rfl
theorem bits_Put.calls (a0 a1 : Int) (r1 : ByteArray) (r2 : Int) (w : World) (h : bits_Put.f a0 a1 = some (r1, r2)) :
    Calls Try.prog 19 #[.int .u64 a0, .int .i64 a1] w fun e w' => e = .returned (.tuple #[.string r1, .int .i64 r2]) ∧ Below w.heap.size w w' := by
  unfold bits_Put.f at h
  split at h
  case isFalse => cases h
  case isTrue hb =>
  obtain ⟨v, rfl⟩ := Int.eq_ofNat_of_zero_le hb.1
  have hv : v < 18446744073709551616 := by omega
  split at h
  case isTrue hn =>
    have h2 := Option.some.inj h
    injection h2 with e1 e2
    subst e1; subst e2
    exact put_bad a1 v w hv (by omega)
  case isFalse hn =>
    obtain ⟨n, rfl⟩ := Int.eq_ofNat_of_zero_le (show 0 ≤ a1 by omega)
    rw [Int.toNat_natCast, Int.toNat_natCast] at h
    split at h
    case isTrue hl =>
      have h2 := Option.some.inj h
      injection h2 with e1 e2
      subst e1; subst e2
      refine put_good n v w (by omega) (by omega) hv ?_
      by_cases h8 : n = 8
      · exact .inl h8
      · exact .inr ⟨by omega, (div_test v n).2 hl⟩
    case isFalse hl =>
      have h2 := Option.some.inj h
      injection h2 with e1 e2
      subst e1; subst e2
      have h8 : n < 8 := by
        rcases Nat.lt_or_ge n 8 with h8 | h8
        · exact h8
        · have : n = 8 := by omega
          subst this
          exact absurd (show v < 256 ^ 8 by omega) hl
      refine put_bad n v w hv (.inr (.inr ⟨by omega, by omega, ?_⟩))
      rw [Int.toNat_natCast]
      cases hb2 : (((v : Nat) : Int) / 2 ^ (n * 8) != 0) with
      | true => rfl
      | false => exact absurd ((div_test v n).1 hb2) hl
end Go.Proofs.Ytpghddanjlbcaaa.PQ
