/- The contract of crc.More: the state behind bytes is the fold of the division's steps; where the table lies as laid, the state is a number of 32 bits and the text is shorter than 2^60 bytes. -/
import Derived.Test.YtogohafdkpibdaaDoorTabs
import Derived.Test.YtogohafdkpibdaaDoorMath
import Derived.WalkSpells
import Derived.WalkLawsBesides
import Derived.Laws.BitsAllLaws
import Derived.LoopTactic
import Derived.Lib.Hide
namespace Go.Proofs.YtogohafdkpibdaaDoor.PQ
open Go.RowKit Go.Proofs.YtogohafdkpibdaaDoorW.PrintWords

def bytesL (s : ByteArray) : List Nat := s.data.toList.map (·.toNat)
def crc_More.f (a0 : Int) (a1 : ByteArray) : Option Int :=
  if 0 ≤ a0 ∧ a0 < 4294967296 ∧ a1.size ≤ 1152921504606846976 then some (CrcMath.more a0.toNat (bytesL a1) : Nat) else none

theorem tab_nib (n : Nat) (h : n < 16) : tabZ.getD n 0 = (CrcMath.tab n : Nat) := by
  have : ∀ n < 16, tabZ.getD n 0 = (CrcMath.tab n : Nat) := by decide
  exact this n h
theorem bytesL_take (s : ByteArray) (k : Nat) (h : k < s.size) : (bytesL s).take (k + 1) = (bytesL s).take k ++ [s[k].toNat] := by
  unfold bytesL
  rw [List.take_succ_eq_append_getElem (by simpa using h)]
  simp
  rfl
theorem more_take (s : ByteArray) (s0 k : Nat) (h : k < s.size) : CrcMath.more s0 ((bytesL s).take (k + 1)) = CrcMath.byte (CrcMath.more s0 ((bytesL s).take k)) s[k].toNat := by
  rw [bytesL_take s k h, CrcMath.more_append]; rfl
theorem bytesL_lt (s : ByteArray) : ∀ b ∈ bytesL s, b < 256 := by
  intro b hb
  unfold bytesL at hb
  obtain ⟨c, _, rfl⟩ := List.mem_map.1 hb
  exact c.toNat_lt
/-- One half byte, as the machine spells it. -/
theorem half (x : Nat) (hx : x < 4294967296) : ∃ (n y : Nat) (t : Int), n < 16 ∧ y = CrcMath.stN 4 x ∧ y < 4294967296 ∧ (∀ w, Tabs w → w.cell? ⟨0, n, none⟩ = some (.int .u32 t)) ∧ bits .and .u32 (x : Int) 15 = (n : Int) ∧ bits .xor .u32 t ((x : Int) / 16) = (y : Int) := by
  refine ⟨x % 16, CrcMath.stN 4 x, tabZ.getD (x % 16) 0, by omega, rfl, CrcMath.stN_lt 4 hx, fun w h => h.cell _ (by omega), ?_, ?_⟩
  · have := u32_and_nat x 15 hx (by decide)
    rw [show ((15 : Nat) : Int) = 15 from rfl] at this
    rw [this]
    congr 1
    exact Nat.and_two_pow_sub_one_eq_mod x 4
  · rw [tab_nib _ (by omega), show (x : Int) / 16 = ((x / 16 : Nat) : Int) from by omega, u32_xor_nat (CrcMath.tab (x % 16)) _ (CrcMath.stN_lt 4 (by omega)) (by omega)]
    rw [CrcMath.nib x]
theorem first_xor (x b : Nat) (hx : x < 4294967296) (hb : b < 256) : ∃ y : Nat, y = x ^^^ b ∧ y < 4294967296 ∧ bits .xor .u32 (x : Int) (b : Int) = (y : Int) :=
  ⟨x ^^^ b, rfl, Nat.xor_lt_two_pow (n := 32) hx (by omega), u32_xor_nat x b hx (by omega)⟩

set_option maxHeartbeats 1000000 in
theorem crc_More.calls (a0 : Int) (a1 : ByteArray) (r : Int) (w : World) (hT : Aside0 (Tabs w)) (h : crc_More.f a0 a1 = some r) :
    Calls Tryd.prog 10 #[.int .u32 a0, .string a1] w fun e w' => e = .returned (.int .u32 r) ∧ Drawn0 w w' := by
  unfold crc_More.f at h
  split at h
  case isFalse => cases h
  case isTrue hb =>
  obtain ⟨h0, h1, hs⟩ := hb
  obtain ⟨s0, rfl⟩ := Int.eq_ofNat_of_zero_le h0
  obtain rfl := Option.some.inj h
  have hs0 : s0 < 4294967296 := by omega
  clear h h0 h1
  rw [Int.toNat_natCast]
  go_enter Tryd.func10, Tryd.ntmps10
  go_wp2
  go_loop [0, 8] (fun s i => ∃ k : Nat, k ≤ a1.size ∧ i = .int .i64 k ∧ s = .int .u32 (CrcMath.more s0 ((bytesL a1).take k) : Nat)) (fun _ i => a1.size - (intOf i).toNat)
  case atStart => exact ⟨0, Nat.zero_le _, rfl, by simp [CrcMath.more]⟩
  case round =>
    obtain ⟨k, hk, rfl, rfl⟩ := hrel
    by_cases hlt : k < a1.size
    · have hm := more_take a1 s0 k hlt
      have hS : CrcMath.more s0 ((bytesL a1).take k) < 4294967296 := CrcMath.more_lt _ hs0 (fun b hb => bytesL_lt a1 b (List.mem_of_mem_take hb))
      generalize CrcMath.more s0 ((bytesL a1).take k) = S at hm hS ⊢
      have hB : a1[k].toNat < 256 := a1[k].toNat_lt
      obtain ⟨x1, e1, b1, q1⟩ := first_xor S a1[k].toNat hS hB
      obtain ⟨n1, x2, t1, m1, e2, b2, c1, q2, q3⟩ := half x1 b1
      obtain ⟨n2, x3, t2, m2, e3, b3, c2, q4, q5⟩ := half x2 b2
      replace c1 := c1 w hT.out
      replace c2 := c2 w hT.out
      have HS : Hid (x3 = CrcMath.more s0 ((bytesL a1).take (k + 1))) := Lib.hid (by rw [hm, e3, e2, e1, ← CrcMath.nib2]; rfl)
      clear hm e1 e2 e3
      go_wp2
      go_round
      case rel => exact ⟨k + 1, by omega, by go_num, by rw [HS.out]⟩
      case measure => simp [intOf]; omega
    · have hS : (bytesL a1).take k = bytesL a1 := List.take_of_length_le (by unfold bytesL; simp; omega)
      rw [hS]
      go_wp2
      go_ret
      exact ⟨rfl, Drawn0.refl _⟩
end Go.Proofs.YtogohafdkpibdaaDoor.PQ
