/- The contract of bits.Zeros: how many bits of a text's bytes are 0; where the table lies as laid and the text is shorter than 2^57 bytes. -/
import Derived.Test.YtfddegniphmhiaaDoorTabs
import Derived.WalkSpells
import Derived.WalkLawsBesides
import Derived.Laws.BitsAllLaws
import Derived.LoopTactic
import Derived.Lib.Hide
import Derived.Deep.QuietTactic
import Derived.BigQuiet
namespace Go.Proofs.YtfddegniphmhiaaDoor.PQ
open Go.RowKit Go.Proofs.YtfddegniphmhiaaDoorW.PrintWords
def bytesL (s : ByteArray) : List Nat := s.data.toList.map (·.toNat)
/-- The zeros of half a byte. -/
def nibN (n : Nat) : Nat := (tabZ.getD n 0).toNat
def zeroB (b : Nat) : Nat := nibN (b % 16) + nibN (b / 16)
def zeros : List Nat → Nat
  | [] => 0
  | b :: l => zeroB b + zeros l
def bits_Zeros.f (a0 : ByteArray) : Option Int := if a0.size ≤ 144115188075855872 then some ((zeros (bytesL a0) : Nat) : Int) else none
theorem tab_nib (n : Nat) (h : n < 16) : tabZ.getD n 0 = (nibN n : Int) ∧ nibN n ≤ 4 := by
  have : ∀ n < 16, tabZ.getD n 0 = (nibN n : Int) ∧ nibN n ≤ 4 := by decide
  exact this n h
theorem zeros_append : ∀ a b : List Nat, zeros (a ++ b) = zeros a + zeros b
  | [], b => by simp [zeros]
  | x :: a, b => by
    show zeroB x + zeros (a ++ b) = zeroB x + zeros a + zeros b
    rw [zeros_append a b]; omega
theorem bytesL_take (s : ByteArray) (k : Nat) (h : k < s.size) : (bytesL s).take (k + 1) = (bytesL s).take k ++ [s[k].toNat] := by
  unfold bytesL
  rw [List.take_succ_eq_append_getElem (by simpa using h)]
  simp
  rfl
theorem zeros_take (s : ByteArray) (k : Nat) (h : k < s.size) : zeros ((bytesL s).take (k + 1)) = zeros ((bytesL s).take k) + zeroB s[k].toNat := by
  rw [bytesL_take s k h, zeros_append]; rfl
theorem zeroB_le (b : Nat) (h : b < 256) : zeroB b ≤ 8 := by
  have h1 := (tab_nib (b % 16) (by omega)).2
  have h2 := (tab_nib (b / 16) (by omega)).2
  unfold zeroB; omega
theorem zeros_le : ∀ l : List Nat, (∀ b ∈ l, b < 256) → zeros l ≤ 8 * l.length
  | [], _ => by simp [zeros]
  | b :: l, h => by
    have := zeros_le l fun c hc => h c (List.mem_cons_of_mem _ hc)
    have := zeroB_le b (h b (List.mem_cons_self ..))
    show zeroB b + zeros l ≤ 8 * (l.length + 1)
    omega
theorem bytesL_lt0 (s : ByteArray) : ∀ b ∈ bytesL s, b < 256 := by
  intro b hb
  unfold bytesL at hb
  obtain ⟨c, _, rfl⟩ := List.mem_map.1 hb
  exact c.toNat_lt
/-- The two half bytes, as the machine spells them. -/
theorem halves (x : Nat) (hx : x < 256) : ∃ (n m : Nat) (t u : Nat), n < 16 ∧ m < 16 ∧ t ≤ 4 ∧ u ≤ 4 ∧ t + u = zeroB x ∧ (∀ w, Tabs w → w.cell? ⟨0, n, none⟩ = some (.int .i64 (t : Int))) ∧ (∀ w, Tabs w → w.cell? ⟨0, m, none⟩ = some (.int .i64 (u : Int))) ∧ bits .and .u8 (x : Int) 15 = (n : Int) ∧ (x : Int) / 16 = (m : Int) := by
  refine ⟨x % 16, x / 16, nibN (x % 16), nibN (x / 16), by omega, by omega, (tab_nib _ (by omega)).2, (tab_nib _ (by omega)).2, rfl, fun w h => ?_, fun w h => ?_, ?_, by omega⟩
  · rw [← (tab_nib _ (by omega)).1]; exact h.cell _ (by omega)
  · rw [← (tab_nib _ (by omega)).1]; exact h.cell _ (by omega)
  · have := u8_and_nat x 15 hx (by decide)
    rw [show ((15 : Nat) : Int) = 15 from rfl] at this
    rw [this]
    congr 1
    exact Nat.and_two_pow_sub_one_eq_mod x 4
set_option maxHeartbeats 1000000 in
theorem bits_Zeros.calls (a0 : ByteArray) (r : Int) (w : World) (hT : Aside0 (Tabs w)) (h : bits_Zeros.f a0 = some r) :
    Calls Tryd.prog 19 #[.string a0] w fun e w' => e = .returned (.int .i64 r) ∧ Drawn0 w w' := by
  unfold bits_Zeros.f at h
  split at h
  case isFalse => cases h
  case isTrue hs =>
  obtain rfl := Option.some.inj h
  clear h
  go_enter Tryd.func19, Tryd.ntmps19
  go_wp2
  go_loopw [3, 7] (fun s i wr => ∃ k : Nat, k ≤ a0.size ∧ i = .int .i64 k ∧ s = .int .i64 ((zeros ((bytesL a0).take k) : Nat) : Int) ∧ Drawn0 w wr) (fun _ i _ => a0.size - (intOf i).toNat)
  case atStart => exact ⟨0, Nat.zero_le _, rfl, by simp [zeros], Drawn0.refl _⟩
  case round =>
    obtain ⟨k, hk, rfl, rfl, hd⟩ := hrel
    by_cases hlt : k < a0.size
    · have hm := zeros_take a0 k hlt
      have hle := zeros_le ((bytesL a0).take k) (fun b hb => bytesL_lt0 a0 b (List.mem_of_mem_take hb))
      rw [List.length_take] at hle
      have hle : zeros ((bytesL a0).take k) ≤ 1152921504606846976 := by omega
      generalize zeros ((bytesL a0).take k) = S at hm hle ⊢
      have hB : a0[k].toNat < 256 := a0[k].toNat_lt
      obtain ⟨n1, n2, t1, t2, m1, m2, l1, l2, et, c1, c2, q1, q2⟩ := halves a0[k].toNat hB
      replace c1 := c1 _ (tabs_below hT.out hd.below)
      replace c2 := c2 _ (tabs_below hT.out hd.below)
      obtain ⟨Z, hZ⟩ : ∃ Z, Z = zeros ((bytesL a0).take (k + 1)) := ⟨_, rfl⟩
      rw [← hZ] at hm
      have g3 : wrap64 ((S : Int) + ((t1 : Int) + (t2 : Int))) = (Z : Int) := by unfold wrap64; omega
      replace hZ := Lib.hid hZ
      clear hm et hle
      go_wp2
      go_quiet (fail)
      go_wp2
      go_roundw
      case rel => exact ⟨k + 1, by omega, by go_num, by rw [← hZ.out, g3], hd.step _⟩
      case measure => simp [intOf]; omega
    · have hS : (bytesL a0).take k = bytesL a0 := List.take_of_length_le (by unfold bytesL; simp; omega)
      rw [hS]
      go_wp2
      go_ret
      exact ⟨rfl, hd⟩
end Go.Proofs.YtfddegniphmhiaaDoor.PQ
