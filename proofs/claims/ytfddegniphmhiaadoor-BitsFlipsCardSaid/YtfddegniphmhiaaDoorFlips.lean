/- The bits law Flips, the pure statement: how many bits are 0, and flipped bits, are as the document has them; no condition beyond 64 bits. -/
import Derived.Test.YtfddegniphmhiaaDoorFlip
import Derived.Test.YtfddegniphmhiaaDoorPQx15
import Derived.Test.YtfddegniphmhiaaDoorRefs
import Derived.Test.YtfddegniphmhiaaDoorTwice
namespace Go.Proofs.YtfddegniphmhiaaDoor.Pure
open Go.RowKit Go.Proofs.YtfddegniphmhiaaDoorW.PrintWords PQ
set_option linter.unusedVariables false
set_option linter.unusedSimpArgs false
/-- How many of the last d bits of a byte are 0. -/
def zb (x : Nat) : Nat → Nat
  | 0 => 0
  | d + 1 => (if x / 2 ^ (7 - d) % 2 = 0 then 1 else 0) + zb x d
theorem zb_all : ∀ x < 256, zb x 8 = zeroB x := by decide +kernel
theorem zb_le (x : Nat) : ∀ d, zb x d ≤ d
  | 0 => Nat.le_refl _
  | d + 1 => by
    have := zb_le x d
    show (if x / 2 ^ (7 - d) % 2 = 0 then 1 else 0) + zb x d ≤ d + 1
    split <;> omega
theorem rzeros_l1 (s : ByteArray) (hs : s.size ≤ 1000) (i : Nat) (hi : i < s.size) : ∀ (d m acc : Nat), d ≤ 8 → 70 ≤ m → acc + d ≤ 100000 →
    deckleref01_Zeros.l1 (m + d + 1) s (acc : Int) (i : Int) ((8 - d : Nat) : Int) = deckleref01_Zeros.l0 m s ((acc + zb ((bytesL s).getD i 0) d : Nat) : Int) ((i + 1 : Nat) : Int)
  | 0, m, acc, hd, hm, ha => by
    simp only [deckleref01_Zeros.l1]
    rw [if_neg (by omega), w64 (x := (i : Int) + 1) (by omega) (by omega)]
    rfl
  | d + 1, m, acc, hd, hm, ha => by
    have hb := getD_lt _ (bytesL_lt s) i
    have go := fun acc h => rzeros_l1 s hs i hi d m acc (by omega) hm h
    obtain ⟨M, hM⟩ : ∃ M, M = m + d + 1 := ⟨_, rfl⟩
    rw [← hM] at go
    rw [show m + (d + 1) + 1 = M + 1 from by omega]
    simp only [deckleref01_Zeros.l1]
    rw [if_pos (by omega), if_pos (by omega), if_pos (by omega), bt_nat s i hi, u64w (x := (((bytesL s).getD i 0 : Nat) : Int)) (by omega) (by omega), bit_ok _ (8 - (d + 1)) (by omega) (by omega) M (by omega), obind]
    rw [w64 (x := ((8 - (d + 1) : Nat) : Int) + 1) (by omega) (by omega), w64 (x := (acc : Int) + 1) (by omega) (by omega), show ((8 - (d + 1) : Nat) : Int) + 1 = ((8 - d : Nat) : Int) from by omega, show (acc : Int) + 1 = ((acc + 1 : Nat) : Int) from by omega]
    have e : zb ((bytesL s).getD i 0) (d + 1) = (if (bytesL s).getD i 0 / 2 ^ (8 - (d + 1)) % 2 = 0 then 1 else 0) + zb ((bytesL s).getD i 0) d := by
      rw [show 8 - (d + 1) = 7 - d from by omega]; rfl
    rw [e]
    rcases two_cases ((bytesL s).getD i 0 / 2 ^ (8 - (d + 1))) with h | h
    · rw [h, if_neg (by decide), if_neg (by decide), go acc (by omega), Nat.zero_add]
    · rw [h, if_pos (by decide), if_pos rfl]
      rw [go (acc + 1) (by omega), show acc + 1 + zb ((bytesL s).getD i 0) d = acc + (1 + zb ((bytesL s).getD i 0) d) from by omega]
theorem rzeros_l0 (s : ByteArray) (hs : s.size ≤ 1000) : ∀ (r i m : Nat), s.size - i = r → i ≤ s.size → 70 ≤ m →
    deckleref01_Zeros.l0 (10 * r + m + 1) s ((zeros ((bytesL s).take i) : Nat) : Int) (i : Int) = some ((zeros (bytesL s) : Nat) : Int)
  | 0, i, m, hr, hi, hm => by
    simp only [deckleref01_Zeros.l0]
    rw [if_neg (by omega), List.take_of_length_le (by rw [bytesL_length]; omega)]
  | r + 1, i, m, hr, hi, hm => by
    have ht := take_snoc (bytesL s) i 0 (by rw [bytesL_length]; omega)
    have hz := zeros_append ((bytesL s).take i) [(bytesL s).getD i 0]
    rw [← ht] at hz
    have hz2 : zeros [(bytesL s).getD i 0] = zb ((bytesL s).getD i 0) 8 := by rw [zb_all _ (getD_lt _ (bytesL_lt s) i)]; rfl
    rw [hz2] at hz
    have hle := zeros_le ((bytesL s).take i) (fun b hb => bytesL_lt s b (List.mem_of_mem_take hb))
    rw [List.length_take, bytesL_length] at hle
    have go := rzeros_l0 s hs r (i + 1) m (by omega) (by omega) hm
    simp only [deckleref01_Zeros.l0]
    rw [if_pos (by omega), show 10 * (r + 1) + m = (10 * r + m + 1) + 8 + 1 from by omega]
    have l1 := rzeros_l1 s hs i (by omega) 8 (10 * r + m + 1) (zeros ((bytesL s).take i)) (by omega) (by omega) (by omega)
    rw [← hz] at l1
    exact l1.trans go
theorem rzeros_ok (s : ByteArray) (hs : s.size ≤ 1000) (m : Nat) (hm : 11000 ≤ m) : deckleref01_Zeros.f m s = some ((zeros (bytesL s) : Nat) : Int) := by
  unfold deckleref01_Zeros.f
  have go := rzeros_l0 s hs s.size 0 (m - 10 * s.size - 1) (by omega) (by omega) (by omega)
  rw [show 10 * s.size + (m - 10 * s.size - 1) + 1 = m from by omega] at go
  exact go
theorem flipB_bytes (s : ByteArray) (c : Nat) : bytesL (flipB s c) = flipL (bytesL s) c := by
  unfold bytesL flipB flipL
  rw [List.map_set]
  have e : (s.data.toList.getD (c / 8) 0).toNat = (s.data.toList.map (·.toNat)).getD (c / 8) 0 := by
    rw [List.getD_eq_getElem?_getD, List.getD_eq_getElem?_getD, List.getElem?_map]
    cases s.data.toList[c / 8]? <;> rfl
  have h1 := (s.data.toList.getD (c / 8) 0).toNat_lt
  have h2 : 2 ^ (c % 8) < 256 := Nat.lt_of_lt_of_le (Nat.pow_lt_pow_right (by decide) (Nat.mod_lt c (by decide))) (by decide)
  have h3 : (s.data.toList.getD (c / 8) 0).toNat ^^^ 2 ^ (c % 8) < 256 := Nat.xor_lt_two_pow (n := 8) h1 h2
  congr 1
  rw [UInt8.toNat_ofNat', ← e]
  omega
theorem bitsFlips_pure (s : ByteArray) (c : Int) (hc : -9223372036854775808 ≤ c ∧ c ≤ 9223372036854775807) : decklelaw01_BitsFlips.f 12000 s c = some true := by
  unfold decklelaw01_BitsFlips.f
  rw [works_ok 12000 (by omega), obind]
  by_cases hs : (s.size : Int) > 1000
  · rw [if_pos hs]
  rw [if_neg hs]
  have hs' : s.size ≤ 1000 := by omega
  rw [zeros_ok s hs', rzeros_ok s hs' 12000 (by omega)]
  have hf : ∃ t u a, bits_Flip.f s c = some (t, a) ∧ deckleref01_Flip.f s c = some (u, a) ∧ t.toList = u.toList := by
    by_cases g : 0 ≤ c ∧ c < 8 * s.size
    · obtain ⟨t, f1, b1, z1⟩ := flip_ok s hs' c g.1 g.2
      refine ⟨t, flipB s c.toNat, 0, f1, ?_, ?_⟩
      · unfold deckleref01_Flip.f
        rw [if_neg (by omega), if_neg (by omega), if_pos hs']
      · rw [toList_eq_iff, b1, flipB_bytes]
    · refine ⟨_, _, 1, flip_no s hs' c hc g, ?_, rfl⟩
      unfold deckleref01_Flip.f
      rw [if_neg (by omega), if_pos (by omega)]
  obtain ⟨t, u, a, e1, e2, e3⟩ := hf
  rw [e1, obind, e2, obind, obind, obind, if_pos rfl, if_pos e3, if_pos rfl]
end Go.Proofs.YtfddegniphmhiaaDoor.Pure
