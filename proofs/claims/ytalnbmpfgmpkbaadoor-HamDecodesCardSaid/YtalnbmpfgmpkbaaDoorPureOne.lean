/- The law HamOne, the pure statement; of bytes that a machine can hold. -/
import Derived.Test.YtalnbmpfgmpkbaaDoorPQx9
import Derived.Test.YtalnbmpfgmpkbaaDoorPureBack
namespace Go.Proofs.YtalnbmpfgmpkbaaDoor.Pure
open Go.RowKit Go.Proofs.YtalnbmpfgmpkbaaDoorW.PrintWords PQ
set_option linter.unusedVariables false
set_option linter.unusedSimpArgs false
theorem flipB_bytes (s : ByteArray) (c : Nat) (h : c / 8 < s.size) : bytesL (flipB s c) = flipL (bytesL s) c := by
  have hi : c / 8 < s.data.toList.length := by rw [Array.length_toList]; exact h
  have h2 : 2 ^ (c % 8) ≤ 2 ^ 7 := Nat.pow_le_pow_right (by decide) (by omega)
  have hx : s.data.toList[c / 8].toNat < 256 := s.data.toList[c / 8].toNat_lt
  have hg : (bytesL s).getD (c / 8) 0 = s.data.toList[c / 8].toNat := by
    unfold bytesL
    rw [List.getD_eq_getElem?_getD, List.getElem?_map, List.getElem?_eq_getElem hi]; rfl
  unfold flipL
  rw [hg]
  unfold flipB bytesL
  rw [List.getD_eq_getElem?_getD, List.getElem?_eq_getElem hi]
  show List.map (·.toNat) (s.data.toList.set (c / 8) _) = _
  rw [List.map_set]
  congr 1
  show (UInt8.ofNat (s.data.toList[c / 8].toNat ^^^ 2 ^ (c % 8))).toNat = _
  rw [UInt8.toNat_ofNat', Nat.mod_eq_of_lt (Nat.xor_lt_two_pow (n := 8) hx (by omega))]
theorem flipB_size (s : ByteArray) (c : Nat) : (flipB s c).size = s.size := by
  unfold flipB ByteArray.size; simp
theorem flipped_ok (s : ByteArray) (k : Int) (h : s.size = 9) : decklelaw03_flipped.f s k = some (flipB s (k % 72).toNat) := by
  unfold decklelaw03_flipped.f; rw [if_pos h]
theorem k72 (k : Int) : (k % 72).toNat < 72 := by omega
/-- One bit of nine bytes turned: what the bits come to, and how many they are. -/
theorem flipB_X (s : ByteArray) (c : Nat) (h : s.size = 9) (hc : c < 72) : X (bytesL (flipB s c)) 72 = X (bytesL s) 72 ^^^ pl c ∧ (C (bytesL (flipB s c)) 72 + C (bytesL s) 72 + 1) % 2 = 0 := by
  have hl : c / 8 < (bytesL s).length := by rw [bytesL_length]; omega
  rw [flipB_bytes s c (by omega)]
  have a := X_flip (bytesL s) c hl 72
  have b := C_flip (bytesL s) c hl 72
  rw [if_pos hc] at a b
  exact ⟨a, b⟩
theorem take_flip_data (s : ByteArray) (c : Nat) (h : s.size = 9) (hc : c < 64) : (flipB s c).extract 0 8 = flipB (s.extract 0 8) c := by
  apply bytesL_inj
  have hz := ex_size s 0 8 (by omega) (by omega)
  rw [bytesL_extract, List.drop_zero, flipB_bytes s c (by omega), flipB_bytes _ c (by omega), bytesL_extract, List.drop_zero]
  unfold flipL
  rw [List.take_set, take_getD _ _ _ (by omega)]
theorem take_flip_check (s : ByteArray) (c : Nat) (h : s.size = 9) (hc : 64 ≤ c) (hc2 : c < 72) : (flipB s c).extract 0 8 = s.extract 0 8 := by
  apply bytesL_inj
  rw [bytesL_extract, List.drop_zero, flipB_bytes s c (by omega), bytesL_extract, List.drop_zero]
  unfold flipL
  rw [List.take_set_of_le (by omega)]
theorem flipB_twice (s : ByteArray) (c : Nat) (h : c / 8 < s.size) : flipB (flipB s c) c = s := by
  apply bytesL_inj
  rw [flipB_bytes _ c (by rw [flipB_size]; exact h), flipB_bytes s c h, flipL_twice _ _ (by rw [bytesL_length]; exact h)]
theorem dec_one (s : ByteArray) (c : Nat) (h : s.size = 8) (hc : c < 72) : decT (flipB (encB s) c) = (s, 3, 0) := by
  obtain ⟨x, e⟩ := enc_X s h
  have h9 := encB_size s h
  obtain ⟨y, f⟩ := flipB_X (encB s) c h9 hc
  have hp := pl_le c hc
  rw [x, Nat.zero_xor] at y
  unfold decT
  rw [if_pos (by omega), y, if_neg (by omega)]
  congr 1
  by_cases hd : c < 64
  · rw [take_flip_data _ c h9 hd, enc_take s h, turnB_at _ _ c hd (pl_data c hd).1.symm (fun j hj e => by
      rw [← (pl_data j (by omega)).1] at e
      have := pl_inj j (by omega) c hc e
      omega), flipB_twice s c (by omega)]
  · rw [take_flip_check _ c h9 (by omega) hc, enc_take s h, turnB_none _ _ (fun j hj e => by
      rw [← (pl_data j hj).1] at e
      have := pl_inj j (by omega) c hc e
      omega)]
theorem hamOne_pure (s : ByteArray) (k : Int) (h : s.size ≤ 140737488351232) : decklelaw03_HamOne.f 20 s k = some true := by
  have z := eightB_size s
  unfold decklelaw03_HamOne.f
  rw [works_ok _ (by omega), obind, if_pos rfl, eight_ok s h, obind, enc_ok, if_pos z, obind, flipped_ok _ _ (encB_size _ z), obind, dec_ok _ (by omega), if_pos (by rw [flipB_size]; exact encB_size _ z), obind, dec_one _ _ z (k72 k), if_pos rfl, if_pos rfl]
  rfl
end Go.Proofs.YtalnbmpfgmpkbaaDoor.Pure
