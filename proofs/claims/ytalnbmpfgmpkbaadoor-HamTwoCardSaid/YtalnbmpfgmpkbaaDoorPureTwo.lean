/- The law HamTwo, the pure statement; of bytes that a machine can hold. -/
import Derived.Test.YtalnbmpfgmpkbaaDoorPQx10
import Derived.Test.YtalnbmpfgmpkbaaDoorPureOne
namespace Go.Proofs.YtalnbmpfgmpkbaaDoor.Pure
open Go.RowKit Go.Proofs.YtalnbmpfgmpkbaaDoorW.PrintWords PQ
set_option linter.unusedVariables false
set_option linter.unusedSimpArgs false
theorem dec_two (s : ByteArray) (c d : Nat) (h : s.size = 8) (hc : c < 72) (hd : d < 72) (hne : c ≠ d) : decT (flipB (flipB (encB s) c) d) = (⟨#[]⟩, 4, 0) := by
  obtain ⟨x, e⟩ := enc_X s h
  have h9 := encB_size s h
  obtain ⟨y, f⟩ := flipB_X (encB s) c h9 hc
  obtain ⟨v, g⟩ := flipB_X (flipB (encB s) c) d (by rw [flipB_size]; exact h9) hd
  rw [x, Nat.zero_xor] at y
  rw [y] at v
  unfold decT
  rw [if_neg (by omega), if_neg]
  intro n
  rw [v] at n
  exact hne (pl_inj c hc d hd (xor_eq_zero n))
theorem hamTwo_pure (s : ByteArray) (k k' : Int) (h : s.size ≤ 140737488351232) : decklelaw03_HamTwo.f 20 s k k' = some true := by
  have z := eightB_size s
  have h9 := encB_size _ z
  unfold decklelaw03_HamTwo.f
  rw [works_ok _ (by omega), obind, if_pos rfl, eight_ok s h, obind, enc_ok, if_pos z, obind, flipped_ok _ _ h9, obind, flipped_ok _ _ (by rw [flipB_size]; exact h9), obind]
  by_cases e : (k % 72).toNat = (k' % 72).toNat
  · rw [← e, flipB_twice _ _ (by have := k72 k; omega), if_pos rfl]
  · by_cases g : (flipB (flipB (encB (eightB s)) (k % 72).toNat) (k' % 72).toNat).toList = (encB (eightB s)).toList
    · rw [if_pos g]
    · rw [if_neg g, dec_ok _ (by omega), if_pos (by rw [flipB_size, flipB_size]; exact h9), obind, dec_two _ _ _ z (k72 k) (k72 k') e, if_pos rfl, if_pos (by rw [Lib.toList_data])]; rfl
end Go.Proofs.YtalnbmpfgmpkbaaDoor.Pure
