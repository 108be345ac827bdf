/- The law HamBack, the pure statement; of bytes that a machine can hold. -/
import Derived.Test.YtalnbmpfgmpkbaaDoorPQx8
import Derived.Test.YtalnbmpfgmpkbaaDoorPureHam
namespace Go.Proofs.YtalnbmpfgmpkbaaDoor.Pure
open Go.RowKit Go.Proofs.YtalnbmpfgmpkbaaDoorW.PrintWords PQ
set_option linter.unusedVariables false
set_option linter.unusedSimpArgs false
def eightB (s : ByteArray) : ByteArray := (s ++ (⟨#[0, 0, 0, 0, 0, 0, 0, 0]⟩ : ByteArray)).extract 0 8
theorem eightB_size (s : ByteArray) : (eightB s).size = 8 := by
  unfold eightB
  rw [ex_size _ 0 8 (by omega) (by rw [ByteArray.size_append]; show 8 ≤ s.size + 8; omega)]
theorem eight_ok (s : ByteArray) (h : s.size ≤ 140737488351232) : decklelaw03_eight.f s = some (eightB s) := by
  unfold decklelaw03_eight.f eightB
  rw [if_pos (by omega), if_pos (by decide), if_pos (by rw [ByteArray.size_append]; show (8 : Int) ≤ ((s.size + 8 : Nat) : Int); omega)]
theorem hamBack_pure (s : ByteArray) (h : s.size ≤ 140737488351232) : decklelaw03_HamBack.f 20 s = some true := by
  have z := eightB_size s
  unfold decklelaw03_HamBack.f
  rw [works_ok _ (by omega), obind, if_pos rfl, eight_ok s h, obind, enc_ok, if_pos z, obind, dec_ok _ (by omega), if_pos (encB_size _ z), obind, dec_enc _ z, if_pos rfl, if_pos rfl, if_pos (by rw [encB_size _ z]; rfl), if_pos rfl]
  rfl
end Go.Proofs.YtalnbmpfgmpkbaaDoor.Pure
