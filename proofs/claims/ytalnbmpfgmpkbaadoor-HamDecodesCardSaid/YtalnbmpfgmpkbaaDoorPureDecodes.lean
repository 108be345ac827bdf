/- The law HamDecodes, the pure statement; no condition. -/
import Derived.Test.YtalnbmpfgmpkbaaDoorPQx8
import Derived.Test.YtalnbmpfgmpkbaaDoorPureOne
import Derived.Test.YtalnbmpfgmpkbaaDoorPureRef
namespace Go.Proofs.YtalnbmpfgmpkbaaDoor.Pure
open Go.RowKit Go.Proofs.YtalnbmpfgmpkbaaDoorW.PrintWords PQ
set_option linter.unusedVariables false
set_option linter.unusedSimpArgs false
theorem flip_ok (s : ByteArray) (i : Nat) (h : s.size = 9) (hi : i < 64) : deckleref01_Flip.f s (i : Int) = some (flipB s i, 0) := by
  have c1 : ¬ (((i : Nat) : Int) < -9223372036854775808 ∨ 9223372036854775807 < ((i : Nat) : Int)) := by omega
  have c2 : ¬ (((i : Nat) : Int) < 0 ∨ ((s.size : Nat) : Int) ≤ ((i : Nat) : Int) / 8) := by omega
  unfold deckleref01_Flip.f
  rw [if_neg c1, if_neg c2, if_pos (by omega), Int.toNat_natCast]
theorem rdec_step (s : ByteArray) (p i m : Nat) (r : Option (ByteArray × Int × Int)) (h : s.size = 9) (hi : i < 64) (h1 : pl i = p → some (flipB (s.extract 0 8) i, 3, 0) = r) (h0 : ¬ pl i = p → deckleref03_Decode.l0 m s (p : Int) plI ((i + 1 : Nat) : Int) = r) :
    deckleref03_Decode.l0 (m + 1) s (p : Int) plI (i : Int) = r := by
  have eI : wrap64 ((i : Int) + 1) = ((i + 1 : Nat) : Int) := by rw [w64 (by omega) (by omega)]; rfl
  have c1 : ((i : Nat) : Int) < 64 := by omega
  have c2 : ((i : Nat) : Int) < ((plI.length : Nat) : Int) := by rw [plI_length]; omega
  have hf := flip_ok s i h hi
  have hz : (8 : Int) ≤ (((flipB s i).size : Nat) : Int) := by rw [flipB_size, h]; decide
  have ht := take_flip_data s i h hi
  simp only [deckleref03_Decode.l0]
  rw [if_pos c1, if_pos (Int.natCast_nonneg i), if_pos c2, rd_pl, eI]
  by_cases e : pl i = p
  · rw [if_pos (congrArg Nat.cast e), hf, obind, if_pos (by decide), if_pos hz, ← h1 e, ht]
  · rw [if_neg (fun x => e (Int.ofNat_inj.1 x))]; exact h0 e
theorem rdec_l0 (s : ByteArray) (h : s.size = 9) (p : Nat) (d : Nat) : ∀ (i m : Nat), 64 - i = d → i ≤ 64 → d < m → (∀ j, j < i → placeN j ≠ p) → deckleref03_Decode.l0 m s (p : Int) plI (i : Int) = some (turnB (s.extract 0 8) p, 3, 0) := by
  induction d with
  | zero =>
    intro i m h1 h2 hm hj
    obtain ⟨m, rfl⟩ : ∃ j, m = j + 1 := ⟨m - 1, by omega⟩
    have c1 : ¬ ((i : Nat) : Int) < 64 := by omega
    have c2 : (8 : Int) ≤ ((s.size : Nat) : Int) := by omega
    simp only [deckleref03_Decode.l0]
    rw [if_neg c1, if_pos (by decide), if_pos c2, turnB_none _ _ fun j hj' => hj j (by omega)]
  | succ d ih =>
    intro i m h1 h2 hm hj
    obtain ⟨m, rfl⟩ : ∃ j, m = j + 1 := ⟨m - 1, by omega⟩
    have hi : i < 64 := by omega
    have hp := (pl_data i hi).1
    refine rdec_step s p i m _ h hi (fun e => ?_) (fun e => ?_)
    · rw [turnB_at _ p i hi (by rw [← hp]; exact e) hj]
    · refine ih (i + 1) m (by omega) (by omega) (by omega) (fun j hj' => ?_)
      by_cases g : j = i
      · rw [g, ← hp]; exact e
      · exact hj j (by omega)
theorem rdec_ok (m : Nat) (hm : 300 ≤ m) (s : ByteArray) : deckleref03_Decode.f m s = some (if s.size = 9 then decT s else (⟨#[]⟩, 0, 4)) := by
  unfold deckleref03_Decode.f
  by_cases h : s.size = 9
  · have e1 := rbits_ok s (by omega) m (by omega)
    rw [h] at e1
    replace e1 : deckleref03_Bits.f m s = some (blI (bytesL s) 72) := e1
    have e2 := rleft_bl (bytesL s) m (by omega)
    have e3 : deckleref03_Places.f m = some plI := places_ok m (by omega)
    have hlen := blI_length (bytesL s) 72
    have go := rdec_l0 s h (X (bytesL s) 72) 64 0 m (by omega) (by omega) (by omega) (fun j hj => absurd hj (by omega))
    have c1 : ((s.size : Nat) : Int) = 9 := by omega
    have c2 : (8 : Int) ≤ ((s.size : Nat) : Int) := by omega
    rw [if_pos c1, e1, obind, e2, obind, hlen, e3, if_pos h, obind]
    unfold decT
    clear e1 e2 e3 hlen
    have go' : deckleref03_Decode.l0 m s ((X (bytesL s) 72 : Nat) : Int) plI 0 = some (turnB (s.extract 0 8) (X (bytesL s) 72), 3, 0) := go
    rw [go']
    clear go go'
    generalize X (bytesL s) 72 = xv
    generalize C (bytesL s) 72 = cv
    by_cases p : cv % 2 = 1
    · rw [if_neg (by omega), if_pos p]
      by_cases q : 71 < xv
      · rw [if_pos (by omega), if_pos q]
      · rw [if_neg (by omega), if_neg q]
    · rw [if_pos (by omega), if_neg p]
      by_cases q : xv = 0
      · rw [if_pos (by omega), if_pos (by decide), if_pos c2, if_pos q]
      · rw [if_neg (by omega), if_neg q]
  · have c1 : ¬ ((s.size : Nat) : Int) = 9 := by omega
    rw [if_neg c1, if_neg h]
theorem hamDecodes_pure (s : ByteArray) : decklelaw03_HamDecodes.f 400 s = some true := by
  unfold decklelaw03_HamDecodes.f
  rw [works_ok 400 (by omega), obind, dec_ok 400 (by omega), obind, rdec_ok 400 (by omega), obind, if_pos rfl, if_pos rfl, if_pos rfl, ite_self]
end Go.Proofs.YtalnbmpfgmpkbaaDoor.Pure
