/- The law HamEncodes, the pure statement; no condition. -/
import Derived.Test.YtalnbmpfgmpkbaaDoorPQx6
import Derived.Test.YtalnbmpfgmpkbaaDoorPureRef
namespace Go.Proofs.YtalnbmpfgmpkbaaDoor.Pure
open Go.RowKit Go.Proofs.YtalnbmpfgmpkbaaDoorW.PrintWords PQ
set_option linter.unusedVariables false
set_option linter.unusedSimpArgs false
def cnt (P : Nat) : Nat → Nat
  | 0 => 0
  | d + 1 => (if P.testBit (6 - d) then 1 else 0) + cnt P d
theorem cnt_ones : ∀ P < 128, cnt P 7 = onesN P := by decide +kernel
theorem u64_small (P : Nat) (h : P < 256) : IntKind.u64.wrap (P : Int) = (P : Int) := IntWalk.u64_in _ ⟨by omega, by omega⟩
theorem renc_step (s : ByteArray) (P : Nat) (L : List Int) (k m : Nat) (r : Option (ByteArray × Int)) (hP : P < 128) (hk : k < 7) (hm : 70 ≤ m) (hlen : L.length < 17592186044416)
    (h1 : P.testBit k = true → deckleref03_Encode.l0 m s (P : Int) (L ++ [wrap64 (64 + (k : Int))]) ((k + 1 : Nat) : Int) = r) (h0 : P.testBit k = false → deckleref03_Encode.l0 m s (P : Int) L ((k + 1 : Nat) : Int) = r) : deckleref03_Encode.l0 (m + 1) s (P : Int) L (k : Int) = r := by
  have eI : wrap64 ((k : Int) + 1) = ((k + 1 : Nat) : Int) := by rw [w64 (by omega) (by omega)]; rfl
  have hb := bit_ok m hm P k (by omega) (by omega)
  have c1 : ((k : Nat) : Int) < 7 := by omega
  have hu := u64_small P (by omega)
  simp only [deckleref03_Encode.l0]
  rw [if_pos c1, hu, hb, obind, eI]
  cases e : P.testBit k with
  | true => rw [if_pos rfl, if_pos rfl, if_pos hlen]; exact h1 e
  | false => rw [if_neg (by decide)]; exact h0 e
theorem renc_l0 (s : ByteArray) (hs : s.size = 8) (P : Nat) (hP : P < 128) (d : Nat) : ∀ (k m : Nat) (L : List Int), 7 - k = d → k ≤ 7 → 100 + d < m → L.length + d ≤ 100 → deckleref03_Encode.l0 m s (P : Int) L (k : Int) = some (s ++ strOfNums [((P + 128 * ((L.length + cnt P d) % 2) : Nat) : Int)], 0) := by
  induction d with
  | zero =>
    intro k m L h1 h2 hm hl
    obtain ⟨m, rfl⟩ : ∃ j, m = j + 1 := ⟨m - 1, by omega⟩
    have c1 : ¬ ((k : Nat) : Int) < 7 := by omega
    have hz : ∀ x : Nat, x < 256 → s.size + (strOfNums [((x : Nat) : Int)]).size ≤ 9223372036854775807 := fun x hx => by rw [strOne_size x hx, hs]; decide
    have e0 : cnt P 0 = 0 := rfl
    simp only [deckleref03_Encode.l0]
    rw [if_neg c1, e0, Nat.add_zero]
    by_cases p : L.length % 2 = 1
    · have q : ((L.length : Nat) : Int) % 2 = 1 := by omega
      have v : wrap64 ((P : Int) + 128) % 256 = ((P + 128 * (L.length % 2) : Nat) : Int) := by rw [p, w64 (by omega) (by omega)]; omega
      rw [if_pos q, obind, v, if_pos (hz _ (by omega))]
    · have q : ¬ ((L.length : Nat) : Int) % 2 = 1 := by omega
      have v : (P : Int) % 256 = ((P + 128 * (L.length % 2) : Nat) : Int) := by omega
      rw [if_neg q, obind, v, if_pos (hz _ (by omega))]
  | succ d ih =>
    intro k m L h1 h2 hm hl
    obtain ⟨m, rfl⟩ : ∃ j, m = j + 1 := ⟨m - 1, by omega⟩
    have hk : 6 - d = k := by omega
    have hc : cnt P (d + 1) = (if P.testBit k then 1 else 0) + cnt P d := by rw [← hk]; rfl
    refine renc_step s P L k m _ hP (by omega) (by omega) (by omega) (fun e => ?_) (fun e => ?_)
    · have := ih (k + 1) m (L ++ [wrap64 (64 + (k : Int))]) (by omega) (by omega) (by omega) (by rw [List.length_append]; show L.length + 1 + d ≤ 100; omega)
      rw [this, hc, e, if_pos rfl, List.length_append]
      show some (s ++ strOfNums [((P + 128 * ((L.length + 1 + cnt P d) % 2) : Nat) : Int)], (0 : Int)) = _
      rw [Nat.add_assoc]
    · rw [ih (k + 1) m L (by omega) (by omega) (by omega) (by omega), hc, e, if_neg (by decide), Nat.zero_add]
theorem renc_ok (m : Nat) (hm : 300 ≤ m) (s : ByteArray) : deckleref03_Encode.f m s = some (if s.size = 8 then (encB s, 0) else (⟨#[]⟩, 4)) := by
  unfold deckleref03_Encode.f
  by_cases h : s.size = 8
  · have b0 : bytesL (strOfNums [0]) = [0] := strOne 0 (by omega)
    have s0 : (strOfNums [0]).size = 1 := strOne_size 0 (by omega)
    have hl := bytesL_lt0 s
    have b9 : bytesL (s ++ strOfNums [0]) = bytesL s ++ [0] := by rw [bytesL_append, b0]
    have z9 : (s ++ strOfNums [0]).size = 9 := by rw [ByteArray.size_append, s0, h]
    have hl9 := bytesL_lt0 (s ++ strOfNums [0])
    rw [b9] at hl9
    have l8 : (bytesL s).length = 8 := by rw [bytesL_length]; exact h
    have g8 : (bytesL s ++ [0]).getD 8 0 = 0 := by rw [List.getD_eq_getElem?_getD, List.getElem?_append_right (by omega), l8]; rfl
    have gi : ∀ i, i < 8 → (bytesL s ++ [0]).getD i 0 = (bytesL s).getD i 0 := fun i hi => by rw [List.getD_eq_getElem?_getD, List.getD_eq_getElem?_getD, List.getElem?_append_left (by omega)]
    have eX : X (bytesL s ++ [0]) 72 = leftP (bytesL s) 8 := by rw [X_72 _ hl9, g8, leftP_congr _ _ 8 gi]; simp
    have eC : C (bytesL s ++ [0]) 72 = leftN (bytesL s) 8 := by rw [C_72 _ hl9, g8, leftN_congr _ _ 8 gi]; rfl
    have hP := leftP_lt (bytesL s) hl 8 (by omega)
    have e1 := rbits_ok (s ++ strOfNums [0]) (by omega) m (by omega)
    rw [z9, b9] at e1
    replace e1 : deckleref03_Bits.f m (s ++ strOfNums [0]) = some (blI (bytesL s ++ [0]) 72) := e1
    have hlen : (blI (bytesL s ++ [0]) 72).length = leftN (bytesL s) 8 := by rw [blI_length, eC]
    have hN := leftN_le (bytesL s) hl 8
    have go := renc_l0 s h _ hP 7 0 m (blI (bytesL s ++ [0]) 72) (by omega) (by omega) (by omega) (by omega)
    rw [hlen, cnt_ones _ hP] at go
    have e2 := rleft_bl (bytesL s ++ [0]) m (by omega)
    rw [eX] at e2
    have c1 : ((s.size : Nat) : Int) = 8 := by omega
    have c2 : s.size + (strOfNums [0]).size ≤ 9223372036854775807 := by omega
    have c3 : ([] : List Int).length + (blI (bytesL s ++ [0]) 72).length < 17592186044416 := by rw [hlen]; show 0 + _ < _; omega
    rw [if_pos c1, obind, if_pos c2, e1, obind, e2, obind, if_pos c3, if_pos h, List.nil_append]
    unfold encB chk
    clear e1 e2 eX eC hlen b9 hl9 g8 gi z9 s0 b0
    generalize blI (bytesL s ++ [0]) 72 = L at go ⊢
    exact go
  · have c1 : ¬ ((s.size : Nat) : Int) = 8 := by omega
    rw [if_neg c1, if_neg h]
theorem hamEncodes_pure (s : ByteArray) : decklelaw03_HamEncodes.f 400 s = some true := by
  unfold decklelaw03_HamEncodes.f
  rw [works_ok 400 (by omega), obind, enc_ok, obind, renc_ok 400 (by omega), obind, if_pos rfl, if_pos rfl, ite_self]
end Go.Proofs.YtalnbmpfgmpkbaaDoor.Pure
