/- What ham.Encode and ham.Decode answer, by the code; plain. -/
import Derived.Test.YtalnbmpfgmpkbaaDoorCode
import Derived.Test.YtalnbmpfgmpkbaaDoorPQx2
namespace Go.Proofs.YtalnbmpfgmpkbaaDoor.Pure
open Go.RowKit Go.Proofs.YtalnbmpfgmpkbaaDoorW.PrintWords PQ
set_option linter.unusedVariables false
set_option linter.unusedSimpArgs false
theorem ones_ok (x : Nat) (h : x < 256) : bits_OnesCount8.f (x : Int) = some (onesN x : Int) := by
  unfold bits_OnesCount8.f
  rw [if_pos ⟨by omega, by omega⟩, Int.toNat_natCast]
theorem onesN_le : ∀ x < 256, onesN x ≤ 8 := ones_le
/-- The check of eight bytes. -/
def chk (l : List Nat) : Nat := leftP l 8 + 128 * ((leftN l 8 + onesN (leftP l 8)) % 2)
theorem chk_lt (l : List Nat) (hl : ∀ x ∈ l, x < 256) : chk l < 256 := by
  have := leftP_lt l hl 8 (by omega)
  unfold chk; omega
/-- Eight bytes and their check. -/
def encB (s : ByteArray) : ByteArray := s ++ strOfNums [(chk (bytesL s) : Int)]
theorem strOne (x : Nat) (h : x < 256) : bytesL (strOfNums [(x : Int)]) = [x] := by
  rw [bytesL_strOf _ (by intro y hy; simp at hy; omega)]; simp
theorem strOne_size (x : Nat) (h : x < 256) : (strOfNums [(x : Int)]).size = 1 := by rw [← bytesL_length, strOne x h]; rfl
theorem encB_bytes (s : ByteArray) : bytesL (encB s) = bytesL s ++ [chk (bytesL s)] := by
  unfold encB; rw [bytesL_append, strOne _ (chk_lt _ (bytesL_lt0 s))]
theorem encB_size (s : ByteArray) (h : s.size = 8) : (encB s).size = 9 := by rw [← bytesL_length, encB_bytes, List.length_append, bytesL_length, h]; rfl
theorem or_128 : ∀ p < 128, Go.bits .or .u8 ((p : Nat) : Int) 128 = ((p + 128 : Nat) : Int) := by decide +kernel
theorem enc_ok (s : ByteArray) : ham_Encode.f s = some (if s.size = 8 then (encB s, 0) else (⟨#[]⟩, 4)) := by
  unfold ham_Encode.f
  by_cases h : s.size = 8
  · have hP := leftP_lt (bytesL s) (bytesL_lt0 s) 8 (by omega)
    have hN := leftN_le (bytesL s) (bytesL_lt0 s) 8
    have hO := onesN_le (leftP (bytesL s) 8) (by omega)
    have hc := chk_lt (bytesL s) (bytesL_lt0 s)
    have hs := strOne_size _ hc
    have e0 : ham_left.f s = some ((leftP (bytesL s) 8 : Int), (leftN (bytesL s) 8 : Int)) := by unfold ham_left.f; rw [if_pos h]
    have e1 : Int.tmod (wrap64 ((leftN (bytesL s) 8 : Int) + (onesN (leftP (bytesL s) 8) : Int))) 2 = (((leftN (bytesL s) 8 + onesN (leftP (bytesL s) 8)) % 2 : Nat) : Int) := by
      rw [w64 (by omega) (by omega), Int.tmod_eq_emod_of_nonneg (by omega)]; omega
    rw [if_pos (by omega), e0, obind, ones_ok _ (by omega), obind, e1, if_pos h]
    unfold encB
    by_cases p : (leftN (bytesL s) 8 + onesN (leftP (bytesL s) 8)) % 2 = 1
    · have e2 : ((leftP (bytesL s) 8 + 128 : Nat) : Int) = (chk (bytesL s) : Int) := by unfold chk; rw [p]
      rw [if_pos (by omega), or_128 _ hP, e2, obind, if_pos (by rw [hs, h]; decide)]
    · have e2 : ((leftP (bytesL s) 8 : Nat) : Int) = (chk (bytesL s) : Int) := by unfold chk; omega
      rw [if_neg (by omega), e2, obind, if_pos (by rw [hs, h]; decide)]
  · rw [if_neg (by omega), if_neg h]
/-- What nine bytes are. -/
def decT (s : ByteArray) : ByteArray × Int × Int :=
  if C (bytesL s) 72 % 2 = 1 then (if 71 < X (bytesL s) 72 then (⟨#[]⟩, 4, 0) else (turnB (s.extract 0 8) (X (bytesL s) 72), 3, 0)) else (if X (bytesL s) 72 = 0 then (s.extract 0 8, 2, 0) else (⟨#[]⟩, 4, 0))
theorem ex_size (s : ByteArray) (i j : Nat) (h : i ≤ j) (hj : j ≤ s.size) : (s.extract i j).size = j - i := by
  rw [← bytesL_length, bytesL_extract, List.length_drop, List.length_take, bytesL_length]; omega
theorem take_getD (l : List Nat) (n i : Nat) (h : i < n) : (l.take n).getD i 0 = l.getD i 0 := by
  rw [List.getD_eq_getElem?_getD, List.getD_eq_getElem?_getD, List.getElem?_take_of_lt h]
theorem left_take (s : ByteArray) : leftP (bytesL (s.extract 0 8)) 8 = leftP (bytesL s) 8 ∧ leftN (bytesL (s.extract 0 8)) 8 = leftN (bytesL s) 8 := by
  rw [bytesL_extract, List.drop_zero]
  exact ⟨leftP_congr _ _ 8 fun i hi => take_getD _ 8 i hi, leftN_congr _ _ 8 fun i hi => take_getD _ 8 i hi⟩
theorem X_lt (l : List Nat) (hl : ∀ x ∈ l, x < 256) : X l 72 < 128 := by
  rw [X_72 l hl]
  exact Nat.xor_lt_two_pow (n := 7) (leftP_lt l hl 8 (by omega)) (Nat.lt_of_le_of_lt Nat.and_le_right (by decide))
theorem C_lt (l : List Nat) (hl : ∀ x ∈ l, x < 256) : C l 72 ≤ 72 := by
  have h1 := leftN_le l hl 8
  have h2 := onesN_le _ (getD_lt0 l hl 8)
  rw [C_72 l hl]; omega
theorem dec_ok (m : Nat) (hm : 3 ≤ m) (s : ByteArray) : ham_Decode.f m s = some (if s.size = 9 then decT s else (⟨#[]⟩, 0, 4)) := by
  obtain ⟨m, rfl⟩ : ∃ j, m = j + 1 := ⟨m - 1, by omega⟩
  unfold ham_Decode.f
  by_cases h : s.size = 9
  · have hl := bytesL_lt0 s
    have hc := getD_lt0 (bytesL s) hl 8
    have hz := ex_size s 0 8 (by omega) (by omega)
    have eL := left_take s
    have e0 : ham_left.f (s.extract 0 8) = some ((leftP (bytesL s) 8 : Int), (leftN (bytesL s) 8 : Int)) := by unfold ham_left.f; rw [if_pos hz, eL.1, eL.2]
    have eb : bt s 8 = (((bytesL s).getD 8 0 : Nat) : Int) := bt_nat s 8 (by omega)
    have ea : Go.bits .and .u8 (((bytesL s).getD 8 0 : Nat) : Int) 127 = (((bytesL s).getD 8 0 &&& 127 : Nat) : Int) := u8_and_nat _ 127 hc (by decide)
    have ha : (bytesL s).getD 8 0 &&& 127 < 128 := Nat.lt_of_le_of_lt Nat.and_le_right (by decide)
    have ex : Go.bits .xor .u8 ((leftP (bytesL s) 8 : Nat) : Int) (((bytesL s).getD 8 0 &&& 127 : Nat) : Int) = ((X (bytesL s) 72 : Nat) : Int) := by
      rw [X_72 _ hl]; exact u8_xor_nat _ _ (Nat.lt_trans (leftP_lt _ hl 8 (by omega)) (by decide)) (by omega)
    have hC := C_lt _ hl
    have et : Int.tmod (wrap64 ((leftN (bytesL s) 8 : Int) + (onesN ((bytesL s).getD 8 0) : Int))) 2 = ((C (bytesL s) 72 % 2 : Nat) : Int) := by
      rw [C_72 _ hl] at hC ⊢
      rw [w64 (by omega) (by omega), Int.tmod_eq_emod_of_nonneg (by omega)]; omega
    rw [if_pos (by omega), if_pos (by decide), if_pos (by omega), e0, obind, if_pos (by omega), eb, ones_ok _ hc, obind, et, ea, ex, if_pos h]
    unfold decT
    clear et ea ex e0 eL eb ha hC hc hl
    generalize X (bytesL s) 72 = xv
    generalize C (bytesL s) 72 = cv
    simp only [ham_Decode.j0]
    by_cases p : cv % 2 = 1
    · rw [if_pos (by omega), if_neg (by decide), if_pos (by rw [p]; rfl), if_pos p]
      by_cases q : 71 < xv
      · rw [if_pos (by omega), if_pos q]
      · unfold ham_turned.f
        rw [if_neg (by omega), if_neg q, if_pos ⟨hz, by omega⟩, obind, Int.toNat_natCast]
    · rw [if_neg (by omega), if_neg p]
      by_cases q : xv = 0
      · rw [if_pos (by rw [q]; rfl), if_pos q]
      · rw [if_neg (by rw [beq_iff_eq]; omega), if_neg (by rw [beq_iff_eq]; omega), if_neg q]
  · rw [if_neg (by omega), if_neg h]
/-- Eight bytes and their check come to 0, and to an even number. -/
theorem chk_and : ∀ p < 128, ∀ e < 2, (p + 128 * e) &&& 127 = p ∧ onesN (p + 128 * e) = onesN p + e := by decide +kernel
theorem enc_word (l : List Nat) (hl : ∀ x ∈ l, x < 256) (h8 : l.length = 8) : X (l ++ [chk l]) 72 = 0 ∧ C (l ++ [chk l]) 72 % 2 = 0 := by
  have hl9 : ∀ x ∈ l ++ [chk l], x < 256 := by
    intro x hx
    rcases List.mem_append.1 hx with h | h
    · exact hl x h
    · rw [List.mem_singleton.1 h]; exact chk_lt l hl
  have g8 : (l ++ [chk l]).getD 8 0 = chk l := by rw [List.getD_eq_getElem?_getD, List.getElem?_append_right (by omega), h8]; rfl
  have gi : ∀ i, i < 8 → (l ++ [chk l]).getD i 0 = l.getD i 0 := fun i hi => by rw [List.getD_eq_getElem?_getD, List.getD_eq_getElem?_getD, List.getElem?_append_left (by omega)]
  obtain ⟨a1, a2⟩ := chk_and _ (leftP_lt l hl 8 (by omega)) ((leftN l 8 + onesN (leftP l 8)) % 2) (by omega)
  rw [X_72 _ hl9, C_72 _ hl9, g8, leftP_congr _ l 8 gi, leftN_congr _ l 8 gi]
  unfold chk
  rw [a1, a2]
  exact ⟨Nat.xor_self _, by omega⟩
theorem enc_X (s : ByteArray) (h : s.size = 8) : X (bytesL (encB s)) 72 = 0 ∧ C (bytesL (encB s)) 72 % 2 = 0 := by
  rw [encB_bytes]; exact enc_word _ (bytesL_lt0 s) (by rw [bytesL_length]; exact h)
theorem enc_take (s : ByteArray) (h : s.size = 8) : (encB s).extract 0 8 = s := by
  apply bytesL_inj
  rw [bytesL_extract, List.drop_zero, encB_bytes, List.take_append_of_le_length (by rw [bytesL_length]; omega), List.take_of_length_le (by rw [bytesL_length]; omega)]
theorem dec_enc (s : ByteArray) (h : s.size = 8) : decT (encB s) = (s, 2, 0) := by
  obtain ⟨x, c⟩ := enc_X s h
  unfold decT
  rw [if_neg (by omega), if_pos x, enc_take s h]
theorem works_ok (m : Nat) (hm : 3 ≤ m) : decklelaw03_works.f m = some true := by
  have z : (⟨#[0, 0, 0, 0, 0, 0, 0, 0]⟩ : ByteArray).size = 8 := rfl
  have o : (⟨#[1, 0, 0, 0, 0, 0, 0, 0]⟩ : ByteArray).size = 8 := rfl
  have bz : (encB ⟨#[0, 0, 0, 0, 0, 0, 0, 0]⟩).toList = ([0, 0, 0, 0, 0, 0, 0, 0, 0] : List UInt8) := by
    rw [show ([0, 0, 0, 0, 0, 0, 0, 0, 0] : List UInt8) = (⟨#[0, 0, 0, 0, 0, 0, 0, 0, 0]⟩ : ByteArray).toList from by rw [Lib.toList_data], toList_eq_iff, encB_bytes]
    decide +kernel
  have bo : (encB ⟨#[1, 0, 0, 0, 0, 0, 0, 0]⟩).toList = ([1, 0, 0, 0, 0, 0, 0, 0, 131] : List UInt8) := by
    rw [show ([1, 0, 0, 0, 0, 0, 0, 0, 131] : List UInt8) = (⟨#[1, 0, 0, 0, 0, 0, 0, 0, 131]⟩ : ByteArray).toList from by rw [Lib.toList_data], toList_eq_iff, encB_bytes]
    decide +kernel
  unfold decklelaw03_works.f
  rw [enc_ok, if_pos z, obind, enc_ok, if_pos o, obind, dec_ok m hm, if_pos (encB_size _ o), obind, dec_enc _ o]
  rw [if_pos rfl, if_pos bz, if_pos bo, if_pos rfl, if_pos rfl, if_pos (by decide), if_pos (by rw [encB_size _ o]; decide), enc_take _ o]
  simp
end Go.Proofs.YtalnbmpfgmpkbaaDoor.Pure
