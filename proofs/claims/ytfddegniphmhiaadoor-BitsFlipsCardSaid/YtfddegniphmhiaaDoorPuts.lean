/- The bits laws Puts and Back, the pure statements: numbers' bytes and bytes' numbers are as the document has them, there and back; no condition beyond 64 bits. -/
import Derived.Test.YtfddegniphmhiaaDoorNums
import Derived.Test.YtfddegniphmhiaaDoorPQx13
import Derived.Test.YtfddegniphmhiaaDoorPQx14
import Derived.Test.YtfddegniphmhiaaDoorPQx6
namespace Go.Proofs.YtfddegniphmhiaaDoor.Pure
open Go.RowKit Go.Proofs.YtfddegniphmhiaaDoorW.PrintWords PQ
set_option linter.unusedVariables false
set_option linter.unusedSimpArgs false
theorem mono_le {α : Type} {f : Nat → Option α} (h : ∀ k r, f k = some r → f (k + 1) = some r) {a b : Nat} (hab : a ≤ b) {r : α} (e : f a = some r) : f b = some r := by
  obtain ⟨d, rfl⟩ := Nat.exists_eq_add_of_le hab
  clear hab
  induction d with
  | zero => exact e
  | succ d ih => exact h _ _ ih
theorem works_ok (m : Nat) (hm : 12 ≤ m) : decklelaw01_works.f m = some true := by
  obtain ⟨m, rfl⟩ : ∃ j, m = j + 1 := ⟨m - 1, by omega⟩
  have e1 : bits_Put.f 258 2 = some (PQ.putB 2 258, 0) := bput_ok 258 2 (by decide) (by decide) (by decide) (by decide)
  have e2 : bits_Put.f 258 1 = some (⟨#[]⟩, 1) := by
    unfold bits_Put.f
    rw [if_pos (by decide), if_neg (by decide), if_neg (by decide)]
  have e3 : bits_Sign.f 7 3 = some (-1, 0) := by decide +kernel
  have e4 : bits_Narrow.f (m + 1) (-1) 3 = some (7, true) := mono_le (f := fun k => bits_Narrow.f k (-1) 3) (a := 1) (fun k r h => bits_Narrow.mono _ _ k r h) (by omega) (by decide +kernel)
  have e5 : bits_Turn.f 1 (-1) = some 9223372036854775808 := by decide +kernel
  have e6 : bits_Zeros.f (⟨#[15]⟩ : ByteArray) = some 4 := by unfold bits_Zeros.f; rw [if_pos (by decide)]; rfl
  unfold decklelaw01_works.f
  rw [e1, obind, e2, obind, e3, obind, e4, obind, if_pos, if_pos rfl, if_pos rfl, if_pos rfl, if_pos rfl, if_pos rfl, if_pos rfl, e5, obind, if_pos rfl, e6, obind]
  · rfl
  · rw [show ([2, 1] : List UInt8) = (⟨#[2, 1]⟩ : ByteArray).toList from by rw [Lib.toList_data], toList_eq_iff, putB_bytes]
    decide
/-- What bits.Put answers. -/
theorem put_all (v n : Int) (h0 : 0 ≤ v) (h1 : v ≤ 18446744073709551615) (m : Nat) (hm : 12 ≤ m) :
    (∃ x c : Nat, v = x ∧ n = c ∧ 1 ≤ c ∧ c ≤ 8 ∧ x < 256 ^ c ∧ bits_Put.f v n = some (PQ.putB c x, 0) ∧ deckleref01_Put.f m v n = some (PQ.putB c x, 0)) ∨ (bits_Put.f v n = some (⟨#[]⟩, 1) ∧ deckleref01_Put.f m v n = some (⟨#[]⟩, 1)) := by
  obtain ⟨x, rfl⟩ := Int.eq_ofNat_of_zero_le h0
  by_cases hn : n < 1 ∨ n > 8
  · right
    constructor
    · unfold bits_Put.f
      rw [if_pos ⟨by omega, by omega⟩, if_pos hn]
    · obtain ⟨m, rfl⟩ : ∃ j, m = j + 1 := ⟨m - 1, by omega⟩
      unfold deckleref01_Put.f
      by_cases g : n < 1
      · rw [if_pos g]; simp only [deckleref01_Put.j0]; rw [if_pos trivial]
      · rw [if_neg g, decide_eq_true (by omega)]; simp only [deckleref01_Put.j0]; rw [if_pos trivial]
  · obtain ⟨c, rfl⟩ := Int.eq_ofNat_of_zero_le (a := n) (by omega)
    by_cases hx : x < 256 ^ c
    · exact Or.inl ⟨x, c, rfl, rfl, by omega, by omega, hx, bput_ok x c (by omega) (by omega) (by omega) hx, rput_ok x c (by omega) (by omega) (by omega) hx m hm⟩
    · right
      constructor
      · unfold bits_Put.f
        rw [if_pos ⟨by omega, by omega⟩, if_neg hn, Int.toNat_natCast, Int.toNat_natCast, if_neg hx]
      · obtain ⟨m, rfl⟩ : ∃ j, m = j + 1 := ⟨m - 1, by omega⟩
        unfold deckleref01_Put.f
        rw [if_neg (by omega), decide_eq_false (by omega)]
        simp only [deckleref01_Put.j0]
        rw [if_neg (by simp)]
        have := rput_l0 x c (by omega) (by omega) c 0 m (by omega) (by omega) (by omega)
        rw [if_pos (Nat.div_pos (by omega) (Nat.pow_pos (by decide)))] at this
        simpa [digs] using this
theorem rget_no (s : ByteArray) (h : s.size < 1 ∨ 8 < s.size) (m : Nat) (hm : 12 ≤ m) : deckleref01_Get.f m s = some (0, 1) := by
  obtain ⟨m, rfl⟩ : ∃ j, m = j + 1 := ⟨m - 1, by omega⟩
  unfold deckleref01_Get.f
  by_cases h1 : s.size < 1
  · rw [if_pos (by omega)]; simp only [deckleref01_Get.j0]; rw [if_pos trivial]
  · rw [if_neg (by omega), decide_eq_true (by omega)]; simp only [deckleref01_Get.j0]; rw [if_pos trivial]
theorem bitsPuts_pure (v n : Int) (s : ByteArray) (h0 : 0 ≤ v) (h1 : v ≤ 18446744073709551615) : decklelaw01_BitsPuts.f 20 v n s = some true := by
  unfold decklelaw01_BitsPuts.f
  have hg : ∃ x, bits_Get.f 20 s = some x ∧ deckleref01_Get.f 20 s = some x := by
    by_cases h : s.size < 1 ∨ 8 < s.size
    · exact ⟨_, bget_no s h 20 (by omega), rget_no s h 20 (by omega)⟩
    · exact ⟨_, bget_ok s (by omega) (by omega) 20 (by omega), rget_ok s (by omega) (by omega) 20 (by omega)⟩
  have hp : ∃ x, bits_Put.f v n = some x ∧ deckleref01_Put.f 20 v n = some x := by
    rcases put_all v n h0 h1 20 (by omega) with ⟨x, c, _, _, _, _, _, e, f⟩ | ⟨e, f⟩
    · exact ⟨_, e, f⟩
    · exact ⟨_, e, f⟩
  obtain ⟨x, e1, e2⟩ := hg
  obtain ⟨y, e3, e4⟩ := hp
  rw [e3, obind, e4, obind, e1, obind, e2, obind, if_pos rfl, if_pos rfl, if_pos rfl, if_pos rfl, works_ok 20 (by omega), obind]
theorem bitsBack_j0 (m : Nat) (hm : 13 ≤ m) (s : ByteArray) : decklelaw01_BitsBack.j0 m s = some true := by
  obtain ⟨m, rfl⟩ : ∃ j, m = j + 1 := ⟨m - 1, by omega⟩
  simp only [decklelaw01_BitsBack.j0]
  by_cases h : s.size < 1 ∨ 8 < s.size
  · rw [bget_no s h m (by omega), obind, if_neg (by decide), if_pos rfl]
    by_cases h1 : s.size < 1
    · rw [if_pos (by omega)]
    · rw [if_neg (by omega), decide_eq_true (by omega)]
  · have hl := num_lt _ (bytesL_lt s)
    rw [bytesL_length] at hl
    have hp := pow_le8 (n := s.size) (by omega)
    rw [bget_ok s (by omega) (by omega) m (by omega), obind, if_pos rfl, bput_ok _ _ (by omega) (by omega) (by omega) hl, obind, if_pos rfl]
    congr 1
    rw [beq_iff_eq, toList_eq_iff, putB_bytes]
    have := digs_num _ (bytesL_lt s)
    rwa [bytesL_length] at this
theorem bitsBack_pure (v n : Int) (s : ByteArray) (h0 : 0 ≤ v) (h1 : v ≤ 18446744073709551615) : decklelaw01_BitsBack.f 20 v n s = some true := by
  unfold decklelaw01_BitsBack.f
  rw [works_ok 20 (by omega), obind, if_pos rfl, bitsBack_j0 20 (by omega)]
  rcases put_all v n h0 h1 20 (by omega) with ⟨x, c, rfl, rfl, c1, c8, hx, e, -⟩ | ⟨e, -⟩
  · rw [e, obind, if_pos rfl]
    show (bits_Get.f 20 (PQ.putB c x)).bind _ = _
    rw [bget_ok _ (by rw [putB_size]; omega) (by rw [putB_size]; omega) 20 (by omega), obind, if_pos rfl, putB_bytes, num_digs, Nat.mod_eq_of_lt hx, if_pos rfl]
    show (if ((PQ.putB c x).size : Int) = _ then _ else _) = _
    rw [putB_size, if_pos rfl]
  · rw [e, obind, if_neg (by decide)]
end Go.Proofs.YtfddegniphmhiaaDoor.Pure
