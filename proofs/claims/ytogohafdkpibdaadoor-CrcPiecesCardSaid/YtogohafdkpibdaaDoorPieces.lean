/- The crc law Pieces: its function answers true; the table lies as laid. -/
import Derived.Test.YtogohafdkpibdaaDoorWalkPieces
import Derived.Test.YtogohafdkpibdaaDoorCommon
namespace Go.Proofs.YtogohafdkpibdaaDoor.Pure
open Go.RowKit Go.Proofs.YtogohafdkpibdaaDoor.PQ Go.Proofs.YtogohafdkpibdaaDoorW.PrintWords Go.Proofs.YtogohafdkpibdaaDoorW.PrintLast Go.Proofs.YtogohafdkpibdaaDoorW.PrintMore
set_option linter.unusedVariables false
set_option linter.unusedSimpArgs false
open CrcMath
theorem wf32 {a : Int} (h : (Lit.int .u32 a).wf = true) : 0 ≤ a ∧ a < 4294967296 := by
  simp only [Lit.wf, IntKind.min, IntKind.max, IntKind.signed, IntKind.bits, Bool.and_eq_true, decide_eq_true_eq] at h
  simp at h
  omega
theorem crcPieces_walk (a0 a1 : ByteArray) (a2 : Int) (w : World) (w0 : a0.size ≤ 140737488351232) (w1 : a1.size ≤ 140737488351232) (w2 : (Lit.int .u32 a2).wf = true) (hT : Aside0 (Tabs w)) :
    Calls Tryd.prog 4 #[.string a0, .string a1, .int .u32 a2] w fun e w' => e = .returned (.bool true) ∧ Below w.heap.size w w' := by
  by_cases h0 : a0.size ≤ 1000
  · by_cases h1 : a1.size ≤ 1000
    · obtain ⟨hl, hg⟩ := wf32 w2
      obtain ⟨s, rfl⟩ := Int.eq_ofNat_of_zero_le hl
      have hs : s < 4294967296 := by omega
      have c1 := more_ok s (a0 ++ a1) hs (by rw [ByteArray.size_append]; omega)
      have c2 := more_ok s a0 hs (by omega)
      have c3 := more_ok (more s (bytesL a0)) a1 (more_lt _ hs (bytesL_lt a0)) (by omega)
      have e1 : more s (bytesL (a0 ++ a1)) = more (more s (bytesL a0)) (bytesL a1) := by rw [bytesL_append, more_append]
      rw [e1] at c1
      have c4 : crc_More.f 4294967295 a0 = some ((more first (bytesL a0) : Nat) : Int) := more_ok first a0 (by decide) (by omega)
      have c5 := sum_ok a0 (by omega)
      have x1 : bits BinOp.xor IntKind.u32 IntKind.u32.max ((more first (bytesL a0) : Nat) : Int) = ((sum (bytesL a0) : Nat) : Int) := by
        rw [max32, u32_xor_nat _ _ (by decide) (more_lt _ (by decide) (bytesL_lt a0))]; rfl
      obtain ⟨t, c6, e6, z6⟩ := seal_ok a0 (by omega)
      have c7 := whole_ok t (by omega)
      rw [e6, whole_seal (bytesL_lt a0)] at c7
      have c8 := sum_ok t (by omega)
      rw [e6, sum_seal (bytesL_lt a0)] at c8
      obtain ⟨u, c9, e9, z9⟩ := seal_ok (⟨#[]⟩ : ByteArray) (by decide)
      have c10 := sum_ok u (by rw [z9]; decide)
      rw [e9, sum_seal (bytesL_lt _)] at c10
      obtain ⟨T5, gT5⟩ : ∃ z : Int, z = ((first ^^^ stN 32 first : Nat) : Int) := ⟨_, rfl⟩
      rw [← gT5] at c8 c10
      clear gT5
      obtain ⟨T4, gT4⟩ : ∃ z : Int, z = ((sum (bytesL a0) : Nat) : Int) := ⟨_, rfl⟩
      rw [← gT4] at c5 x1
      clear gT4
      obtain ⟨T3, gT3⟩ : ∃ z : Int, z = ((more first (bytesL a0) : Nat) : Int) := ⟨_, rfl⟩
      rw [← gT3] at c4 x1
      clear gT3
      obtain ⟨T2, gT2⟩ : ∃ z : Int, z = ((more (more s (bytesL a0)) (bytesL a1) : Nat) : Int) := ⟨_, rfl⟩
      rw [← gT2] at c1 c3
      clear gT2
      obtain ⟨T1, gT1⟩ : ∃ z : Int, z = ((more s (bytesL a0) : Nat) : Int) := ⟨_, rfl⟩
      rw [← gT1] at c2 c3
      clear gT1
      exact crcPieces_core a0 a1 t u _ T1 T2 T3 T4 T5 w hT h0 h1 (Lib.hid works_ok) (Lib.hid c1) (Lib.hid c2) (Lib.hid c3) (Lib.hid c4) (Lib.hid c5) (Lib.hid c6) (Lib.hid c7) (Lib.hid c8) (Lib.hid c9) (Lib.hid c10) (beq_iff_eq.2 x1)
    · exact crcPieces_long a0 a1 a2 w hT (.inr ⟨h0, by omega⟩) (Lib.hid works_ok)
  · exact crcPieces_long a0 a1 a2 w hT (.inl (by omega)) (Lib.hid works_ok)
end Go.Proofs.YtogohafdkpibdaaDoor.Pure
