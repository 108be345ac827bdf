/- The law TagFar: its function answers true; no condition. -/
import Derived.Test.YtpghddanjlbcaaaPQx4
import Derived.Test.YtpghddanjlbcaaaPureTag
namespace Go.Proofs.Ytpghddanjlbcaaa.Pure
open Go.RowKit Go.Proofs.YtpghddanjlbcaaaW.PrintWords PQ
set_option linter.unusedVariables false
set_option linter.unusedSimpArgs false
theorem and_pred_lt (c : Nat) (h : c ≠ 0) : c &&& (c - 1) < c := by
  have := @Nat.and_le_right c (c - 1)
  omega
theorem far_l1 (s : ByteArray) (i : Nat) (hi : i < 8) : ∀ (c : Nat), c < 256 → ∀ (m n : Nat), c < m → n + c ≤ 1000000 → ∃ m' n', n ≤ n' ∧ n' ≤ n + c ∧ m ≤ m' + c + 1 ∧ decklelaw04_TagFar.l1 m s (n : Int) (c : Int) (i : Int) = decklelaw04_TagFar.l0 m' s (n' : Int) ((i + 1 : Nat) : Int) := by
  intro c
  induction c using Nat.strongRecOn with
  | ind c ih =>
    intro hc m n hm hn
    obtain ⟨m, rfl⟩ : ∃ j, m = j + 1 := ⟨m - 1, by omega⟩
    simp only [decklelaw04_TagFar.l1]
    by_cases h0 : c = 0
    · subst h0
      refine ⟨m, n, by omega, by omega, by omega, ?_⟩
      rw [if_pos (by omega), w64 (by omega) (by omega)]; rfl
    · have hd := and_pred_lt c h0
      obtain ⟨m', n', a1, a2, a3, a4⟩ := ih _ hd (by omega) m (n + 1) (by omega) (by omega)
      refine ⟨m', n', by omega, by omega, by omega, ?_⟩
      rw [if_neg (by omega), w64 (by omega) (by omega), ← a4]
      congr 1
      have e1 : (((c : Int) - 1) % 256) = ((c - 1 : Nat) : Int) := by omega
      rw [e1, u8_and_nat _ _ (by omega) (by omega)]
theorem far_l0 (s : ByteArray) (h16 : s.size = 16) (d : Nat) : ∀ (i m n : Nat), 8 - i = d → i ≤ 8 → 4 ≤ n → n ≤ 4 + 256 * i → 257 * d < m → decklelaw04_TagFar.l0 m s (n : Int) (i : Int) = some true := by
  induction d with
  | zero =>
    intro i m n h1 h2 h4 h5 hm
    obtain ⟨m, rfl⟩ : ∃ j, m = j + 1 := ⟨m - 1, by omega⟩
    simp only [decklelaw04_TagFar.l0]
    rw [if_neg (by omega), decide_eq_true (by omega)]
  | succ d ih =>
    intro i m n h1 h2 h4 h5 hm
    obtain ⟨m, rfl⟩ : ∃ j, m = j + 1 := ⟨m - 1, by omega⟩
    simp only [decklelaw04_TagFar.l0]
    have hb := getD_lt _ (bytesL_lt s) i
    have hx : (255 ^^^ (bytesL s).getD i 0) < 2 ^ 8 := Nat.xor_lt_two_pow (by decide) hb
    have e1 : Go.bits .xor .u8 IntKind.u8.max (bt s (i : Int)) = ((255 ^^^ (bytesL s).getD i 0 : Nat) : Int) := by
      rw [bt_nat s i (by omega)]
      exact u8_xor_nat 255 _ (by omega) hb
    rw [if_pos (by omega), if_pos (by omega), if_pos (by omega), e1]
    obtain ⟨m', n', a1, a2, a3, a4⟩ := far_l1 s i (by omega) _ hx m n (by omega) (by omega)
    rw [a4]
    exact ih (i + 1) m' n' (by omega) (by omega) (by omega) (by omega) (by omega)
theorem far_first (s : ByteArray) (h16 : s.size = 16) (hb : (bytesL s).getD 0 0 = 27) (m : Nat) (hm : 2000 ≤ m) : decklelaw04_TagFar.l0 m s 0 0 = some true := by
  obtain ⟨m, rfl⟩ : ∃ j, m = j + 6 := ⟨m - 6, by omega⟩
  have b0 : bt s 0 = 27 := by
    have := bt_nat s 0 (by omega)
    rw [hb] at this; exact this
  have e1 : Go.bits .xor .u8 IntKind.u8.max 27 = 228 := by decide +kernel
  have a1 : Go.bits .and .u8 228 ((228 - 1) % 256) = 224 := by decide +kernel
  have a2 : Go.bits .and .u8 224 ((224 - 1) % 256) = 192 := by decide +kernel
  have a3 : Go.bits .and .u8 192 ((192 - 1) % 256) = 128 := by decide +kernel
  have a4 : Go.bits .and .u8 128 ((128 - 1) % 256) = 0 := by decide +kernel
  have go := far_l0 s h16 7 1 m 4 (by omega) (by omega) (by omega) (by omega) (by omega)
  have s0 : decklelaw04_TagFar.l0 (m + 6) s 0 0 = decklelaw04_TagFar.l1 (m + 5) s 0 228 0 := by
    rw [decklelaw04_TagFar.l0, if_pos (by omega), if_pos (by omega), if_pos (by omega), b0, e1]
  have s1 : decklelaw04_TagFar.l1 (m + 5) s 0 228 0 = decklelaw04_TagFar.l1 (m + 4) s 1 224 0 := by rw [decklelaw04_TagFar.l1, if_neg (by omega), a1, w64 (by omega) (by omega)]; rfl
  have s2 : decklelaw04_TagFar.l1 (m + 4) s 1 224 0 = decklelaw04_TagFar.l1 (m + 3) s 2 192 0 := by rw [decklelaw04_TagFar.l1, if_neg (by omega), a2, w64 (by omega) (by omega)]; rfl
  have s3 : decklelaw04_TagFar.l1 (m + 3) s 2 192 0 = decklelaw04_TagFar.l1 (m + 2) s 3 128 0 := by rw [decklelaw04_TagFar.l1, if_neg (by omega), a3, w64 (by omega) (by omega)]; rfl
  have s4 : decklelaw04_TagFar.l1 (m + 2) s 3 128 0 = decklelaw04_TagFar.l1 (m + 1) s 4 0 0 := by rw [decklelaw04_TagFar.l1, if_neg (by omega), a4, w64 (by omega) (by omega)]; rfl
  have s5 : decklelaw04_TagFar.l1 (m + 1) s 4 0 0 = decklelaw04_TagFar.l0 m s 4 1 := by rw [decklelaw04_TagFar.l1, if_pos (by omega), w64 (by omega) (by omega)]; rfl
  rw [s0, s1, s2, s3, s4, s5]
  exact go
theorem tagFar_pure (k l q e : Int) : decklelaw04_TagFar.f 3000 k l q e = some true := by
  unfold decklelaw04_TagFar.f
  rw [works_ok, obind, if_pos rfl, enc_ok, obind]
  by_cases h : TagP k l q e
  · rw [if_pos h, if_pos rfl]
    exact far_first _ (tagB_size h) (by rw [tagB_bytes h]; rfl) 3000 (by omega)
  · rw [if_neg h, if_neg (by decide)]
    rw [Lib.toList_data]; rfl
theorem tagFar_walk (k l q e : Int) (w : World) {P1 P2 P3 P4 : Prop} (_ : P1) (_ : P2) (_ : P3) (_ : P4) :
    Calls Try.prog 4 #[.agg #[.int .i64 k, .int .i64 l, .int .i64 q, .int .i64 e]] w fun e w' => e = .returned (.bool true) ∧ Below w.heap.size w w' :=
  decklelaw04_TagFar.calls 3000 k l q e true w (tagFar_pure k l q e)
end Go.Proofs.Ytpghddanjlbcaaa.Pure
