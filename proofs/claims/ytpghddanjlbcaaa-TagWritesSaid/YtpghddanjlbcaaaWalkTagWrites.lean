/- The law TagWrites: its function answers true; no condition. -/
import Derived.Test.YtpghddanjlbcaaaPQx10
import Derived.Test.YtpghddanjlbcaaaPureDec
namespace Go.Proofs.Ytpghddanjlbcaaa.Pure
open Go.RowKit Go.Proofs.YtpghddanjlbcaaaW.PrintWords PQ
set_option linter.unusedVariables false
set_option linter.unusedSimpArgs false
theorem rmay_ok (k l s e : Int) : deckleref04_May.f k l s e = some (decide (TagP k l s e)) := by
  unfold deckleref04_May.f
  by_cases h1 : k ≥ 1
  · rw [if_pos h1]
    by_cases h2 : k ≤ 4
    · rw [if_pos h2]
      by_cases h3 : l ≥ 0
      · rw [if_pos h3]
        by_cases h4 : l ≤ 4096
        · rw [if_pos h4]
          by_cases h5 : s ≥ 0
          · rw [if_pos h5]
            by_cases h6 : s ≤ 281474976710655
            · rw [if_pos h6]
              by_cases h7 : e ≥ 0
              · rw [if_pos h7]; exact congrArg some (decide_eq_decide.2 (by unfold TagP; omega))
              · rw [if_neg h7, decide_eq_false (by unfold TagP; omega)]
            · rw [if_neg h6, decide_eq_false (by unfold TagP; omega)]
          · rw [if_neg h5, decide_eq_false (by unfold TagP; omega)]
        · rw [if_neg h4, decide_eq_false (by unfold TagP; omega)]
      · rw [if_neg h3, decide_eq_false (by unfold TagP; omega)]
    · rw [if_neg h2, decide_eq_false (by unfold TagP; omega)]
  · rw [if_neg h1, decide_eq_false (by unfold TagP; omega)]
theorem rnumber_ok (m : Nat) (hm : 12 ≤ m) (v : Int) (n : Nat) (h0 : 0 ≤ v) (hv : v < 18446744073709551616) (h1 : 1 ≤ n) (h8 : n ≤ 8) (h : v.toNat < 256 ^ n) : deckleref04_Number.f m v (n : Int) = some (PQ.putB n v.toNat) := by
  obtain ⟨x, rfl⟩ := Int.eq_ofNat_of_zero_le h0
  rw [Int.toNat_natCast] at h ⊢
  unfold deckleref04_Number.f
  rw [u64w h0 (by omega), rput_ok x n (by omega) h1 h8 h m hm, obind]
theorem renc_ok (m : Nat) (hm : 12 ≤ m) (k l s e : Int) : deckleref04_Encode.f m k l s e = some (if TagP k l s e then (tagB k l s e, 0) else (⟨#[]⟩, 1)) := by
  unfold deckleref04_Encode.f
  rw [rmay_ok, obind]
  by_cases h : TagP k l s e
  · rw [if_pos (decide_eq_true h), if_pos h, obind]
    have hh := h
    unfold TagP at hh
    have f1 : deckleref04_Number.f m l 2 = some (PQ.putB 2 l.toNat) := rnumber_ok m hm l 2 (by omega) (by omega) (by omega) (by omega) (by omega)
    have f2 : deckleref04_Number.f m s 6 = some (PQ.putB 6 s.toNat) := rnumber_ok m hm s 6 (by omega) (by omega) (by omega) (by omega) (by omega)
    have f3 : deckleref04_Number.f m e 4 = some (PQ.putB 4 e.toNat) := rnumber_ok m hm e 4 (by omega) (by omega) (by omega) (by omega) (by omega)
    have b1 : bytesL (strOfNums [27, k % 256]) = [27, k.toNat] := by
      rw [bytesL_strOf _ (by intro x hx; simp at hx; omega)]
      simp; omega
    have b2 : bytesL (strOfNums [0, 0]) = [0, 0] := bytesL_strOf _ (by intro x hx; simp at hx; omega)
    have s1 : (strOfNums [27, k % 256]).size = 2 := by rw [← bytesL_length, b1]; rfl
    have s2 : (strOfNums [0, 0]).size = 2 := by rw [← bytesL_length, b2]; rfl
    rw [f1, obind, if_pos (by rw [s1, putB_size]; decide), f2, obind, if_pos (by rw [ByteArray.size_append, s1, putB_size, putB_size]; decide), f3, obind, if_pos (by rw [ByteArray.size_append, ByteArray.size_append, s1, putB_size, putB_size, putB_size]; decide), obind, if_pos (by rw [ByteArray.size_append, ByteArray.size_append, ByteArray.size_append, s1, s2, putB_size, putB_size, putB_size]; decide)]
    congr 2
    apply bytesL_inj
    rw [bytesL_append, bytesL_append, bytesL_append, bytesL_append, b1, b2, putB_bytes, putB_bytes, putB_bytes, tagB_bytes h]
    simp
  · rw [if_neg (by simpa using h), if_neg h]
theorem of_ok (m : Nat) (hm : 12 ≤ m) (s : ByteArray) (i j : Nat) (h : i < j) (hj : j ≤ s.size) (h6 : j ≤ i + 6) : deckleref04_Of.f m (s.extract i j) = some ((num (((bytesL s).take j).drop i) : Nat) : Int) := by
  have hl := ex_num s i j h hj h6
  have hz := ex_size s i j (by omega) hj
  unfold deckleref04_Of.f
  rw [rget_ok _ (by omega) (by omega) m hm, obind, bytesL_extract, w64 (by omega) (by omega)]
theorem rdec_j0 (m : Nat) (hm : 13 ≤ m) (s : ByteArray) (b : Bool) (h : s.size = 16) : deckleref04_Decode.j0 m s b = some (if b = false ∧ TagP (num (((bytesL s).take 2).drop 1)) (num (((bytesL s).take 4).drop 2)) (num (((bytesL s).take 10).drop 4)) (num (((bytesL s).take 14).drop 10)) then ((num (((bytesL s).take 2).drop 1) : Int), (num (((bytesL s).take 4).drop 2) : Int), (num (((bytesL s).take 10).drop 4) : Int), (num (((bytesL s).take 14).drop 10) : Int), 0) else (0, 0, 0, 0, 3)) := by
  obtain ⟨m, rfl⟩ : ∃ j, m = j + 1 := ⟨m - 1, by omega⟩
  simp only [deckleref04_Decode.j0]
  cases b
  · have p2 : deckleref04_Of.f m (s.extract 2 4) = _ := of_ok m (by omega) s 2 4 (by omega) (by omega) (by omega)
    have p3 : deckleref04_Of.f m (s.extract 4 10) = _ := of_ok m (by omega) s 4 10 (by omega) (by omega) (by omega)
    have p4 : deckleref04_Of.f m (s.extract 10 14) = _ := of_ok m (by omega) s 10 14 (by omega) (by omega) (by omega)
    have hb := getD_lt _ (bytesL_lt s) 1
    have e1 : wrap64 (bt s 1) = ((num (((bytesL s).take 2).drop 1) : Nat) : Int) := by
      have hx : num (((bytesL s).take 2).drop 1) = (bytesL s).getD 1 0 := by
        obtain ⟨a, b, c, d, e, f, g, h, i, j, k, m, n, o, p, q, hl⟩ := list16 (bytesL s) (by rw [bytesL_length]; exact h)
        rw [hl]; show b + 256 * 0 = b; omega
      rw [show bt s 1 = (((bytesL s).getD 1 0 : Nat) : Int) from bt_nat s 1 (by omega), w64 (by omega) (by omega), hx]
    rw [if_neg (by decide), if_pos (by omega), if_pos (by decide), if_pos (by omega), p2, obind, if_pos (by decide), if_pos (by omega), p3, obind, if_pos (by decide), if_pos (by omega), p4, obind, e1, rmay_ok, obind]
    by_cases g : TagP (num (((bytesL s).take 2).drop 1)) (num (((bytesL s).take 4).drop 2)) (num (((bytesL s).take 10).drop 4)) (num (((bytesL s).take 14).drop 10))
    · rw [if_pos (decide_eq_true g), if_pos ⟨rfl, g⟩]
    · rw [if_neg (by simpa using g), if_neg (fun x => g x.2)]
  · rw [if_pos rfl, if_neg (by simp)]
theorem rdec_ok (m : Nat) (hm : 13 ≤ m) (s : ByteArray) : deckleref04_Decode.f m s = some (takeT (bytesL s)) := by
  unfold deckleref04_Decode.f takeT
  rw [bytesL_length]
  by_cases h : s.size = 16
  · have b0 : bt s 0 = (((bytesL s).getD 0 0 : Nat) : Int) := bt_nat s 0 (by omega)
    have b14 : bt s 14 = (((bytesL s).getD 14 0 : Nat) : Int) := bt_nat s 14 (by omega)
    have b15 : bt s 15 = (((bytesL s).getD 15 0 : Nat) : Int) := bt_nat s 15 (by omega)
    rw [if_pos (by omega), if_pos (by omega), b0, b14, b15, rdec_j0 m hm s _ h, rdec_j0 m hm s _ h]
    by_cases z0 : (bytesL s).getD 0 0 = 27
    · rw [if_pos (by omega), if_pos (by omega)]
      by_cases z1 : (bytesL s).getD 14 0 = 0
      · rw [if_pos (by omega), if_pos (by omega)]
        by_cases z2 : (bytesL s).getD 15 0 = 0
        · rw [z2]
          by_cases g : TagP (num (((bytesL s).take 2).drop 1)) (num (((bytesL s).take 4).drop 2)) (num (((bytesL s).take 10).drop 4)) (num (((bytesL s).take 14).drop 10))
          · rw [if_pos ⟨by decide, g⟩, if_pos ⟨h, z0, z1, rfl, g⟩]
          · rw [if_neg (fun x => g x.2), if_neg (fun x => g x.2.2.2.2)]
        · rw [if_neg (fun x => z2 (by have := x.1; simpa using this)), if_neg (fun x => z2 x.2.2.2.1)]
      · rw [if_neg (by omega), if_neg (by simp), if_neg (fun x => z1 x.2.2.1)]
    · rw [if_neg (by omega), if_neg (by simp), if_neg (fun x => z0 x.2.1)]
  · obtain ⟨m, rfl⟩ : ∃ j, m = j + 1 := ⟨m - 1, by omega⟩
    rw [if_neg (by omega), if_neg (fun x => h x.1)]
    simp only [deckleref04_Decode.j0]
    rw [if_pos trivial]
theorem tagWrites_pure (k l q e : Int) (s : ByteArray) : decklelaw04_TagWrites.f 20 k l q e s = some true := by
  unfold decklelaw04_TagWrites.f
  rw [enc_ok, obind, renc_ok _ (by omega), obind, dec_ok _ (by omega), obind, rdec_ok _ (by omega), obind, may_ok, obind, rmay_ok, obind]
  rw [if_pos rfl, if_pos rfl, if_pos (by simp), if_pos rfl, if_pos (by simp), works_ok, obind]
theorem tagWrites_walk (k l q e : Int) (s : ByteArray) (w : World) {P1 P2 P3 P4 P5 : Prop} (_ : P1) (_ : P2) (_ : P3) (_ : P4) (_ : P5) :
    Calls Try.prog 5 #[.agg #[.int .i64 k, .int .i64 l, .int .i64 q, .int .i64 e], .string s] w fun e w' => e = .returned (.bool true) ∧ Below w.heap.size w w' :=
  decklelaw04_TagWrites.calls 20 k l q e s true w (tagWrites_pure k l q e s)
end Go.Proofs.Ytpghddanjlbcaaa.Pure
