/- The tag laws' pure statements: which tags may be, and their bytes; no condition. -/
import Derived.Test.YtpghddanjlbcaaaEnc
import Derived.Test.YtpghddanjlbcaaaNums
import Derived.Test.YtpghddanjlbcaaaPQx2
namespace Go.Proofs.Ytpghddanjlbcaaa.Pure
open Go.RowKit Go.Proofs.YtpghddanjlbcaaaW.PrintWords PQ
set_option linter.unusedVariables false
set_option linter.unusedSimpArgs false
theorem within_ok (x y z : Int) : tag_within.f x y z = some (decide (y ≤ x ∧ x ≤ z)) := by
  unfold tag_within.f
  by_cases h : x ≥ y
  · rw [if_pos h]; exact congrArg some (decide_eq_decide.2 (by omega))
  · rw [if_neg h, decide_eq_false (by omega)]
theorem may_ok (k l s e : Int) : tag_May.f k l s e = some (decide (TagP k l s e)) := by
  unfold tag_May.f
  rw [within_ok, obind]
  by_cases h1 : 1 ≤ k ∧ k ≤ 4
  · rw [if_pos (decide_eq_true h1), within_ok, obind]
    by_cases h2 : 0 ≤ l ∧ l ≤ 4096
    · rw [if_pos (decide_eq_true h2), within_ok, obind]
      by_cases h3 : 0 ≤ s ∧ s ≤ 281474976710655
      · rw [if_pos (decide_eq_true h3), within_ok, obind]; exact congrArg some (decide_eq_decide.2 (by unfold TagP; omega))
      · rw [if_neg (by simpa using h3), decide_eq_false (by unfold TagP; omega)]
    · rw [if_neg (by simpa using h2), decide_eq_false (by unfold TagP; omega)]
  · rw [if_neg (by simpa using h1), decide_eq_false (by unfold TagP; omega)]
theorem tagB_bytes {k l s e : Int} (h : TagP k l s e) : bytesL (tagB k l s e) = 27 :: k.toNat :: (digs 2 l.toNat ++ digs 6 s.toNat ++ digs 4 e.toNat ++ [0, 0]) := by
  have e2 := putB_bytes 2 l.toNat
  have e6 := putB_bytes 6 s.toNat
  have e4 := putB_bytes 4 e.toNat
  have hk : (UInt8.ofNat k.toNat).toNat = k.toNat := by rw [UInt8.toNat_ofNat']; unfold TagP at h; omega
  unfold bytesL at e2 e6 e4 ⊢
  unfold tagB
  simp only [Array.toList_append, List.map_append, e2, e6, e4, List.map_cons, List.map_nil, hk]
  simp
theorem tagB_size {k l s e : Int} (h : TagP k l s e) : (tagB k l s e).size = 16 := by rw [← bytesL_length, tagB_bytes h]; simp [digs_length]
theorem enc_ok (k l s e : Int) : tag_Encode.f k l s e = some (if TagP k l s e then (tagB k l s e, 0) else (⟨#[]⟩, 1)) := rfl
theorem works_ok : decklelaw04_works.f = some true := by
  unfold decklelaw04_works.f
  rw [enc_ok, obind, enc_ok, obind, if_pos (show TagP 1 258 3 4 by decide), if_neg (show ¬ TagP 5 0 0 0 by decide), if_pos rfl, if_pos]
  · rfl
  · rw [show ([27, 1, 2, 1, 3, 0, 0, 0, 0, 0, 4, 0, 0, 0, 0, 0] : List UInt8) = (⟨#[27, 1, 2, 1, 3, 0, 0, 0, 0, 0, 4, 0, 0, 0, 0, 0]⟩ : ByteArray).toList from by rw [Lib.toList_data], toList_eq_iff, tagB_bytes (by decide)]
    decide
end Go.Proofs.Ytpghddanjlbcaaa.Pure
