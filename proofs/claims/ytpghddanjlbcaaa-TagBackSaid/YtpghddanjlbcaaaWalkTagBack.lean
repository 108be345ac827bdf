/- The law TagBack: its function answers true; no condition. -/
import Derived.Test.YtpghddanjlbcaaaPQx11
import Derived.Test.YtpghddanjlbcaaaPureDec
namespace Go.Proofs.Ytpghddanjlbcaaa.Pure
open Go.RowKit Go.Proofs.YtpghddanjlbcaaaW.PrintWords PQ
set_option linter.unusedVariables false
set_option linter.unusedSimpArgs false
theorem back_j0 (m : Nat) (hm : 13 ≤ m) (s : ByteArray) : decklelaw04_TagBack.j0 m s = some true := by
  obtain ⟨m, rfl⟩ : ∃ j, m = j + 1 := ⟨m - 1, by omega⟩
  simp only [decklelaw04_TagBack.j0]
  rw [dec_ok _ (by omega), obind]
  unfold takeT
  by_cases c : (bytesL s).length = 16 ∧ (bytesL s).getD 0 0 = 27 ∧ (bytesL s).getD 14 0 = 0 ∧ (bytesL s).getD 15 0 = 0 ∧ TagP (num (((bytesL s).take 2).drop 1)) (num (((bytesL s).take 4).drop 2)) (num (((bytesL s).take 10).drop 4)) (num (((bytesL s).take 14).drop 10))
  · rw [if_pos c, if_pos rfl, enc_ok, obind, if_pos c.2.2.2.2, if_pos rfl]
    congr 1
    rw [beq_iff_eq, toList_eq_iff]
    exact (back_tagB (bytesL_lt s) c.1 c.2.2.2.2).2 ⟨c.2.1, c.2.2.1, c.2.2.2.1⟩
  · rw [if_neg c]; rfl
theorem tagBack_pure (k l q e : Int) (s : ByteArray) : decklelaw04_TagBack.f 20 k l q e s = some true := by
  unfold decklelaw04_TagBack.f
  rw [works_ok, obind, if_pos rfl, enc_ok, obind]
  by_cases h : TagP k l q e
  · have d := dec_ok 20 (by omega) (tagB k l q e)
    rw [take_tagB h] at d
    rw [if_pos h, if_pos rfl, d, obind, if_pos rfl, if_neg (by simp), if_pos (by rw [tagB_size h]; rfl), may_ok, obind, if_pos (decide_eq_true h)]
    exact back_j0 20 (by omega) s
  · rw [if_neg h, if_neg (by decide)]
    exact back_j0 20 (by omega) s
theorem tagBack_walk (k l q e : Int) (s : ByteArray) (w : World) {P1 P2 P3 P4 P5 : Prop} (_ : P1) (_ : P2) (_ : P3) (_ : P4) (_ : P5) :
    Calls Try.prog 6 #[.agg #[.int .i64 k, .int .i64 l, .int .i64 q, .int .i64 e], .string s] w fun e w' => e = .returned (.bool true) ∧ Below w.heap.size w w' :=
  decklelaw04_TagBack.calls 20 k l q e s true w (tagBack_pure k l q e s)
end Go.Proofs.Ytpghddanjlbcaaa.Pure
