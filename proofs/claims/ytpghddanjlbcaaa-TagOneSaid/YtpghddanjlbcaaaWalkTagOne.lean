/- The law TagOne: its function answers true; no condition. -/
import Derived.Test.YtpghddanjlbcaaaPQx3
import Derived.Test.YtpghddanjlbcaaaPureTag
namespace Go.Proofs.Ytpghddanjlbcaaa.Pure
open Go.RowKit Go.Proofs.YtpghddanjlbcaaaW.PrintWords PQ
set_option linter.unusedVariables false
set_option linter.unusedSimpArgs false
/-- Two tags that may be: the same bytes just if they are the same. -/
theorem tagB_inj {k l s e k' l' s' e' : Int} (h : TagP k l s e) (h' : TagP k' l' s' e') : bytesL (tagB k l s e) = bytesL (tagB k' l' s' e') ↔ (k = k' ∧ l = l' ∧ s = s' ∧ e = e') := by
  constructor
  · intro x
    rw [tagB_bytes h, tagB_bytes h'] at x
    unfold TagP at h h'
    obtain ⟨_, x⟩ := List.cons.inj x
    obtain ⟨x1, x⟩ := List.cons.inj x
    obtain ⟨x, _⟩ := List.append_inj x (by simp [digs_length])
    obtain ⟨x, x4⟩ := List.append_inj x (by simp [digs_length])
    obtain ⟨x2, x3⟩ := List.append_inj x (by simp [digs_length])
    have y2 := digs_inj (by omega) (by omega) x2
    have y3 := digs_inj (by omega) (by omega) x3
    have y4 := digs_inj (by omega) (by omega) x4
    omega
  · rintro ⟨rfl, rfl, rfl, rfl⟩; rfl
theorem beq4 (x y z v : Int × Int) : (x.1 == x.2 && (y.1 == y.2 && (z.1 == z.2 && (v.1 == v.2)))) = decide (x.1 = x.2 ∧ y.1 = y.2 ∧ z.1 = z.2 ∧ v.1 = v.2) := by
  rw [Bool.eq_iff_iff]; simp
theorem tagOne_pure (k l q e k' l' q' e' : Int) : decklelaw04_TagOne.f 20 k l q e k' l' q' e' = some true := by
  unfold decklelaw04_TagOne.f
  rw [works_ok, obind, if_pos rfl, enc_ok, obind, enc_ok, obind]
  simp only [decklelaw04_TagOne.j0]
  rw [may_ok, obind, may_ok, obind]
  by_cases h : TagP k l q e
  · by_cases h' : TagP k' l' q' e'
    · rw [if_pos h, if_pos h', if_pos rfl, if_neg (by simp), beq4 (k, k') (l, l') (q, q') (e, e')]
      congr 1
      rw [beq_iff_eq, Bool.eq_iff_iff, beq_iff_eq, decide_eq_true_iff, toList_eq_iff]
      exact tagB_inj h h'
    · rw [if_pos h, if_neg h', if_pos rfl, if_pos (by decide), if_pos (by rw [decide_eq_true h]; rfl), decide_eq_false h']; rfl
  · rw [if_neg h]
    rw [if_neg (by decide), if_pos trivial, if_pos (by rw [decide_eq_false h]; rfl)]
    by_cases h' : TagP k' l' q' e'
    · rw [if_pos h', decide_eq_true h']; rfl
    · rw [if_neg h', decide_eq_false h']; rfl
theorem tagOne_walk (k l q e k' l' q' e' : Int) (w : World) {P1 P2 P3 P4 P5 P6 P7 P8 : Prop} (_ : P1) (_ : P2) (_ : P3) (_ : P4) (_ : P5) (_ : P6) (_ : P7) (_ : P8) :
    Calls Try.prog 3 #[.agg #[.int .i64 k, .int .i64 l, .int .i64 q, .int .i64 e], .agg #[.int .i64 k', .int .i64 l', .int .i64 q', .int .i64 e']] w fun e w' => e = .returned (.bool true) ∧ Below w.heap.size w w' :=
  decklelaw04_TagOne.calls 20 k l q e k' l' q' e' true w (tagOne_pure k l q e k' l' q' e')
end Go.Proofs.Ytpghddanjlbcaaa.Pure
