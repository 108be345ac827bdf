/- What the document's spans come to. -/
import Derived.Test.YtaandjafmmpbkaaRef
namespace Go.Proofs.Ytaandjafmmpbkaa.PQ
open Go.RowKit Go.Proofs.YtaandjafmmpbkaaW.PrintWords Go.Proofs.YtaandjafmmpbkaaW.PrintLast Go.Proofs.YtaandjafmmpbkaaW.PrintMore
set_option linter.unusedVariables false
set_option linter.unusedSimpArgs false
theorem endF_app (lo : Int) : ∀ (p : List S27) (z : S27), endF lo (p ++ [z]) = z.f1
  | [], z => rfl
  | x :: p, z => by rw [List.cons_append, endF]; exact endF_app x.f1 p z
theorem rd_end (p : List S27) (z : S27) : rd_T27 (p ++ [z]) (p.length : Int) = z := by
  rw [rd_mem _ _ (by simp)]; simp
theorem set_end (p : List S27) (z y : S27) : (p ++ [z]).set p.length y = p ++ [y] := by
  rw [List.set_append_right _ _ (Nat.le_refl _), Nat.sub_self]; rfl
theorem Sp_endF : ∀ {lo : Int} {l : List S27}, Sp lo l → ∀ n, inB l n = true → n < endF lo l
  | lo, [], _, n, h => absurd h (in_nil n)
  | lo, x :: l, hs, n, h => by
    obtain ⟨h0, h1, h2, h3⟩ := hs
    rcases (in_cons x l n).1 h with h | h
    · have : x.f1 ≤ endF x.f1 l := by
        rcases l with _ | ⟨y, l⟩
        · exact Int.le_refl _
        · have := Sp_endF h3 y.f0 ((in_cons y l _).2 (.inl ⟨Int.le_refl _, h3.2.1⟩)); have := h3.1; omega
      show n < endF x.f1 l
      omega
    · exact Sp_endF h3 n h
/-- What the document's list of spans holds as far as a number. -/
structure Upto (g : Int → Bool) (v : Bool) (a : Int) (i : Nat) (S : List S27) : Prop where
  sp : Sp (a - 1) S
  ends : endF (a - 1) S ≤ i
  mem : ∀ n : Int, inB S n = true ↔ (a ≤ n ∧ n < i) ∧ g n = v
theorem Upto.no {g : Int → Bool} {v : Bool} {a : Int} {i : Nat} {S : List S27} (h : Upto g v a i S) (hg : g i ≠ v) : Upto g v a (i + 1) S :=
  ⟨h.sp, by have := h.ends; omega, fun n => by
    rw [h.mem n]
    refine ⟨fun q => ⟨by omega, q.2⟩, fun q => ⟨⟨q.1.1, ?_⟩, q.2⟩⟩
    rcases Int.lt_or_le n i with c | c
    · exact c
    · obtain rfl : n = i := by omega
      exact absurd q.2 hg⟩
theorem upto_mem {g : Int → Bool} {v : Bool} {a : Int} {i : Nat} (ha : a ≤ i) (hg : g i = v) (n : Int) : ((a ≤ n ∧ n < i) ∧ g n = v) ∨ n = i ↔ (a ≤ n ∧ n < ((i + 1 : Nat) : Int)) ∧ g n = v := by
  constructor
  · rintro (q | rfl)
    · exact ⟨by omega, q.2⟩
    · exact ⟨by omega, hg⟩
  · rintro ⟨q, q2⟩
    rcases Int.lt_or_le n i with c | c
    · exact .inl ⟨⟨q.1, c⟩, q2⟩
    · exact .inr (by omega)
theorem Upto.new {g : Int → Bool} {v : Bool} {a : Int} {i : Nat} {S : List S27} (h : Upto g v a i S) (ha : a ≤ i) (hi : i < 4096) (hg : g i = v) (he : endF (a - 1) S < i) : Upto g v a (i + 1) (S ++ [⟨i, ((i + 1 : Nat) : Int)⟩]) :=
  ⟨(Sp_app _ _ _).2 ⟨h.sp, he, by show (i : Int) < ((i + 1 : Nat) : Int); omega, by show ((i + 1 : Nat) : Int) ≤ 4096; omega, trivial⟩, by rw [endF_app]; exact Int.le_refl _, fun n => by
    rw [in_app, in1, h.mem n, ← upto_mem ha hg n]
    exact or_congr Iff.rfl (by omega)⟩
theorem Upto.more {g : Int → Bool} {v : Bool} {a : Int} {i : Nat} {p : List S27} {z : S27} (h : Upto g v a i (p ++ [z])) (ha : a ≤ i) (hi : i < 4096) (hg : g i = v) (he : z.f1 = i) : Upto g v a (i + 1) (p ++ [⟨z.f0, ((i + 1 : Nat) : Int)⟩]) := by
  obtain ⟨h1, h2, h3⟩ := h
  have hs := (Sp_app _ _ _).1 h1
  obtain ⟨s1, s2, s3, s4, _⟩ := hs
  refine ⟨(Sp_app _ _ _).2 ⟨s1, s2, by show z.f0 < ((i + 1 : Nat) : Int); omega, by show ((i + 1 : Nat) : Int) ≤ 4096; omega, trivial⟩, by rw [endF_app]; exact Int.le_refl _, fun n => ?_⟩
  have := h3 n
  rw [in_app, in_cons] at this
  rw [in_app, in1, ← upto_mem ha hg n, ← this, or_assoc]
  refine or_congr Iff.rfl ?_
  constructor
  · intro q
    rcases Int.lt_or_le n i with c | c
    · exact .inl (.inl ⟨q.1, by omega⟩)
    · exact .inr (by omega)
  · rintro ((q | q) | q)
    · omega
    · exact absurd q (in_nil n)
    · omega
theorem Upto.short {g : Int → Bool} {v : Bool} {a : Int} {i : Nat} {S : List S27} (h : Upto g v a i S) (ha : 0 ≤ a) : S.length ≤ 10000 := (h.sp.weak (by omega) : Sp (-1) S).short
theorem refSpans_l0 (g : Int → Bool) (v : Bool) (a b : Int) (ha : 0 ≤ a) (hb : b ≤ 4096) : ∀ (d k i : Nat) (S : List S27), (i : Int) + d = b → a ≤ i → 2 * d + 2 < k → Upto g v a i S → ∃ R, deckleref34_Spans.l0 k (dOf g) b v S (i : Int) = some R ∧ Upto g v a b.toNat R
  | 0, k, i, S, h, hai, hk, hU => by
    obtain ⟨k, rfl⟩ : ∃ m, k = m + 2 := ⟨k - 2, by omega⟩
    rw [deckleref34_Spans.l0, if_neg (by omega), deckleref34_Spans.j1, if_neg (by decide)]
    exact ⟨S, rfl, by rw [← h]; simpa using hU⟩
  | d + 1, k, i, S, h, hai, hk, hU => by
    obtain ⟨k, rfl⟩ : ∃ m, k = m + 2 := ⟨k - 2, by omega⟩
    have hl := hU.short ha
    have hi : i < 4096 := by omega
    rw [deckleref34_Spans.l0, if_pos (by omega), deckleref34_Spans.j1, decide_eq_true (show (i : Int) < ((dOf g).length : Int) by rw [dOf_len]; omega), if_pos rfl, if_pos (by omega), if_pos (by rw [dOf_len]; omega), dOf_rd g i hi, w64n i (by omega)]
    by_cases c : g i = v
    · rw [if_neg (by rw [c, bne_self_eq_false]; decide)]
      rcases List.eq_nil_or_concat S with rfl | ⟨p, z, rfl⟩
      · rw [if_neg (by simp), if_pos (by simp)]
        exact refSpans_l0 g v a b ha hb d k (i + 1) _ (by omega) (by omega) (by omega) (hU.new hai hi c (by show a - 1 < (i : Int); omega))
      · rw [List.concat_eq_append] at hU hl ⊢
        have e : wrap64 (((p ++ [z]).length : Int) - 1) = (p.length : Int) := by
          rw [List.length_append, List.length_singleton] at hl ⊢
          rw [Go.IntWalk.wrap64_in _ ⟨by omega, by omega⟩]; omega
        rw [e, rd_end, Int.toNat_natCast, set_end, if_pos (by simp <;> omega), if_pos (by omega), if_pos (by simp <;> omega)]
        by_cases c2 : z.f1 = i
        · rw [if_pos c2]
          exact refSpans_l0 g v a b ha hb d k (i + 1) _ (by omega) (by omega) (by omega) (hU.more hai hi c c2)
        · rw [if_neg c2, if_pos (by omega)]
          have := hU.ends
          rw [endF_app] at this
          exact refSpans_l0 g v a b ha hb d k (i + 1) _ (by omega) (by omega) (by omega) (hU.new hai hi c (by rw [endF_app]; omega))
    · rw [if_pos (bne_iff_ne.2 c)]
      exact refSpans_l0 g v a b ha hb d k (i + 1) S (by omega) (by omega) (by omega) (hU.no c)
/-- The document's spans of some numbers: those, in order. -/
theorem refSpans (g : Int → Bool) (v : Bool) (a b : Int) (ha : 0 ≤ a) (hab : a ≤ b) (hb : b ≤ 4096) : ∃ R, deckleref34_Spans.f 10000 (dOf g) a b v = some R ∧ Sp (-1) R ∧ ∀ n : Int, inB R n = true ↔ (a ≤ n ∧ n < b) ∧ g n = v := by
  obtain ⟨i, rfl⟩ := Int.eq_ofNat_of_zero_le ha
  obtain ⟨m, rfl⟩ := Int.eq_ofNat_of_zero_le (show 0 ≤ b by omega)
  obtain ⟨R, h1, h2⟩ := refSpans_l0 g v (i : Int) (m : Int) ha hb (m - i) 10000 i [] (by omega) (Int.le_refl _) (by omega) ⟨trivial, by show (i : Int) - 1 ≤ i; omega, fun n => ⟨fun q => absurd q (in_nil n), fun q => by omega⟩⟩
  exact ⟨R, h1, h2.sp.weak (by omega), fun n => by rw [h2.mem n, Int.toNat_natCast]⟩
theorem refSpans_all {L : List S27} (hs : Sp (-1) L) : deckleref34_Spans.f 10000 (dOf (inB L)) 0 4096 true = some L := by
  obtain ⟨R, h1, h2, h3⟩ := refSpans (inB L) true 0 4096 (by omega) (by omega) (by omega)
  rw [h1, Sp_uniq h2 hs (fun n => by rw [h3 n]; exact ⟨fun q => q.2, fun q => ⟨by have := Sp_in hs n q; omega, q⟩⟩)]
end Go.Proofs.Ytaandjafmmpbkaa.PQ
