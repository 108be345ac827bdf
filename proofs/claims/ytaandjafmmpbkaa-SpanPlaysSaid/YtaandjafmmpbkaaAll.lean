/- What the calls of a set do, told by its numbers. -/
import Derived.Test.YtaandjafmmpbkaaPure
namespace Go.Proofs.Ytaandjafmmpbkaa.PQ
open Go.RowKit Go.Proofs.YtaandjafmmpbkaaW.PrintWords Go.Proofs.YtaandjafmmpbkaaW.PrintLast Go.Proofs.YtaandjafmmpbkaaW.PrintMore
set_option linter.unusedVariables false
set_option linter.unusedSimpArgs false
theorem Sp.short {l : List S27} (h : Sp (-1) l) : l.length ≤ 10000 := by have := h.len (by omega); omega
/-- What a set's numbers are behind an adding. -/
def AddP (l l' : List S27) (a b : Int) : Prop := ∀ n, inB l' n = true ↔ inB l n = true ∨ (mayB a b = true ∧ a ≤ n ∧ n < b)
def RemP (l l' : List S27) (a b : Int) : Prop := ∀ n, inB l' n = true ↔ inB l n = true ∧ ¬ (mayB a b = true ∧ a ≤ n ∧ n < b)
def NextP (l : List S27) (n x : Int) : Prop := (x = -1 ∧ ∀ m, max n 0 ≤ m → ¬ (inB l m = true)) ∨ (max n 0 ≤ x ∧ inB l x = true ∧ ∀ m, max n 0 ≤ m → m < x → ¬ (inB l m = true))
def GapP (l G : List S27) (a b : Int) : Prop := ∀ n, inB G n = true ↔ (mayB a b = true ∧ a ≤ n ∧ n < b) ∧ ¬ (inB l n = true)
def codeM (a b : Int) : Int := if mayB a b = true then 0 else 1
theorem Ch.of0 {P : Nat} {w w' : World} (h : Below w.heap.size w w') : Ch (fun k => k = P) w w' := Ch.of_below h
section
variable (l : List S27) (P base : Nat) (v : Value) (a b : Int) (w : World)
theorem add_all (H : Aside0 (SetAt l P base v w)) (hS : Aside0 (Sp (-1) l)) (hbase : Hid (base ≤ w.heap.size)) :
    Calls Try.prog 8 #[.pointer (some ⟨P, 0, none⟩), .agg #[.int .i64 a, .int .i64 b]] w fun e w' => e = .returned (.int .i64 (codeM a b)) ∧ Aside0 (∃ l' u, SetAt l' P base u w' ∧ Ch (fun k => k = P) w w' ∧ Sp (-1) l' ∧ AddP l l' a b) := by
  by_cases hm : 0 ≤ a ∧ a ≤ b ∧ b ≤ 4096
  · have em : mayB a b = true := decide_eq_true hm
    rw [show codeM a b = 0 from if_pos em]
    rcases Int.lt_or_le a b with hab | hab
    · refine (add_core l P base v a b (-1) w H hS (by omega) hS.out.short hm.1 hab hm.2.2 hbase).mono ?_
      rintro e w' ⟨rfl, ⟨i, u, hi, h1, h2⟩⟩
      have h := add_ok hS.out (by omega) hi hab hm.2.2
      exact ⟨rfl, ⟨_, u, h1, h2, h.1, fun n => by rw [h.2 n, em]; simp⟩⟩
    · obtain rfl : a = b := by omega
      refine (add_empty P a w ⟨hm.1, hm.2.2⟩).mono ?_
      rintro e w' ⟨rfl, hb⟩
      exact ⟨rfl, ⟨l, v, H.out.below hb, Ch.of0 hb, hS.out, fun n => ⟨.inl, fun q => q.elim id (fun q => by omega)⟩⟩⟩
  · have em : mayB a b = false := decide_eq_false hm
    rw [show codeM a b = 1 from if_neg (by rw [em]; decide)]
    refine (add_no P a b w hm).mono ?_
    rintro e w' ⟨rfl, hb⟩
    exact ⟨rfl, ⟨l, v, H.out.below hb, Ch.of0 hb, hS.out, fun n => ⟨.inl, fun q => q.elim id (fun q => by rw [em] at q; exact absurd q.1 (by decide))⟩⟩⟩
theorem rem_all (H : Aside0 (SetAt l P base v w)) (hS : Aside0 (Sp (-1) l)) (hbase : Hid (base ≤ w.heap.size)) :
    Calls Try.prog 10 #[.pointer (some ⟨P, 0, none⟩), .agg #[.int .i64 a, .int .i64 b]] w fun e w' => e = .returned (.int .i64 (codeM a b)) ∧ Aside0 (∃ l' u, SetAt l' P base u w' ∧ Ch (fun k => k = P) w w' ∧ Sp (-1) l' ∧ RemP l l' a b) := by
  by_cases hm : 0 ≤ a ∧ a ≤ b ∧ b ≤ 4096
  · have em : mayB a b = true := decide_eq_true hm
    rw [show codeM a b = 0 from if_pos em]
    rcases Int.lt_or_le a b with hab | hab
    · refine (remove_core l P base v a b (-1) w H hS (by omega) hS.out.short hm.1 hab hm.2.2 hbase).mono ?_
      rintro e w' ⟨rfl, ⟨i, u, hi, h1, h2⟩⟩
      have h := rem_ok hS.out (by omega) hi hab
      exact ⟨rfl, ⟨_, u, h1, h2, h.1, fun n => by rw [h.2 n, em]; simp⟩⟩
    · obtain rfl : a = b := by omega
      refine (remove_empty P a w ⟨hm.1, hm.2.2⟩).mono ?_
      rintro e w' ⟨rfl, hb⟩
      exact ⟨rfl, ⟨l, v, H.out.below hb, Ch.of0 hb, hS.out, fun n => ⟨fun q => ⟨q, by omega⟩, fun q => q.1⟩⟩⟩
  · have em : mayB a b = false := decide_eq_false hm
    rw [show codeM a b = 1 from if_neg (by rw [em]; decide)]
    refine (remove_no P a b w hm).mono ?_
    rintro e w' ⟨rfl, hb⟩
    exact ⟨rfl, ⟨l, v, H.out.below hb, Ch.of0 hb, hS.out, fun n => ⟨fun q => ⟨q, fun q => by rw [em] at q; exact absurd q.1 (by decide)⟩, fun q => q.1⟩⟩⟩
theorem next_all (n : Int) (H : Aside0 (SetAt l P base v w)) (hS : Aside0 (Sp (-1) l)) :
    Calls Try.prog 14 #[.pointer (some ⟨P, 0, none⟩), .int .i64 n] w fun e w' => Aside0 (∃ x, e = .returned (.int .i64 x) ∧ NextP l n x ∧ Below w.heap.size w w') := by
  rcases Int.lt_or_le 4096 n with h | h
  · refine (next_big P n w h).mono ?_
    rintro e w' ⟨rfl, rfl⟩
    exact ⟨⟨-1, rfl, .inl ⟨rfl, fun m hm q => by have := Sp_in hS.out m q; omega⟩, Below.refl _ _⟩⟩
  · refine (next_core l P base v n (-1) w H hS (by omega) hS.out.short h).mono ?_
    rintro e w' ⟨⟨i, rfl, hi, hb⟩⟩
    exact ⟨⟨_, rfl, next_spec hS.out (by omega) hi (by omega), hb⟩⟩
theorem has_all (n : Int) (H : Aside0 (SetAt l P base v w)) (hS : Aside0 (Sp (-1) l)) :
    Calls Try.prog 12 #[.pointer (some ⟨P, 0, none⟩), .int .i64 n] w fun e w' => e = .returned (.bool (inB l n)) ∧ Below w.heap.size w w' :=
  has_core l P base v n (-1) w H hS (by omega) hS.out.short
theorem meets_all (H : Aside0 (SetAt l P base v w)) (hS : Aside0 (Sp (-1) l)) :
    Calls Try.prog 16 #[.pointer (some ⟨P, 0, none⟩), .agg #[.int .i64 a, .int .i64 b]] w fun e w' => Aside0 (∃ r, e = .returned (.bool r) ∧ (r = true ↔ mayB a b = true ∧ ∃ n, a ≤ n ∧ n < b ∧ inB l n = true) ∧ Below w.heap.size w w') := by
  by_cases hm : 0 ≤ a ∧ a ≤ b ∧ b ≤ 4096
  · have em : mayB a b = true := decide_eq_true hm
    rcases Int.lt_or_le a b with hab | hab
    · refine (meets_core l P base v a b (-1) w H hS (by omega) hS.out.short hm.1 hab hm.2.2).mono ?_
      rintro e w' ⟨⟨i, rfl, hi, hb⟩⟩
      exact ⟨⟨_, rfl, (meet_iff b hS.out (by omega) hi hm.1).trans ⟨fun q => ⟨em, q⟩, fun q => q.2⟩, hb⟩⟩
    · obtain rfl : a = b := by omega
      refine (meets_empty P a w ⟨hm.1, hm.2.2⟩).mono ?_
      rintro e w' ⟨rfl, hb⟩
      exact ⟨⟨_, rfl, ⟨fun q => absurd q (by decide), fun ⟨_, n, q0, q1, _⟩ => by omega⟩, hb⟩⟩
  · have em : mayB a b = false := decide_eq_false hm
    refine (meets_no P a b w hm).mono ?_
    rintro e w' ⟨rfl, hb⟩
    exact ⟨⟨_, rfl, ⟨fun q => absurd q (by decide), fun q => by rw [em] at q; exact absurd q.1 (by decide)⟩, hb⟩⟩
theorem gap_nil {l : List S27} {a b : Int} {i : Nat} (hS : Sp (-1) l) (ha : 0 ≤ a) (hi : At l (a + 1) i) (hb : b ≤ 4096) : (gapL l a b i).length = 0 ↔ ∀ n, a ≤ n → n < b → inB l n = true := by
  have h := gap_ok hS (by omega) hi hb
  constructor
  · intro e n q0 q1
    rw [List.length_eq_zero_iff] at e
    have := h.2 n
    rw [e] at this
    cases hn : inB l n
    · exact absurd (this.2 ⟨⟨q0, q1⟩, by rw [hn]; decide⟩) (in_nil n)
    · rfl
  · intro hh
    rw [Sp_none h.1 (fun n q => ((h.2 n).1 q).2 (hh n ((h.2 n).1 q).1.1 ((h.2 n).1 q).1.2))]
    rfl
theorem covers_all (H : Aside0 (SetAt l P base v w)) (hS : Aside0 (Sp (-1) l)) :
    Calls Try.prog 15 #[.pointer (some ⟨P, 0, none⟩), .agg #[.int .i64 a, .int .i64 b]] w fun e w' => Aside0 (∃ r, e = .returned (.bool r) ∧ (r = true ↔ mayB a b = true ∧ ∀ n, a ≤ n → n < b → inB l n = true) ∧ Below w.heap.size w w') := by
  by_cases hm : 0 ≤ a ∧ a ≤ b ∧ b ≤ 4096
  · have em : mayB a b = true := decide_eq_true hm
    rcases Int.lt_or_le a b with hab | hab
    · refine (covers_core l P base v a b (-1) w H hS (by omega) hS.out.short hm.1 hab hm.2.2).mono ?_
      rintro e w' ⟨⟨i, rfl, hi, hb⟩⟩
      exact ⟨⟨_, rfl, decide_eq_true_iff.trans ((gap_nil hS.out hm.1 hi hm.2.2).trans ⟨fun q => ⟨em, q⟩, fun q => q.2⟩), hb⟩⟩
    · obtain rfl : a = b := by omega
      refine (covers_empty P a w ⟨hm.1, hm.2.2⟩).mono ?_
      rintro e w' ⟨rfl, hb⟩
      exact ⟨⟨_, rfl, ⟨fun _ => ⟨em, fun n q0 q1 => by omega⟩, fun _ => rfl⟩, hb⟩⟩
  · have em : mayB a b = false := decide_eq_false hm
    refine (covers_no P a b w hm).mono ?_
    rintro e w' ⟨rfl, hb⟩
    exact ⟨⟨_, rfl, ⟨fun q => absurd q (by decide), fun q => by rw [em] at q; exact absurd q.1 (by decide)⟩, hb⟩⟩
theorem gaps_all (H : Aside0 (SetAt l P base v w)) (hS : Aside0 (Sp (-1) l)) :
    Calls Try.prog 17 #[.pointer (some ⟨P, 0, none⟩), .agg #[.int .i64 a, .int .i64 b]] w fun e w' => Aside0 (∃ u G, e = .returned u ∧ OwnS w' w.heap.size u G ∧ Sp (-1) G ∧ GapP l G a b ∧ Below w.heap.size w w') := by
  by_cases hm : 0 ≤ a ∧ a ≤ b ∧ b ≤ 4096
  · have em : mayB a b = true := decide_eq_true hm
    rcases Int.lt_or_le a b with hab | hab
    · refine (gaps_core l P base v a b (-1) w H hS (by omega) hS.out.short hm.1 hab hm.2.2).mono ?_
      rintro e w' ⟨⟨i, u, rfl, hi, ho, hb⟩⟩
      have h := gap_ok hS.out (by omega) hi hm.2.2
      exact ⟨⟨u, _, rfl, ho, h.1.weak (by omega), fun n => by rw [h.2 n, em]; simp, hb⟩⟩
    · obtain rfl : a = b := by omega
      refine (gaps_empty P a w ⟨hm.1, hm.2.2⟩).mono ?_
      rintro e w' ⟨rfl, hb⟩
      exact ⟨⟨_, [], rfl, ownS (Kd.R_nil k27 27 w' w.heap.size (fun _ => True)), trivial, fun n => ⟨fun q => absurd q (in_nil n), fun q => by omega⟩, hb⟩⟩
  · have em : mayB a b = false := decide_eq_false hm
    refine (gaps_no P a b w hm).mono ?_
    rintro e w' ⟨rfl, hb⟩
    exact ⟨⟨_, [], rfl, ownS (Kd.R_nil k27 27 w' w.heap.size (fun _ => True)), trivial, fun n => ⟨fun q => absurd q (in_nil n), fun q => by rw [em] at q; exact absurd q.1.1 (by decide)⟩, hb⟩⟩
theorem count_all (H : Aside0 (SetAt l P base v w)) (hS : Aside0 (Sp (-1) l)) :
    Calls Try.prog 13 #[.pointer (some ⟨P, 0, none⟩)] w fun e w' => e = .returned (.int .i64 (cntK l l.length)) ∧ Below w.heap.size w w' :=
  count_core l P base v (-1) w H hS (by omega) hS.out.short
end
set_option maxHeartbeats 2000000 in
set_option maxRecDepth 100000 in
theorem new_core (w : World) : Calls Try.prog 7 #[] w fun e w' => e = .returned (.pointer (some ⟨w.heap.size, 0, none⟩)) ∧ Aside0 (SetAt [] w.heap.size w.heap.size (.slice none 0 0) w' ∧ Below w.heap.size w w') := by
  have hfin : Aside0 (SetAt [] w.heap.size w.heap.size (.slice none 0 0) (w.alloc (.cells #[.slice none 0 0] 51)) ∧ Below w.heap.size w (w.alloc (.cells #[.slice none 0 0] 51))) :=
    ⟨⟨heap_alloc_new w _, ownS (Kd.R_nil k27 27 _ _ (fun _ => True))⟩, (Below.refl _ _).alloc (Nat.le_refl _) _⟩
  go_enter Try.func7, Try.ntmps7
  go_wp2
  go_ret
  exact ⟨rfl, hfin⟩
end Go.Proofs.Ytaandjafmmpbkaa.PQ
