/- The example, walked. -/
import Derived.Test.YtaandjafmmpbkaaAll
import Derived.Outline
import Derived.OwnWalk
namespace Go.Proofs.Ytaandjafmmpbkaa.PQ
open Go.RowKit Go.Proofs.YtaandjafmmpbkaaW.PrintWords Go.Proofs.YtaandjafmmpbkaaW.PrintLast Go.Proofs.YtaandjafmmpbkaaW.PrintMore
set_option linter.unusedVariables false
set_option linter.unusedSimpArgs false
theorem same_l0 (l : List S27) (hl : l.length ≤ 100000) : ∀ (m j : Nat), j + m = l.length → decklebook_SameSpans.l0 (m + 1) l l true (j : Int) = some true
  | 0, j, h => by
    unfold decklebook_SameSpans.l0
    rw [if_pos rfl, if_neg (by omega)]
  | m + 1, j, h => by
    unfold decklebook_SameSpans.l0
    rw [if_pos rfl, if_pos (by omega), if_pos (by omega), if_pos (by omega)]
    rw [show wrap64 ((j : Int) + 1) = ((j + 1 : Nat) : Int) by rw [Go.IntWalk.wrap64_in _ ⟨by omega, by omega⟩]; omega, beq_self_eq_true, beq_self_eq_true, Bool.and_self]
    exact same_l0 l hl m (j + 1) (by omega)
theorem same_calls (l : List S27) (hl : l.length ≤ 100000) (A0 A1 : Option Addr) (c0 c1 : Nat) (w : World) (hr0 : Kd.C k27 w A0 l.length l) (hc0 : l.length ≤ c0) (hr1 : Kd.C k27 w A1 l.length l) (hc1 : l.length ≤ c1) :
    Calls Try.prog 24 #[.slice A0 l.length c0, .slice A1 l.length c1] w fun e w' => e = .returned (.bool true) ∧ Below w.heap.size w w' := by
  refine (decklebook_SameSpans.calls (l.length + 1) A0 c0 l A1 c1 l true w hr0 hc0 hr1 hc1 ?_).mono fun e w' h => ⟨h.1, drawn_any h.2⟩
  unfold decklebook_SameSpans.f
  rw [beq_self_eq_true]
  exact same_l0 l hl l.length 0 (by omega)
theorem OwnS.ch {w w' : World} {b P : Nat} {u : Value} {l : List S27} (h : OwnS w b u l) (hc : Ch (fun k => k = P) w w') (hP : P < b) : OwnS w' b u l :=
  Kd.R_mono (Kd.R_step (Kd.R_bound h) (fun k ho hk => hc.block k hk (fun e => by have := ho.2.1; omega))) (fun _ hk => hk.1)
/-- A set that the law has made: its block is the first of the call. -/
structure LawAt (l : List S27) (P : Nat) (w0 w : World) : Prop where
  set : ∃ v, SetAt l P P v w
  sp : Sp (-1) l
  bel : Below w0.heap.size w0 w
  ge : w0.heap.size ≤ P
theorem LawAt.new {w w' : World} (h : SetAt [] w.heap.size w.heap.size (.slice none 0 0) w') (hb : Below w.heap.size w w') : LawAt [] w.heap.size w w' := ⟨⟨_, h⟩, trivial, hb, Nat.le_refl _⟩
theorem LawAt.below {l : List S27} {P : Nat} {w0 w w' : World} (h : LawAt l P w0 w) (hb : Below w.heap.size w w') : LawAt l P w0 w' := by
  obtain ⟨⟨v, hv⟩, h1, h2, h3⟩ := h
  exact ⟨⟨v, hv.below hb⟩, h1, h2.trans (hb.mono h2.size), h3⟩
theorem LawAt.lt {l : List S27} {P : Nat} {w0 w : World} (h : LawAt l P w0 w) : P < w.heap.size := by
  obtain ⟨v, hv⟩ := h.set
  exact hv.lt
theorem LawAt.step {l l' : List S27} {P : Nat} {w0 w w' : World} {u : Value} (h : LawAt l P w0 w) (hu : SetAt l' P P u w') (hc : Ch (fun k => k = P) w w') (hs : Sp (-1) l') : LawAt l' P w0 w' :=
  ⟨⟨u, hu⟩, hs, h.bel.trans (hc.below h.bel.size (fun k e => by have := h.ge; omega)), h.ge⟩
section
variable (l : List S27) (P : Nat) (a b : Int) (w0 w : World) (H : Aside0 (LawAt l P w0 w))
include H
theorem law_add : Calls Try.prog 8 #[.pointer (some ⟨P, 0, none⟩), .agg #[.int .i64 a, .int .i64 b]] w fun e w' => e = .returned (.int .i64 (codeM a b)) ∧ Aside0 (∃ l', LawAt l' P w0 w' ∧ Ch (fun k => k = P) w w' ∧ AddP l l' a b) := by
  obtain ⟨v, hv⟩ := H.out.set
  refine (add_all l P P v a b w ⟨hv⟩ ⟨H.out.sp⟩ (Lib.hid (Nat.le_of_lt hv.lt))).mono ?_
  rintro e w' ⟨rfl, ⟨l', u, h1, h2, h3, h4⟩⟩
  exact ⟨rfl, ⟨l', H.out.step h1 h2 h3, h2, h4⟩⟩
theorem law_rem : Calls Try.prog 10 #[.pointer (some ⟨P, 0, none⟩), .agg #[.int .i64 a, .int .i64 b]] w fun e w' => e = .returned (.int .i64 (codeM a b)) ∧ Aside0 (∃ l', LawAt l' P w0 w' ∧ Ch (fun k => k = P) w w' ∧ RemP l l' a b) := by
  obtain ⟨v, hv⟩ := H.out.set
  refine (rem_all l P P v a b w ⟨hv⟩ ⟨H.out.sp⟩ (Lib.hid (Nat.le_of_lt hv.lt))).mono ?_
  rintro e w' ⟨rfl, ⟨l', u, h1, h2, h3, h4⟩⟩
  exact ⟨rfl, ⟨l', H.out.step h1 h2 h3, h2, h4⟩⟩
theorem law_next (n : Int) : Calls Try.prog 14 #[.pointer (some ⟨P, 0, none⟩), .int .i64 n] w fun e w' => Aside0 (∃ x, e = .returned (.int .i64 x) ∧ NextP l n x ∧ Below w.heap.size w w') := by
  obtain ⟨v, hv⟩ := H.out.set
  exact next_all l P P v w n ⟨hv⟩ ⟨H.out.sp⟩
theorem law_has (n : Int) : Calls Try.prog 12 #[.pointer (some ⟨P, 0, none⟩), .int .i64 n] w fun e w' => e = .returned (.bool (inB l n)) ∧ Below w.heap.size w w' := by
  obtain ⟨v, hv⟩ := H.out.set
  exact has_all l P P v w n ⟨hv⟩ ⟨H.out.sp⟩
theorem law_meets : Calls Try.prog 16 #[.pointer (some ⟨P, 0, none⟩), .agg #[.int .i64 a, .int .i64 b]] w fun e w' => Aside0 (∃ r, e = .returned (.bool r) ∧ (r = true ↔ mayB a b = true ∧ ∃ n, a ≤ n ∧ n < b ∧ inB l n = true) ∧ Below w.heap.size w w') := by
  obtain ⟨v, hv⟩ := H.out.set
  exact meets_all l P P v a b w ⟨hv⟩ ⟨H.out.sp⟩
theorem law_covers : Calls Try.prog 15 #[.pointer (some ⟨P, 0, none⟩), .agg #[.int .i64 a, .int .i64 b]] w fun e w' => Aside0 (∃ r, e = .returned (.bool r) ∧ (r = true ↔ mayB a b = true ∧ ∀ n, a ≤ n → n < b → inB l n = true) ∧ Below w.heap.size w w') := by
  obtain ⟨v, hv⟩ := H.out.set
  exact covers_all l P P v a b w ⟨hv⟩ ⟨H.out.sp⟩
theorem law_gaps : Calls Try.prog 17 #[.pointer (some ⟨P, 0, none⟩), .agg #[.int .i64 a, .int .i64 b]] w fun e w' => Aside0 (∃ u G, e = .returned u ∧ OwnS w' w.heap.size u G ∧ Sp (-1) G ∧ GapP l G a b ∧ Below w.heap.size w w') := by
  obtain ⟨v, hv⟩ := H.out.set
  exact gaps_all l P P v a b w ⟨hv⟩ ⟨H.out.sp⟩
theorem law_count : Calls Try.prog 13 #[.pointer (some ⟨P, 0, none⟩)] w fun e w' => e = .returned (.int .i64 (cntK l l.length)) ∧ Below w.heap.size w w' := by
  obtain ⟨v, hv⟩ := H.out.set
  exact count_all l P P v w ⟨hv⟩ ⟨H.out.sp⟩
theorem law_spans : Calls Try.prog 11 #[.pointer (some ⟨P, 0, none⟩)] w fun e w' => Aside0 (∃ u, e = .returned u ∧ OwnS w' w.heap.size u l ∧ Below w.heap.size w w') := by
  obtain ⟨v, hv⟩ := H.out.set
  exact spans_core l P P v w ⟨hv⟩ H.out.sp.short
end
theorem in1 (x0 x1 n : Int) : inB [⟨x0, x1⟩] n = true ↔ x0 ≤ n ∧ n < x1 := by
  rw [in_cons]; exact ⟨fun q => q.elim id (fun q => absurd q (in_nil n)), .inl⟩
theorem in2 (x0 x1 y0 y1 n : Int) : inB [⟨x0, x1⟩, ⟨y0, y1⟩] n = true ↔ (x0 ≤ n ∧ n < x1) ∨ (y0 ≤ n ∧ n < y1) := by
  rw [in_cons, in1]
theorem add1 {l' : List S27} (hs : Sp (-1) l') (h : AddP [] l' 2 5) : l' = [⟨2, 5⟩] := by
  refine Sp_uniq hs (show Sp (-1) [⟨2, 5⟩] by simp [Sp]) (fun n => ?_)
  rw [h n, in_cons]
  have := in_nil n
  have em : mayB 2 5 = true := by decide
  simp [this, em]
theorem add2 {l' : List S27} (hs : Sp (-1) l') (h : AddP [⟨2, 5⟩] l' 5 7) : l' = [⟨2, 7⟩] := by
  refine Sp_uniq hs (show Sp (-1) [⟨2, 7⟩] by simp [Sp]) (fun n => ?_)
  have em : mayB 5 7 = true := by decide
  rw [h n, in1, in1, em]
  constructor
  · rintro (q | ⟨_, q⟩) <;> omega
  · intro q
    by_cases c : n < 5
    · exact .inl (by omega)
    · exact .inr ⟨rfl, by omega⟩
theorem add3 {l' : List S27} (hs : Sp (-1) l') (h : AddP [⟨2, 7⟩] l' 5 4) : l' = [⟨2, 7⟩] := by
  refine Sp_uniq hs (show Sp (-1) [⟨2, 7⟩] by simp [Sp]) (fun n => ?_)
  rw [h n]
  have em : mayB 5 4 = false := by decide
  simp [em]
theorem rem1 {l' : List S27} (hs : Sp (-1) l') (h : RemP [⟨2, 7⟩] l' 3 4) : l' = [⟨2, 3⟩, ⟨4, 7⟩] := by
  refine Sp_uniq hs (show Sp (-1) [⟨2, 3⟩, ⟨4, 7⟩] by simp [Sp]) (fun n => ?_)
  have em : mayB 3 4 = true := by decide
  rw [h n, in1, in2, em]
  constructor
  · rintro ⟨q, q2⟩
    by_cases c : n < 3
    · exact .inl (by omega)
    · exact .inr ⟨by rcases Int.lt_or_le n 4 with d | d; exact absurd ⟨rfl, by omega, d⟩ q2; exact d, by omega⟩
  · rintro (q | q)
    · exact ⟨by omega, by rintro ⟨_, q2⟩; omega⟩
    · exact ⟨by omega, by rintro ⟨_, q2⟩; omega⟩
set_option maxHeartbeats 4000000 in
set_option maxRecDepth 100000 in
theorem works_calls (w : World) : Calls Try.prog 6 #[] w fun e w' => e = .returned (.bool true) ∧ Below w.heap.size w w' := by
  have hN := Lib.hid (new_core w)
  have c1 : codeM 2 5 = 0 := by decide
  have c2 : codeM 5 7 = 0 := by decide
  have c3 : codeM 5 4 = 1 := by decide
  have c4 : codeM 3 4 = 0 := by decide
  go_enter Try.func6, Try.ntmps6
  go_wp2_with fail
  refine hN.out.mono ?_
  rintro e w1 ⟨rfl, ⟨hs, hb⟩⟩
  have L1 := Aside0.mk (LawAt.new hs hb)
  clear hs hb hN
  generalize w.heap.size = P at *
  have hC := law_add _ _ 2 5 _ _ L1
  rw [c1] at hC
  replace hC := Lib.hid hC
  go_wp2_with fail
  refine hC.out.mono ?_
  rintro e w2 ⟨rfl, ⟨l', hl, hc, hp⟩⟩
  obtain rfl := add1 hl.sp hp
  have L2 := Aside0.mk hl
  clear hl hc hp hC L1
  have hC := law_add _ _ 5 7 _ _ L2
  rw [c2] at hC
  replace hC := Lib.hid hC
  go_wp2_with fail
  refine hC.out.mono ?_
  rintro e w3 ⟨rfl, ⟨l', hl, hc, hp⟩⟩
  obtain rfl := add2 hl.sp hp
  have L3 := Aside0.mk hl
  clear hl hc hp hC L2
  have hC := law_add _ _ 5 4 _ _ L3
  rw [c3] at hC
  replace hC := Lib.hid hC
  go_wp2_with fail
  refine hC.out.mono ?_
  rintro e w4 ⟨rfl, ⟨l', hl, hc, hp⟩⟩
  obtain rfl := add3 hl.sp hp
  have L4 := Aside0.mk hl
  clear hl hc hp hC L3
  have hC := Lib.hid (law_spans _ _ _ _ L4)
  go_wp2_with fail
  refine hC.out.mono ?_
  rintro e w5 ⟨⟨u, rfl, ho, hb⟩⟩
  have L5 := Aside0.mk (L4.out.below hb)
  have hlt := L4.out.lt
  have HO := Aside0.mk ho
  clear ho hb hC L4
  have hC := law_rem _ _ 3 4 _ _ L5
  rw [c4] at hC
  replace hC := Lib.hid hC
  go_wp2_with fail
  refine hC.out.mono ?_
  rintro e w6 ⟨rfl, ⟨l', hl, hc, hp⟩⟩
  obtain rfl := rem1 hl.sp hp
  have L6 := Aside0.mk hl
  have HO6 := Aside0.mk (HO.out.ch hc hlt)
  clear hl hc hp hC L5 HO
  obtain ⟨A, c, rfl⟩ := Kd.R_slice HO6.out
  have hR := Kd.R_reads' HO6.out
  have hcc := Lib.hid hR.2.1
  have hCr := Aside0.mk hR.2.2
  clear hR HO6
  have hS1 := Lib.hid fun (W : World) (hb : Below w6.heap.size w6 W) (A1 : Option Addr) (h1 : Kd.C k27 W A1 1 [⟨2, 7⟩]) => same_calls [⟨2, 7⟩] (by simp) A A1 c 1 W (Kd.C_below hCr.out hb) hcc.out h1 (by simp)
  go_wp2_with fail
  refine (hS1.out _ ((Below.refl _ _).alloc (Nat.le_refl _) _) _ (C_lit27 _ ⟨2, 7⟩)).mono ?_
  rintro e w7 ⟨rfl, hb⟩
  have L7 := Aside0.mk (L6.out.below ((Below.refl _ _).trans (((Below.refl w6.heap.size w6).alloc (Nat.le_refl _) _).trans (hb.mono ((Below.refl w6.heap.size w6).alloc (Nat.le_refl _) _).size))))
  clear hb hS1 hCr hcc L6 hlt
  have hC := Lib.hid (law_spans _ _ _ _ L7)
  go_wp2_with fail
  refine hC.out.mono ?_
  rintro e w8 ⟨⟨u, rfl, ho, hb⟩⟩
  have L8 := Aside0.mk (L7.out.below hb)
  obtain ⟨A, c, rfl⟩ := Kd.R_slice ho
  have hR := Kd.R_reads' ho
  have hcc := Lib.hid hR.2.1
  have hCr := Aside0.mk hR.2.2
  clear hR ho hb hC L7
  have hS1 := Lib.hid fun (W : World) (hb : Below w8.heap.size w8 W) (A1 : Option Addr) (h1 : Kd.C k27 W A1 2 [⟨2, 3⟩, ⟨4, 7⟩]) => same_calls [⟨2, 3⟩, ⟨4, 7⟩] (by simp) A A1 c 2 W (Kd.C_below hCr.out hb) hcc.out h1 (by simp)
  go_wp2_with fail
  refine (hS1.out _ ((Below.refl _ _).alloc (Nat.le_refl _) _) _ (C_lit27b _ ⟨2, 3⟩ ⟨4, 7⟩)).mono ?_
  rintro e w9 ⟨rfl, hb⟩
  have L9 := Aside0.mk (L8.out.below ((Below.refl _ _).trans (((Below.refl w8.heap.size w8).alloc (Nat.le_refl _) _).trans (hb.mono ((Below.refl w8.heap.size w8).alloc (Nat.le_refl _) _).size))))
  clear hb hS1 hCr hcc L8
  have hC := law_count _ _ _ _ L9
  rw [show cntK [⟨2, 3⟩, ⟨4, 7⟩] ([⟨2, 3⟩, ⟨4, 7⟩] : List S27).length = 4 from by decide] at hC
  replace hC := Lib.hid hC
  go_wp2_with fail
  refine hC.out.mono ?_
  rintro e w10 ⟨rfl, hb⟩
  have L10 := Aside0.mk (L9.out.below hb)
  clear hb L9 hC
  go_wp2
  go_ret
  exact ⟨rfl, L10.out.bel⟩
end Go.Proofs.Ytaandjafmmpbkaa.PQ
