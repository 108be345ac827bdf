/- What the questions come to; the pend beside the document's list. -/
import Derived.Test.YtkamgpjpnjikgaaTold
import Derived.Test.YtkamgpjpnjikgaaRefNote
import Derived.Test.YtkamgpjpnjikgaaSpoil
namespace Go.Proofs.Ytkamgpjpnjikgaa.PQ
open Go.RowKit Go.Proofs.YtkamgpjpnjikgaaW.PrintWords Go.Proofs.YtkamgpjpnjikgaaW.PrintLast Go.Proofs.YtkamgpjpnjikgaaW.PrintMore
set_option linter.unusedVariables false
set_option linter.unusedSimpArgs false
theorem w64n (x : Nat) (h : x ≤ 1000000) : wrap64 ((x : Int) + 1) = ((x + 1 : Nat) : Int) := by rw [Go.IntWalk.wrap64_in _ ⟨by omega, by omega⟩]; omega
theorem trims_pure (l : List S27) (hl : l.length ≤ 100000) : deckleref20_Trims.f (l.length + 1) l = some (trL l : Int) := by
  have key : ∀ m k : Nat, m + k = l.length → deckleref20_Trims.l0 (m + 1) l (trL (l.take k) : Int) (k : Int) = some (trL l : Int) := by
    intro m
    induction m with
    | zero =>
      intro k hk
      unfold deckleref20_Trims.l0
      rw [if_neg (by omega), List.take_of_length_le (by omega)]
    | succ m ih =>
      intro k hk
      unfold deckleref20_Trims.l0
      have hlt : k < l.length := by omega
      rw [if_pos (by omega), if_pos (by omega), rd_get l k hlt, w64n k (by omega)]
      have hs := trL_snoc (l.take k) l[k]
      rw [← List.take_succ_eq_append_getElem hlt] at hs
      have hle := trL_le (l.take k)
      rw [List.length_take] at hle
      have hi := ih (k + 1) (by omega)
      by_cases h1 : (l[k]).f0 = 1
      · rw [if_pos h1] at hs ⊢
        rw [w64n _ (by omega), ← hs]
        exact hi
      · rw [if_neg h1] at hs ⊢
        rw [← hs]
        exact hi
  exact key l.length 0 (by omega)
theorem has_pure (l : List S27) (a : Int) (hl : l.length ≤ 100000) : deckleref20_Has.f (l.length + 1) l a = some (hasL l a) := by
  have key : ∀ m k : Nat, m + k = l.length → deckleref20_Has.l0 (m + 1) l a (k : Int) = some (hasL (l.drop k) a) := by
    intro m
    induction m with
    | zero =>
      intro k hk
      unfold deckleref20_Has.l0
      rw [if_neg (by omega), List.drop_of_length_le (by omega)]
      rfl
    | succ m ih =>
      intro k hk
      unfold deckleref20_Has.l0
      have hlt : k < l.length := by omega
      rw [if_pos (by omega), if_pos (by omega), rd_get l k hlt, w64n k (by omega)]
      rw [List.drop_eq_getElem_cons hlt]
      unfold hasL
      rw [List.any_cons]
      by_cases h1 : (l[k]).f1 = a
      · rw [if_pos h1]
        simp [h1]
      · rw [if_neg h1, ih (k + 1) (by omega)]
        unfold hasL
        simp [h1]
  exact key l.length 0 (by omega)
theorem same_pure (l : List S27) (hl : l.length ≤ 100000) : decklebook_SameRecs.f (l.length + 1) l l = some true := by
  have key : ∀ m k : Nat, m + k = l.length → decklebook_SameRecs.l0 (m + 1) l l true (k : Int) = some true := by
    intro m
    induction m with
    | zero =>
      intro k hk
      unfold decklebook_SameRecs.l0
      rw [if_pos rfl, if_neg (by omega)]
    | succ m ih =>
      intro k hk
      unfold decklebook_SameRecs.l0
      rw [if_pos rfl, if_pos (by omega), if_pos (by omega), if_pos (by omega), w64n k (by omega)]
      simp only [beq_self_eq_true, Bool.and_self]
      exact ih (k + 1) (by omega)
  have h := key l.length 0 (by omega)
  unfold decklebook_SameRecs.f
  rw [beq_self_eq_true]
  exact h
/-- The pend of a list, beside it the document's list; an act's box. -/
structure JJ (Lp Ld : List S27) (P M : Nat) (ov v : Value) (bx : List (Nat × Obj)) (w0 w : World) : Prop where
  pat : ∃ D, PAt w0.heap.size Lp P M ov D w
  row : Kd.R k27 27 w w0.heap.size (fun k => ¬ PB P M ov k) v Ld
  box : ∀ q ∈ bx, w.heap[q.1]? = some q.2
  xb : ∀ q ∈ bx, ¬ PB P M ov q.1
  xv : ∀ q ∈ bx, v.ownBlock ≠ some q.1
  bel : Below w0.heap.size w0 w
  lp : Lp.length ≤ 100000
  ld : Ld.length ≤ 100000
section
variable {Lp Ld : List S27} {P M : Nat} {ov v : Value} {bx : List (Nat × Obj)} {w0 w w' : World}
theorem JJ.below (h : JJ Lp Ld P M ov v bx w0 w) (hb : Below w.heap.size w w') : JJ Lp Ld P M ov v bx w0 w' :=
  ⟨h.pat.elim fun D hD => ⟨D, hD.below hb⟩, Kd.R_below h.row hb, fun q hq => blk_below (h.box q hq) hb, h.xb, h.xv, h.bel.trans (hb.mono h.bel.size), h.lp, h.ld⟩
theorem JJ.drew (h : JJ Lp Ld P M ov v bx w0 w) : JJ Lp Ld P M ov v bx w0 w.drew := h.below (below_drew (Below.refl _ _))
theorem JJ.drewN (h : JJ Lp Ld P M ov v bx w0 w) (n : Nat) : JJ Lp Ld P M ov v bx w0 (w.drewN n) := h.below (pw_below_drewN (Below.refl _ _) n)
theorem JJ.drawn (h : JJ Lp Ld P M ov v bx w0 w) (hd : Drawn0 w w') : JJ Lp Ld P M ov v bx w0 w' := h.below hd.below
theorem JJ.alloc (h : JJ Lp Ld P M ov v bx w0 w) (o : Obj) : JJ Lp Ld P M ov v bx w0 (w.alloc o) := h.below ((Below.refl _ _).alloc (Nat.le_refl _) _)
theorem JJ.push (h : JJ Lp Ld P M ov v bx w0 w) (o : Obj) : JJ Lp Ld P M ov v ((w.heap.size, o) :: bx) w0 (w.alloc o) := by
  have h1 := h.alloc o
  obtain ⟨D, hD⟩ := h.pat
  refine ⟨h1.pat, h1.row, ?_, ?_, ?_, h1.bel, h1.lp, h1.ld⟩
  · intro q hq
    rcases List.mem_cons.1 hq with rfl | hq
    · exact heap_alloc_new w o
    · exact h1.box q hq
  · intro q hq
    rcases List.mem_cons.1 hq with rfl | hq
    · exact fun e => absurd (hD.lt _ e) (Nat.lt_irrefl _)
    · exact h1.xb q hq
  · intro q hq
    rcases List.mem_cons.1 hq with rfl | hq
    · exact fun e => absurd ((Kd.R_bound h.row).1 _ e).2.2.1 (Nat.lt_irrefl _)
    · exact h1.xv q hq
theorem JJ.pop {q : Nat × Obj} (h : JJ Lp Ld P M ov v (q :: bx) w0 w) : JJ Lp Ld P M ov v bx w0 w :=
  ⟨h.pat, h.row, fun q hq => h.box q (List.mem_cons_of_mem _ hq), fun q hq => h.xb q (List.mem_cons_of_mem _ hq), fun q hq => h.xv q (List.mem_cons_of_mem _ hq), h.bel, h.lp, h.ld⟩
theorem JJ.head {q : Nat × Obj} (h : JJ Lp Ld P M ov v (q :: bx) w0 w) : w.heap[q.1]? = some q.2 := h.box q List.mem_cons_self
theorem JJ.set {X i : Nat} {t : TypeId} {cs : Array Value} (h : JJ Lp Ld P M ov v ((X, .cells cs t (0, 0)) :: bx) w0 w) (hb : ∀ q ∈ bx, q.1 ≠ X) (hX : w0.heap.size ≤ X) (u : Value) : JJ Lp Ld P M ov v ((X, .cells (cs.setIfInBounds i u) t (0, 0)) :: bx) w0 (w.setCell ⟨X, i, none⟩ u) := by
  have hg := grown_set w X i u
  have h0 := h.head
  obtain ⟨D, hD⟩ := h.pat
  have hx := h.xb _ List.mem_cons_self
  have hv := h.xv _ List.mem_cons_self
  refine ⟨⟨D, hD.same (fun k hk hp => hg.block k hk (fun e => hx ((Option.some.inj e) ▸ hp)))⟩, ?_, ?_, ?_, ?_, h.bel.grown hg h.bel.size (fun k e => by cases e; exact hX), h.lp, h.ld⟩
  · have h2 := Kd.R_move (w1 := w.setCell ⟨X, i, none⟩ u) (ok := fun k => k ≠ X ∧ ¬ PB P M ov k) ⟨fun k hk => ⟨fun e => hv (e ▸ hk), h.row.1 k hk⟩, h.row.2⟩ (fun k hk => Below.heap_setCell _ _ _ _ hk.1)
    exact Kd.R_mono h2 (fun k hk => hk.2)
  · intro q hq
    rcases List.mem_cons.1 hq with rfl | hq
    · exact blk_set h0 i u
    · exact blk_grown (h.box q (List.mem_cons_of_mem _ hq)) hg (fun e => hb q hq (Option.some.inj e))
  · intro q hq
    rcases List.mem_cons.1 hq with rfl | hq
    · exact hx
    · exact h.xb q (List.mem_cons_of_mem _ hq)
  · intro q hq
    rcases List.mem_cons.1 hq with rfl | hq
    · exact hv
    · exact h.xv q (List.mem_cons_of_mem _ hq)
theorem JJ.new (w : World) : JJ [] [] (w.heap.size + 1) w.heap.size (.slice none 0 0) (.slice none 0 0) [] w ((w.alloc (.map #[] 0)).alloc (.cells #[.map (some w.heap.size), .slice none 0 0] 48)) :=
  ⟨⟨_, PAt.nil w⟩, Kd.R_nil _ _ _ _ _, (fun q hq => absurd hq (by simp)), (fun q hq => absurd hq (by simp)), (fun q hq => absurd hq (by simp)), ((Below.refl _ w).alloc (Nat.le_refl _) _).alloc (by simp) _, by simp, by simp⟩
theorem noteL_len (L : List S27) (r : S27) : (noteL L r).length ≤ L.length + 1 := by
  unfold noteL
  split
  · rw [List.length_append, List.length_singleton]
    have := List.length_filter_le (fun x : S27 => decide (x.f1 ≠ r.f1)) L
    unfold outL
    omega
  · omega
theorem JJ.note (h : Aside0 (JJ Lp Ld P M ov v bx w0 w)) (r : S27) (hr : (Lit.int .i64 r.f1).wf = true) (hL : Lp.length + 1 ≤ 100000) :
    Calls Try.prog 6 #[.pointer (some ⟨P, 0, none⟩), .agg #[.int .i64 r.f0, .int .i64 r.f1, .int .i64 r.f2]] w fun e w' => e = .returned (.int .i64 (codeL r)) ∧ Aside0 (∃ ov', JJ (noteL Lp r) Ld P M ov' v bx w0 w') := by
  obtain ⟨D, hD⟩ := h.out.pat
  refine (note_calls w0.heap.size Lp P M ov D w r hr (by omega) h.out.bel.size ⟨hD⟩).mono ?_
  rintro e w' ⟨rfl, ov', D', h1, h2, h3⟩
  have hfar : ∀ k, k < w.heap.size → ¬ PB P M ov k → ¬ PB P M ov' k := by
    rintro k hk hn (e | e | e)
    · exact hn (.inl e)
    · exact hn (.inr (.inl e))
    · rcases h3 with h3 | ⟨b, h3, hb⟩
      · exact hn (.inr (.inr (h3 ▸ e)))
      · rw [h3] at e; cases e; omega
  refine ⟨rfl, ⟨ov', ⟨D', h1⟩, ?_, fun q hq => (h2.block q.1 (blk_lt (h.out.box q hq)) (h.out.xb q hq)).trans (h.out.box q hq), fun q hq => hfar q.1 (blk_lt (h.out.box q hq)) (h.out.xb q hq), h.out.xv, ?_, ?_, h.out.ld⟩⟩
  · have hb := Kd.R_bound h.out.row
    have hb2 := Kd.R_step hb (fun k hk hlt => h2.block k hlt hk.1)
    exact Kd.R_mono hb2 (fun k hk => hfar k hk.2.2.1 hk.1)
  · exact h.out.bel.trans (h2.below h.out.bel.size (fun k hk => hD.ge k hk))
  · have := noteL_len Lp r; omega
theorem JJ.refNote (h : Aside0 (JJ Lp Ld P M ov v bx w0 w)) (r : S27) (hL : Ld.length + 1 ≤ 100000) :
    Calls Try.prog 7 #[v, .agg #[.int .i64 r.f0, .int .i64 r.f1, .int .i64 r.f2]] w fun e w' => Aside0 (∃ v', e = .returned (.tuple #[v', .int .i64 (codeL r)]) ∧ JJ Lp (noteL Ld r) P M ov v' bx w0 w') := by
  obtain ⟨D, hD⟩ := h.out.pat
  obtain ⟨A, c, rfl⟩ := Kd.R_slice h.out.row
  have hr := Kd.R_reads' h.out.row
  refine (refNote_calls Ld A c r w (by omega) hr.2.1 ⟨hr.2.2⟩).mono ?_
  rintro e w' ⟨v', rfl, h1, hb⟩
  have hn := noteL_len Ld r
  rcases h1 with ⟨rfl, e1⟩ | h1
  · have := h.out.below hb
    exact ⟨_, rfl, by rw [e1]; exact this⟩
  · refine ⟨v', rfl, ⟨D, hD.below hb⟩, ?_, fun q hq => blk_below (h.out.box q hq) hb, h.out.xb, fun q hq e => ?_, h.out.bel.trans (hb.mono h.out.bel.size), h.out.lp, by omega⟩
    · have h2 := Kd.R_bound h1
      exact Kd.R_lower (Kd.R_mono h2 (fun k hk hp => by have := hD.lt k hp; have := hk.2.1; omega)) h.out.bel.size
    · have := Kd.R_base h1 q.1 e
      have := blk_lt (h.out.box q hq)
      omega
theorem JJ.len (h : Aside0 (JJ Lp Ld P M ov v bx w0 w)) : Calls Try.prog 12 #[.pointer (some ⟨P, 0, none⟩)] w fun e w' => e = .returned (.int .i64 Lp.length) ∧ w' = w := by
  obtain ⟨D, hD⟩ := h.out.pat
  exact len_calls w0.heap.size Lp P M ov D w ⟨hD⟩
theorem JJ.has (h : Aside0 (JJ Lp Ld P M ov v bx w0 w)) (a : Int) (ha : (Lit.int .i64 a).wf = true) : Calls Try.prog 15 #[.pointer (some ⟨P, 0, none⟩), .int .i64 a] w fun e w' => e = .returned (.bool (hasL Lp a)) ∧ Below w.heap.size w w' := by
  obtain ⟨D, hD⟩ := h.out.pat
  exact has_calls w0.heap.size Lp P M ov D w a ha ⟨hD⟩
theorem JJ.trims (h : Aside0 (JJ Lp Ld P M ov v bx w0 w)) : Calls Try.prog 13 #[.pointer (some ⟨P, 0, none⟩)] w fun e w' => e = .returned (.int .i64 (trL Lp)) ∧ Below w.heap.size w w' := by
  obtain ⟨D, hD⟩ := h.out.pat
  exact trims_calls w0.heap.size Lp P M ov D w h.out.lp ⟨hD⟩
theorem JJ.refTrims (h : Aside0 (JJ Lp Ld P M ov v bx w0 w)) : Calls Try.prog 14 #[v] w fun e w' => e = .returned (.int .i64 (trL Ld)) ∧ Below w.heap.size w w' := by
  obtain ⟨A, c, rfl⟩ := Kd.R_slice h.out.row
  have hr := Kd.R_reads' h.out.row
  exact (deckleref20_Trims.calls _ A c Ld _ w hr.2.2 hr.2.1 (trims_pure Ld h.out.ld)).mono fun e w' hh => ⟨hh.1, hh.2.below⟩
theorem JJ.refHas (h : Aside0 (JJ Lp Ld P M ov v bx w0 w)) (a : Int) : Calls Try.prog 16 #[v, .int .i64 a] w fun e w' => e = .returned (.bool (hasL Ld a)) ∧ Below w.heap.size w w' := by
  obtain ⟨A, c, rfl⟩ := Kd.R_slice h.out.row
  have hr := Kd.R_reads' h.out.row
  exact (deckleref20_Has.calls _ A c Ld a _ w hr.2.2 hr.2.1 (has_pure Ld a h.out.ld)).mono fun e w' hh => ⟨hh.1, hh.2.below⟩
theorem JJ.told (h : Aside0 (JJ Lp Lp P M ov v bx w0 w)) (most : Int) : Calls Try.prog 11 #[.pointer (some ⟨P, 0, none⟩), v, .int .i64 most] w fun e w' => e = .returned (.bool true) ∧ Aside0 (JJ Lp Lp P M ov v bx w0 w') := by
  obtain ⟨D, hD⟩ := h.out.pat
  obtain ⟨A, c, rfl⟩ := Kd.R_slice h.out.row
  have hr := Kd.R_reads' h.out.row
  exact (told_calls w0.heap.size Lp P M ov D A c most w h.out.lp ⟨hD⟩ ⟨hr.2.2⟩ hr.2.1).mono fun e w' hh => ⟨hh.1, ⟨h.out.below hh.2⟩⟩
/-- Taken: what came out lies apart. -/
theorem JJ.take (h : Aside0 (JJ Lp Ld P M ov v bx w0 w)) : Calls Try.prog 8 #[.pointer (some ⟨P, 0, none⟩)] w fun e w' => Aside0 (∃ u, e = .returned u ∧ JJ [] Ld P M (.slice none 0 0) v bx w0 w' ∧ Kd.R k27 27 w' w0.heap.size (fun k => ¬ PB P M (.slice none 0 0) k ∧ v.ownBlock ≠ some k ∧ ∀ q ∈ bx, k ≠ q.1) u Lp) := by
  obtain ⟨D, hD⟩ := h.out.pat
  refine (take_calls w0.heap.size Lp P M ov D w h.out.lp ⟨hD⟩).mono ?_
  rintro e w' ⟨u, D', rfl, hR, hP, hC⟩
  have hsub : ∀ k, PB P M (.slice none 0 0) k → PB P M ov k := by
    rintro k (e | e | e)
    · exact .inl e
    · exact .inr (.inl e)
    · cases e
  refine ⟨u, rfl, ⟨⟨D', hP⟩, ?_, fun q hq => (hC.block q.1 (blk_lt (h.out.box q hq)) (h.out.xb q hq)).trans (h.out.box q hq), fun q hq hx => h.out.xb q hq (hsub q.1 hx), h.out.xv, h.out.bel.trans (hC.below h.out.bel.size (fun k hk => hD.ge k hk)), by simp, h.out.ld⟩, ?_⟩
  · have hb2 := Kd.R_step (Kd.R_bound h.out.row) (fun k hk hlt => hC.block k hlt hk.1)
    exact Kd.R_mono hb2 (fun k hk hp => hk.1 (hsub k hp))
  · refine Kd.R_lower (Kd.R_mono (Kd.R_bound hR) (fun k hk => ⟨fun hp => ?_, fun e => ?_, fun q hq e => ?_⟩)) h.out.bel.size
    · have := hD.lt k (hsub k hp); have := hk.2.1; omega
    · have := ((Kd.R_bound h.out.row).1 k e).2.2.1; have := hk.2.1; omega
    · have := blk_lt (h.out.box q hq); have := hk.2.1; omega
theorem JJ.same (h : JJ Lp Ld P M ov v bx w0 w) {u : Value} {ok : Nat → Prop} (hu : Kd.R k27 27 w w0.heap.size ok u Ld) : Calls Try.prog 9 #[u, v] w fun e w' => e = .returned (.bool true) ∧ Drawn0 w w' := by
  obtain ⟨A, c, rfl⟩ := Kd.R_slice h.row
  have hr := Kd.R_reads' h.row
  obtain ⟨A', c', rfl⟩ := Kd.R_slice hu
  have hr' := Kd.R_reads' hu
  exact decklebook_SameRecs.calls _ A' c' Ld A c Ld _ w hr'.2.2 hr'.2.1 hr.2.2 hr.2.1 (same_pure Ld h.ld)
theorem JJ.spoil (h : JJ Lp Ld P M ov v bx w0 w) {u : Value} {L : List S27} (hL : L.length ≤ 100000) (hu : Kd.R k27 27 w w0.heap.size (fun k => ¬ PB P M ov k ∧ v.ownBlock ≠ some k ∧ ∀ q ∈ bx, k ≠ q.1) u L) : Calls Try.prog 10 #[u] w fun e w' => e = .returned (.tuple #[]) ∧ Aside0 (JJ Lp [] P M ov (.slice none 0 0) bx w0 w') := by
  refine (spoil_calls u L w0.heap.size _ w hL ⟨hu⟩).mono ?_
  rintro e w' ⟨rfl, hg⟩
  obtain ⟨D, hD⟩ := h.pat
  refine ⟨rfl, ⟨⟨D, hD.same (fun k hk hp => hg.block k hk (fun e => (hu.1 k e.symm).1 hp))⟩, Kd.R_nil _ _ _ _ _, fun q hq => blk_grown (h.box q hq) hg (fun e => (hu.1 q.1 e.symm).2.2 q hq rfl), h.xb, fun q hq => by simp [Value.ownBlock], h.bel.grown hg h.bel.size (fun k e => Kd.R_base hu k e), h.lp, by simp⟩⟩
end
end Go.Proofs.Ytkamgpjpnjikgaa.PQ
