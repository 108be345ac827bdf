/- A call of the law, as cells. -/
import Derived.Test.YtilephiplfigpaaWorks
namespace Go.Proofs.Ytilephiplfigpaa.PQ
open Go.RowKit Go.Proofs.YtilephiplfigpaaW.PrintWords Go.Proofs.YtilephiplfigpaaW.PrintLast Go.Proofs.YtilephiplfigpaaW.PrintMore Go.Shelf
set_option linter.unusedVariables false
set_option linter.unusedSimpArgs false
/-- A call of the law's list: kind, sector, data. -/
structure S30 where
  f0 : Int
  f1 : Int
  f2 : ByteArray
def z30 : S30 := ⟨0, 0, ⟨#[]⟩⟩
def k30 : Kd S30 := Kd.iso (Kd.pair (Kd.int .i64) (Kd.pair (Kd.int .i64) Kd.string)) (fun x : S30 => (x.f0, x.f1, x.f2))
theorem k30_open {w : World} {x : S30} {cs : List Value} (h : k30.K w x cs) : cs = [.int .i64 x.f0, .int .i64 x.f1, .string x.f2] := by
  obtain ⟨_, _, rfl, rfl, ⟨_, _, rfl, rfl, rfl⟩⟩ := h
  rfl
theorem K_S30 {w : World} {a0 a1 : Int} {a2 : ByteArray} : k30.K w ⟨a0, a1, a2⟩ [.int .i64 a0, .int .i64 a1, .string a2] :=
  ⟨[.int .i64 a0], [.int .i64 a1, .string a2], rfl, rfl, ⟨[.int .i64 a1], [.string a2], rfl, rfl, rfl⟩⟩
def rd_T30 (xs : List S30) (i : Int) : S30 := xs.getD i.toNat z30
theorem at_T30 {w : World} {A : Option Addr} {n : Nat} {xs : List S30} (h : Kd.C k30 w A n xs) (i : Int) (h0 : 0 ≤ i) (h1 : i < n) : ∃ ad, A = some ad ∧ w.cell? (ad.add (i.toNat * 3)) = some (.int .i64 (rd_T30 xs i).f0) ∧ w.cell? ⟨(ad.add (i.toNat * 3)).block, (ad.add (i.toNat * 3)).off + 1, none⟩ = some (.int .i64 (rd_T30 xs i).f1) ∧ w.cell? ⟨(ad.add (i.toNat * 3)).block, (ad.add (i.toNat * 3)).off + 2, none⟩ = some (.string (rd_T30 xs i).f2) := by
  obtain ⟨ad, c, e, _, hK, hc0⟩ := Kd.C_get h z30 i h0 h1
  have hc : ∀ j u, c[j]? = some u → w.cell? (ad.add (i.toNat * 3 + j)) = some u := hc0
  obtain rfl := k30_open hK
  exact ⟨ad, e, hc 0 _ rfl, by rw [← add_field _ _ 1 (by omega)]; exact hc 1 _ rfl, by rw [← add_field _ _ 2 (by omega)]; exact hc 2 _ rfl⟩
theorem rd_get30 (l : List S30) (k : Nat) (hk : k < l.length) : rd_T30 l (k : Int) = l[k] := by
  unfold rd_T30
  rw [Int.toNat_natCast, List.getD_eq_getElem?_getD, List.getElem?_eq_getElem hk]
  rfl
/-- 'Below': a number below n. -/
def blw (a n : Int) : Int := (decklebook_Below.f a n).getD 0
theorem blw_f (a : Int) (n : Int) (hn : 0 < n) (h2 : n ≤ 1000) : decklebook_Below.f a n = some (blw a n) ∧ 0 ≤ blw a n ∧ blw a n < n := by
  unfold blw decklebook_Below.f
  rw [if_neg (by omega)]
  have h1 := Int.tmod_lt_of_pos a hn
  have h3 : -n < Int.tmod a n := by have := Int.lt_tmod_of_pos a hn; omega
  by_cases h : Int.tmod a n < 0
  · rw [if_pos h]
    refine ⟨rfl, ?_, ?_⟩ <;> (simp only [Option.getD_some]; rw [Go.IntWalk.wrap64_in _ ⟨by omega, by omega⟩]; omega)
  · rw [if_neg h]
    exact ⟨rfl, by simp only [Option.getD_some]; omega, by simp only [Option.getD_some]; omega⟩
theorem blw_calls (a n : Int) (hn : 0 < n) (h2 : n ≤ 1000) (w : World) : Calls Try.prog 7 #[.int .i64 a, .int .i64 n] w fun e w' => e = .returned (.int .i64 (blw a n)) ∧ Below w.heap.size w w' :=
  (decklebook_Below.calls a n _ w (blw_f a n hn h2).1).mono fun e w' h => ⟨h.1, h.2.below⟩
theorem blw_wf (a : Int) (n : Int) (hn : 0 < n) (h2 : n ≤ 1000) : (Lit.int .i64 (blw a n)).wf = true := by
  obtain ⟨_, h0, h1⟩ := blw_f a n hn h2
  exact WalkArith.wf_i64 (by omega)
section
variable {room hits misses : Int} {L : List EL} {d : List S61} {P M : Nat} {v : Value} {bx : List (Nat × Obj)} {w0 w w' a : World}
theorem JL.rebase (h : JL room hits misses L d P M v bx w0 w) (hb : Below a.heap.size a w0) : JL room hits misses L d P M v bx a w := by
  obtain ⟨D, hD⟩ := h.lat
  exact ⟨⟨D, ⟨hD.ring, hD.map, hD.nd, hD.wf, hD.mp, hD.mb, Nat.le_trans hb.size hD.lp, Nat.le_trans hb.size hD.lm, fun e he => Nat.le_trans hb.size (hD.lb e he)⟩⟩, Kd.R_lower h.row hb.size, h.box, h.xb, h.xv, hb.trans (h.bel.mono hb.size)⟩
theorem JL.boxed (h : JL room hits misses L d P M v [] w0 w) (X : Nat) (o : Obj) (ho : w.heap[X]? = some o) (hX : X < w0.heap.size) : JL room hits misses L d P M v [(X, o)] w0 w := by
  obtain ⟨D, hD⟩ := h.lat
  refine ⟨h.lat, h.row, fun q hq => ?_, fun q hq e => ?_, fun q hq e => ?_, h.bel⟩
  · cases List.mem_singleton.1 hq; exact ho
  · cases List.mem_singleton.1 hq; have := hD.ge X e; omega
  · cases List.mem_singleton.1 hq; have := Kd.R_base h.row X e; omega
/-- The box's block alone has turned: it is let go. -/
theorem JL.skip {q : Nat × Obj} (h : JL room hits misses L d P M v (q :: bx) w0 w) (hC : Ch (fun k => k = q.1) w w') (hb : ∀ x ∈ bx, x.1 ≠ q.1) (hq : w0.heap.size ≤ q.1) : JL room hits misses L d P M v bx w0 w' := by
  obtain ⟨D, hD⟩ := h.lat
  have hx := h.xb q List.mem_cons_self
  have hv := h.xv q List.mem_cons_self
  refine ⟨⟨D, hD.same (fun k hk hp => hC.block k hk (fun e => hx (e ▸ hp)))⟩, ?_, fun x hx => ?_, fun x hx => h.xb x (List.mem_cons_of_mem _ hx), fun x hx => h.xv x (List.mem_cons_of_mem _ hx), h.bel.trans (hC.below h.bel.size (fun k e => by have e' : k = q.1 := e; omega))⟩
  · have h2 := Kd.R_move (w1 := w') (ok := fun k => (k ≠ q.1 ∧ k < w.heap.size) ∧ ¬ LB P M L k) ⟨fun k hk => ⟨⟨fun e => hv (e ▸ hk), ((Kd.R_bound h.row).1 k hk).2.2.1⟩, h.row.1 k hk⟩, h.row.2⟩ (fun k hk => hC.block k hk.1.2 hk.1.1)
    exact Kd.R_mono h2 (fun k hk => hk.2)
  · have := h.box x (List.mem_cons_of_mem _ hx)
    exact (hC.block x.1 (blk_lt this) (hb x hx)).trans this
theorem JL.set {X i : Nat} {t : TypeId} {cs : Array Value} (h : JL room hits misses L d P M v ((X, .cells cs t (0, 0)) :: bx) w0 w) (hb : ∀ q ∈ bx, q.1 ≠ X) (hX : w0.heap.size ≤ X) (u : Value) : JL room hits misses L d P M v ((X, .cells (cs.setIfInBounds i u) t (0, 0)) :: bx) w0 (w.setCell ⟨X, i, none⟩ u) := by
  have h1 := h.skip (Ch.set w ⟨X, i, none⟩ u rfl) hb hX
  exact ⟨h1.lat, h1.row, fun q hq => (List.mem_cons.1 hq).elim (fun e => by subst e; exact blk_set h.head i u) (h1.box q), fun q hq => (List.mem_cons.1 hq).elim (fun e => by subst e; exact h.xb (X, .cells cs t (0, 0)) List.mem_cons_self) (h1.xb q), fun q hq => (List.mem_cons.1 hq).elim (fun e => by subst e; exact h.xv (X, .cells cs t (0, 0)) List.mem_cons_self) (h1.xv q), h1.bel⟩
def hasE (L : List EL) (a : Int) : Bool := L.any fun e => decide (e.lba = a)
theorem hasE_at {i : Nat} {e : EL} (he : L[i]? = some e) : hasE L e.lba = true := List.any_eq_true.2 ⟨e, List.mem_of_getElem? he, by simp⟩
theorem hasE_no {a : Int} (h : ∀ e ∈ L, e.lba ≠ a) : hasE L a = false := List.any_eq_false.2 fun e he => by simpa using h e he
theorem JL.peek_any (h : Aside0 (JL room hits misses L d P M v bx w0 w)) (a : Int) (ha : (Lit.int .i64 a).wf = true) :
    Calls Try.prog 10 #[.pointer (some ⟨P, 0, none⟩), .int .i64 a] w fun e' w' => Aside0 (∃ s, e' = .returned (.tuple #[.string s, .bool (hasE L a)]) ∧ JL room hits misses L d P M v bx w0 w') := by
  rcases mapE_cases L a with ⟨i, e, he, rfl⟩ | hn
  · refine (JL.peek_at h he).mono ?_
    rintro e' w' ⟨rfl, hJ⟩
    exact ⟨_, by rw [hasE_at he], hJ.out⟩
  · refine (JL.peek_no h ha hn).mono ?_
    rintro e' w' ⟨rfl, hJ⟩
    exact ⟨_, by rw [hasE_no hn], hJ.out⟩
theorem JL.drop_any (h : Aside0 (JL room hits misses L d P M v bx w0 w)) (a : Int) (ha : (Lit.int .i64 a).wf = true) :
    Calls Try.prog 15 #[.pointer (some ⟨P, 0, none⟩), .int .i64 a] w fun e' w' => e' = .returned (.bool (hasE L a)) ∧ Aside0 (∃ L', absL L' = outO (absL L) a ∧ hasE L' a = false ∧ L'.length ≤ L.length ∧ JL room hits misses L' d P M v bx w0 w') := by
  rcases mapE_cases L a with ⟨i, e, he, rfl⟩ | hn
  · refine (JL.drop_at h he).mono ?_
    rintro e' w' ⟨rfl, ⟨L', h1, h2, h3, h4⟩⟩
    exact ⟨by rw [hasE_at he], ⟨L', h1, hasE_no h2, h3, h4⟩⟩
  · refine (JL.drop_no h ha hn).mono ?_
    rintro e' w' ⟨rfl, rfl⟩
    exact ⟨by rw [hasE_no hn], ⟨L, (absL_miss hn).symm, hasE_no hn, Nat.le_refl _, h.out⟩⟩
theorem JL.more (h : JL room hits misses L d P M v bx w0 w) (bq : List (Nat × Obj)) (hq : ∀ q ∈ bq, w.heap[q.1]? = some q.2 ∧ ¬ LB P M L q.1 ∧ v.ownBlock ≠ some q.1) : JL room hits misses L d P M v (bq ++ bx) w0 w :=
  ⟨h.lat, h.row, fun q h1 => (List.mem_append.1 h1).elim (fun h2 => (hq q h2).1) (h.box q), fun q h1 => (List.mem_append.1 h1).elim (fun h2 => (hq q h2).2.1) (h.xb q), fun q h1 => (List.mem_append.1 h1).elim (fun h2 => (hq q h2).2.2) (h.xv q), h.bel⟩
theorem R_box {α : Type} {k : Kd α} {e base : Nat} {ok : Nat → Prop} {W : World} {u : Value} {l : List α} (h : k.R e W base ok u l) : ∃ bq : List (Nat × Obj), (∀ q ∈ bq, W.heap[q.1]? = some q.2 ∧ base ≤ q.1 ∧ u.ownBlock = some q.1) ∧ (u.ownBlock = none ∨ ∃ q, q ∈ bq ∧ u.ownBlock = some q.1) := by
  cases hu : u.ownBlock with
  | none => exact ⟨[], fun q hq => absurd hq (by simp), .inl rfl⟩
  | some g =>
    obtain ⟨_, h2, h3, q, _, cells, hc⟩ := (Kd.R_bound h).1 g hu
    refine ⟨[(g, .cells cells q (0, 0))], fun x hx => ?_, .inr ⟨_, List.mem_singleton.2 rfl, rfl⟩⟩
    rw [List.mem_singleton.1 hx]
    exact ⟨hc, h2, rfl⟩
theorem R_unbox {e base : Nat} {ok : Nat → Prop} {W W' : World} {u : Value} {l : List Int} {k : IntKind} (h : (Kd.int k).R e W base ok u l) {bq : List (Nat × Obj)} (h1 : ∀ q ∈ bq, W.heap[q.1]? = some q.2) (h2 : u.ownBlock = none ∨ ∃ q, q ∈ bq ∧ u.ownBlock = some q.1) (h3 : ∀ q ∈ bq, W'.heap[q.1]? = some q.2) : (Kd.int k).R e W' base ok u l := by
  have h4 := Kd.R_move (w1 := W') (ok := fun k => ok k ∧ u.ownBlock = some k) ⟨fun k hk => ⟨h.1 k hk, hk⟩, h.2⟩ (fun k hk => by
    rcases h2 with h2 | ⟨q, hq, h2⟩
    · rw [h2] at hk; cases hk.2
    · have : k = q.1 := by have := hk.2; rw [h2] at this; exact (Option.some.inj this).symm
      subst this
      rw [h1 q hq, h3 q hq])
  exact Kd.R_mono h4 (fun k hk => hk.1)
end
end Go.Proofs.Ytilephiplfigpaa.PQ
