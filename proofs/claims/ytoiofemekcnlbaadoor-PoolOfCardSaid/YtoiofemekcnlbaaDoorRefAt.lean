/- Both pools, side by side. -/
import Derived.Test.YtoiofemekcnlbaaDoorWorks
import Derived.Test.YtoiofemekcnlbaaDoorRef
import Derived.Test.YtoiofemekcnlbaaDoorOne
namespace Go.Proofs.YtoiofemekcnlbaaDoor.PQ
open Go.RowKit Go.Proofs.YtoiofemekcnlbaaDoorW.PrintWords Go.Proofs.YtoiofemekcnlbaaDoorW.PrintLast Go.Proofs.YtoiofemekcnlbaaDoorW.PrintMore
set_option linter.unusedVariables false
set_option linter.unusedSimpArgs false
/-- A slice of scalars of the call's own, its block alone named. -/
abbrev OwnI (w : World) (base : Nat) (v : Value) (xs : List Int) : Prop := Kd.R (Kd.int .i64) 3 w base (fun k => v.ownBlock = some k) v xs
abbrev OwnB (w : World) (base : Nat) (v : Value) (xs : List Bool) : Prop := Kd.R Kd.bool 4 w base (fun k => v.ownBlock = some k) v xs
theorem ownI {w : World} {base : Nat} {ok : Nat → Prop} {v : Value} {xs : List Int} (h : Kd.R (Kd.int .i64) 3 w base ok v xs) : OwnI w base v xs :=
  Kd.R_of_own (enc := Value.int .i64) (Kd.own_of_R (enc := Value.int .i64) (h1 := fun _ => rfl) h) (fun _ hk => hk)
theorem ownB {w : World} {base : Nat} {ok : Nat → Prop} {v : Value} {xs : List Bool} (h : Kd.R Kd.bool 4 w base ok v xs) : OwnB w base v xs :=
  Kd.R_of_own (enc := Value.bool) (Kd.own_of_R (enc := Value.bool) (h1 := fun _ => rfl) h) (fun _ hk => hk)
/-- The document's pool: its two rows, and the variable that holds them. -/
structure RefAt (l : List (Int × Bool)) (D base : Nat) (v0 v1 : Value) (w : World) : Prop where
  box : w.heap[D]? = some (.cells #[v0, v1] 41 (0, 0))
  r0 : OwnI w base v0 (fstL l)
  r1 : OwnB w base v1 (sndL l)
/-- What changes has none of these types. -/
def Far (S : Nat → Prop) (w : World) : Prop := ∀ k, S k → ∃ cs t, w.heap[k]? = some (.cells cs t (0, 0)) ∧ t ≠ 41 ∧ t ≠ 3 ∧ t ≠ 4 ∧ t ≠ 30
theorem far_ne {S : Nat → Prop} {w : World} (h : Far S w) {k t : Nat} {cs : Array Value} (hk : w.heap[k]? = some (.cells cs t (0, 0))) (ht : t = 41 ∨ t = 3 ∨ t = 4 ∨ t = 30) : ¬ S k := fun s => by
  obtain ⟨cs', t', h1, h2, h3, h4, h5⟩ := h k s
  rw [hk] at h1
  injection h1 with h1
  injection h1 with _ h1
  rcases ht with rfl | rfl | rfl | rfl
  · exact h2 h1.symm
  · exact h3 h1.symm
  · exact h4 h1.symm
  · exact h5 h1.symm
theorem RefAt.ch {l : List (Int × Bool)} {D base : Nat} {v0 v1 : Value} {w w' : World} {S : Nat → Prop} (h : RefAt l D base v0 v1 w) (c : Ch S w w') (hS : Far S w) : RefAt l D base v0 v1 w' := by
  refine ⟨(c.block D (blk_lt h.box) (far_ne hS h.box (.inl rfl))).trans h.box, ?_, ?_⟩
  · refine Kd.R_move h.r0 (fun k hk => ?_)
    obtain ⟨cs, hc⟩ := Kd.R_typed h.r0 k hk
    exact c.block k (blk_lt hc) (far_ne hS hc (.inr (.inl rfl)))
  · refine Kd.R_move h.r1 (fun k hk => ?_)
    obtain ⟨cs, hc⟩ := Kd.R_typed h.r1 k hk
    exact c.block k (blk_lt hc) (far_ne hS hc (.inr (.inr (.inl rfl))))
theorem far_none (w : World) : Far (fun _ => False) w := fun _ h => h.elim
theorem RefAt.below {l : List (Int × Bool)} {D base : Nat} {v0 v1 : Value} {w w' : World} (h : RefAt l D base v0 v1 w) (c : Below w.heap.size w w') : RefAt l D base v0 v1 w' := h.ch (Ch.of_below c) (far_none w)
theorem PoolAt.far {l : List (Int × Bool)} {P B : Nat} {w : World} (h : PoolAt l P B w) : Far (fun k => k = B) w := fun k hk => by
  subst hk
  exact ⟨_, _, h.row, by decide, by decide, by decide, by decide⟩
/-- What Wear answers. -/
def wearC (l : List (Int × Bool)) (i : Int) : Int := if okI l i then 0 else 1
/-- Both pools, and the call that is made. -/
structure JJ (l l' : List (Int × Bool)) (P B D X : Nat) (v0 v1 : Value) (y0 y1 y2 : Int) (w0 w : World) : Prop where
  inv : Inv l P B w0 w
  ref : RefAt l' D w0.heap.size v0 v1 w
  act : w.heap[X]? = some (.cells #[.int .i64 y0, .int .i64 y1, .int .i64 y2] 30 (0, 0))
  d : w0.heap.size ≤ D
section
variable {l l' : List (Int × Bool)} {P B D X : Nat} {v0 v1 : Value} {y0 y1 y2 : Int} {w0 w w' : World}
theorem JJ.below (h : JJ l l' P B D X v0 v1 y0 y1 y2 w0 w) (c : Below w.heap.size w w') : JJ l l' P B D X v0 v1 y0 y1 y2 w0 w' :=
  ⟨h.inv.belowW c, h.ref.below c, blk_below h.act c, h.d⟩
theorem JJ.to (h : JJ l l' P B D X v0 v1 y0 y1 y2 w0 w) (t : Tabs w0) (i r : Int) :
    Calls Tryd.prog 10 #[.pointer (some ⟨P, 0, none⟩), .int .i64 i, .int .i64 r] w fun e w' => e = .returned (.int .i64 (toC l i r)) ∧ Aside0 (JJ (toR l i r) l' P B D X v0 v1 y0 y1 y2 w0 w') :=
  (h.inv.to t i r).mono fun e w' ⟨h1, h2, h3⟩ => ⟨h1, ⟨h2, h.ref.ch h3 h.inv.at_.far, (h3.block X (blk_lt h.act) (far_ne h.inv.at_.far h.act (.inr (.inr (.inr rfl))))).trans h.act, h.d⟩⟩
theorem JJ.wear (h : JJ l l' P B D X v0 v1 y0 y1 y2 w0 w) (i : Int) :
    Calls Tryd.prog 11 #[.pointer (some ⟨P, 0, none⟩), .int .i64 i] w fun e w' => e = .returned (.int .i64 (wearC l i)) ∧ Aside0 (JJ (wearR l i) l' P B D X v0 v1 y0 y1 y2 w0 w') :=
  (h.inv.wear i).mono fun e w' ⟨h1, h2, h3⟩ => ⟨h1, ⟨h2, h.ref.ch h3 h.inv.at_.far, (h3.block X (blk_lt h.act) (far_ne h.inv.at_.far h.act (.inr (.inr (.inr rfl))))).trans h.act, h.d⟩⟩
/-- The document's pool is set anew. -/
theorem JJ.anew {l2 : List (Int × Bool)} {u0 u1 : Value} {ok0 ok1 : Nat → Prop} (h : JJ l l' P B D X v0 v1 y0 y1 y2 w0 w) (hb : Below w0.heap.size w0 w') (hk : Kept w w' (fun k => v0.ownBlock = some k ∨ v1.ownBlock = some k)) (h0 : Kd.R (Kd.int .i64) 3 w' w0.heap.size ok0 u0 (fstL l2)) (h1 : Kd.R Kd.bool 4 w' w0.heap.size ok1 u1 (sndL l2)) :
    w'.heap[D]? = some (.cells #[v0, v1] 41 (0, 0)) ∧ Aside0 (JJ l l2 P B D X u0 u1 y0 y1 y2 w0 ((w'.setCell ⟨D, 0, none⟩ u0).setCell ⟨D, 1, none⟩ u1)) := by
  have ne : ∀ {k t : Nat} {cs : Array Value}, w.heap[k]? = some (.cells cs t (0, 0)) → t ≠ 3 → t ≠ 4 → ¬ (v0.ownBlock = some k ∨ v1.ownBlock = some k) := fun {k t cs} hc h3 h4 hh => by
    rcases hh with hh | hh
    · obtain ⟨cs', hc'⟩ := Kd.R_typed h.ref.r0 k hh
      rw [hc] at hc'; injection hc' with hc'; injection hc' with _ hc'; exact h3 hc'
    · obtain ⟨cs', hc'⟩ := Kd.R_typed h.ref.r1 k hh
      rw [hc] at hc'; injection hc' with hc'; injection hc' with _ hc'; exact h4 hc'
  have keep : ∀ {k t : Nat} {cs : Array Value}, w.heap[k]? = some (.cells cs t (0, 0)) → t ≠ 3 → t ≠ 4 → w'.heap[k]? = some (.cells cs t (0, 0)) := fun hc h3 h4 => (hk.2 _ (blk_lt hc) (ne hc h3 h4)).trans hc
  have kD := keep h.ref.box (by decide) (by decide)
  have kX := keep h.act (by decide) (by decide)
  have kP := keep h.inv.at_.head (by decide) (by decide)
  have kB := keep h.inv.at_.row (by decide) (by decide)
  have DX : X ≠ D := blk_ne kX kD (by decide)
  have DP : P ≠ D := blk_ne kP kD (by decide)
  have DB : B ≠ D := blk_ne kB kD (by decide)
  have far2 : ∀ {k : Nat}, k ≠ D → ((w'.setCell ⟨D, 0, none⟩ u0).setCell ⟨D, 1, none⟩ u1).heap[k]? = w'.heap[k]? := fun {k} hk => (Below.heap_setCell _ _ _ _ hk).trans (Below.heap_setCell _ _ _ _ hk)
  refine ⟨kD, ⟨⟨⟨(far2 DP).trans kP, (far2 DB).trans kB, h.inv.at_.len, h.inv.at_.may⟩, (hb.setCell (p := ⟨D, 0, none⟩) h.d _).setCell (p := ⟨D, 1, none⟩) h.d _, h.inv.p, h.inv.b⟩, ⟨?_, ?_, ?_⟩, (far2 DX).trans kX, h.d⟩⟩
  · have := blk_set (blk_set kD 0 u0) 1 u1
    exact this
  · refine Kd.R_move (ownI h0) (fun k hk2 => far2 ?_)
    rintro rfl
    obtain ⟨cs', hc'⟩ := Kd.R_typed (ownI h0) k hk2
    rw [kD] at hc'; injection hc' with hc'; injection hc' with _ hc'; exact absurd hc' (by decide)
  · refine Kd.R_move (ownB h1) (fun k hk2 => far2 ?_)
    rintro rfl
    obtain ⟨cs', hc'⟩ := Kd.R_typed (ownB h1) k hk2
    rw [kD] at hc'; injection hc' with hc'; injection hc' with _ hc'; exact absurd hc' (by decide)
theorem JJ.refTo (h : JJ l l' P B D X v0 v1 y0 y1 y2 w0 w) (hl : l'.length ≤ 64) (hm : ∀ x ∈ l', 0 ≤ x.1 ∧ x.1 ≤ 6) (i r : Int) :
    Calls Tryd.prog 25 #[.agg #[v0, v1], .int .i64 i, .int .i64 r] w fun e w' => Aside0 (∃ u0 u1, e = .returned (.tuple #[.agg #[u0, u1], .int .i64 (toC l' i r)]) ∧ w'.heap[D]? = some (.cells #[v0, v1] 41 (0, 0)) ∧ Aside0 (JJ l (toR l' i r) P B D X u0 u1 y0 y1 y2 w0 ((w'.setCell ⟨D, 0, none⟩ u0).setCell ⟨D, 1, none⟩ u1))) :=
  (deckleref21_To.calls 100 (fun k => v0.ownBlock = some k) v0 (fstL l') (fun k => v1.ownBlock = some k) v1 (sndL l') i r _ _ _ w0 w h.inv.below h.ref.r0 h.ref.r1 (Go.Proofs.YtoiofemekcnlbaaDoor.PQ.refTo l' hl hm i r)).mono fun e w' ⟨u0, u1, h1, h2, h3, h4, h5⟩ => ⟨⟨u0, u1, h1, h.anew h4 h5 h2 h3⟩⟩
theorem JJ.refWear (h : JJ l l' P B D X v0 v1 y0 y1 y2 w0 w) (hl : l'.length ≤ 64) (i : Int) :
    Calls Tryd.prog 26 #[.agg #[v0, v1], .int .i64 i] w fun e w' => Aside0 (∃ u0 u1, e = .returned (.tuple #[.agg #[u0, u1], .int .i64 (wearC l' i)]) ∧ w'.heap[D]? = some (.cells #[v0, v1] 41 (0, 0)) ∧ Aside0 (JJ l (wearR l' i) P B D X u0 u1 y0 y1 y2 w0 ((w'.setCell ⟨D, 0, none⟩ u0).setCell ⟨D, 1, none⟩ u1))) :=
  (deckleref21_Wear.calls 100 (fun k => v0.ownBlock = some k) v0 (fstL l') (fun k => v1.ownBlock = some k) v1 (sndL l') i _ _ _ w0 w h.inv.below h.ref.r0 h.ref.r1 (Go.Proofs.YtoiofemekcnlbaaDoor.PQ.refWear l' hl i)).mono fun e w' ⟨u0, u1, h1, h2, h3, h4, h5⟩ => ⟨⟨u0, u1, h1, h.anew h4 h5 h2 h3⟩⟩
end
end Go.Proofs.YtoiofemekcnlbaaDoor.PQ
