/- What a pend is, as the machine holds it; its questions. -/
import Derived.Test.YtkamgpjpnjikgaaMapZ
namespace Go.Proofs.Ytkamgpjpnjikgaa.PQ
open Go.RowKit Go.Proofs.YtkamgpjpnjikgaaW.PrintWords Go.Proofs.YtkamgpjpnjikgaaW.PrintLast Go.Proofs.YtkamgpjpnjikgaaW.PrintMore
set_option linter.unusedVariables false
set_option linter.unusedSimpArgs false
/-- A record's value. -/
def encR (r : S27) : Value := .agg #[.int .i64 r.f0, .int .i64 r.f1, .int .i64 r.f2]
theorem u45 : Try.prog.underlying 45 = some (.map 3 27) := by kernel_rfl
theorem u3 : Try.prog.underlying 3 = some (.int .i64) := by kernel_rfl
theorem zero27 (w : World) : (zeroValue 27).run Try.prog w = .ok (encR z27) w := by rfl
/-- What the map holds of a list of records, each sector once. -/
def mapL (L : List S27) (a : Int) : Option Value := (L.find? fun r => decide (r.f1 = a)).map encR
def hasL (L : List S27) (a : Int) : Bool := L.any fun r => decide (r.f1 = a)
theorem mapL_has (L : List S27) (a : Int) : (mapL L a).isSome = hasL L a := by
  unfold mapL hasL
  rw [Option.isSome_map, Bool.eq_iff_iff, List.find?_isSome, List.any_eq_true]
/-- The record of a sector; noughts where there is none. -/
def recL (L : List S27) (a : Int) : S27 := (L.find? fun r => decide (r.f1 = a)).getD z27
theorem mapL_get (L : List S27) (a : Int) : (mapL L a).getD (encR z27) = encR (recL L a) := by
  unfold mapL recL
  cases L.find? fun r => decide (r.f1 = a) <;> rfl
structure PAt (b0 : Nat) (L : List S27) (P M : Nat) (ov : Value) (D : DataW Value) (w : World) : Prop where
  head : w.heap[P]? = some (.cells #[.map (some M), ov] 48 (0, 0))
  row : Kd.R (Kd.int .i64) 3 w b0 (fun k => k ≠ P ∧ k ≠ M) ov (L.map (·.f1))
  map : MapZ Try.prog 3 (mapL L) L.length M D w
  nd : (L.map (·.f1)).Nodup
  ne : P ≠ M
  lp : b0 ≤ P
  lm : b0 ≤ M
  wf : ∀ r ∈ L, (Lit.int .i64 r.f1).wf = true
/-- The blocks of a pend. -/
def PB (P M : Nat) (ov : Value) (k : Nat) : Prop := k = P ∨ k = M ∨ ov.ownBlock = some k
/-- All blocks but those of S stay. -/
structure Ch (S : Nat → Prop) (w w' : World) : Prop where
  os : w'.os = w.os
  tape : w'.tape = w.tape
  output : w'.output = w.output
  size : w.heap.size ≤ w'.heap.size
  block : ∀ k, k < w.heap.size → ¬ S k → w'.heap[k]? = w.heap[k]?
theorem Ch.refl (S : Nat → Prop) (w : World) : Ch S w w := ⟨rfl, rfl, rfl, Nat.le_refl _, fun _ _ _ => rfl⟩
theorem Ch.of_below {S : Nat → Prop} {w w' : World} (h : Below w.heap.size w w') : Ch S w w' := ⟨h.os, h.tape, h.output, h.size, fun k hk _ => h.block k hk⟩
theorem Ch.of_grown {S : Nat → Prop} {w w' : World} {row : Option Nat} (h : w.grownBy w' row) (hr : ∀ k, row = some k → S k) : Ch S w w' := ⟨h.os, h.tape, h.output, h.size, fun k hk hn => h.block k hk (fun e => hn (hr k e.symm))⟩
theorem Ch.trans {S : Nat → Prop} {a b c : World} (h : Ch S a b) (k : Ch S b c) : Ch S a c :=
  ⟨k.os.trans h.os, k.tape.trans h.tape, k.output.trans h.output, Nat.le_trans h.size k.size, fun i hi hn => (k.block i (Nat.lt_of_lt_of_le hi h.size) hn).trans (h.block i hi hn)⟩
theorem Ch.trans' {S S' : Nat → Prop} {a b c : World} (h : Ch S a b) (k : Ch S' b c) (hS : ∀ i, S' i → i < a.heap.size → S i) : Ch S a c :=
  ⟨k.os.trans h.os, k.tape.trans h.tape, k.output.trans h.output, Nat.le_trans h.size k.size, fun i hi hn => (k.block i (Nat.lt_of_lt_of_le hi h.size) (fun s => hn (hS i s hi))).trans (h.block i hi hn)⟩
theorem Ch.below {S : Nat → Prop} {w w' : World} (h : Ch S w w') {n : Nat} (hn : n ≤ w.heap.size) (hS : ∀ k, S k → n ≤ k) : Below n w w' := ⟨h.os, h.tape, h.output, h.size, fun k hk => h.block k (by omega) (fun s => by have := hS k s; omega)⟩
section
variable {b0 : Nat} {L : List S27} {P M : Nat} {ov : Value} {D : DataW Value} {w w' : World}
theorem PAt.same (h : PAt b0 L P M ov D w) (hs : ∀ k, k < w.heap.size → PB P M ov k → w'.heap[k]? = w.heap[k]?) : PAt b0 L P M ov D w' := by
  have hM : M < w.heap.size := by
    obtain ⟨es, clock, hb, _⟩ := h.map.own
    exact (Array.getElem?_eq_some_iff.1 hb).1
  refine ⟨(hs P (blk_lt h.head) (.inl rfl)).trans h.head, ?_, ?_, h.nd, h.ne, h.lp, h.lm, h.wf⟩
  · have h1 := Kd.R_bound h.row
    refine Kd.R_mono (Kd.R_move (ok := fun k => ov.ownBlock = some k ∧ (k ≠ P ∧ k ≠ M) ∧ k < w.heap.size) ⟨fun k hk => ⟨hk, (h1.1 k hk).1, (h1.1 k hk).2.2.1⟩, ?_⟩ (fun k hk => hs k hk.2.2 (.inr (.inr hk.1)))) (fun k hk => hk.2.1)
    obtain ⟨inner, ho, hr⟩ := h.row.2
    exact ⟨inner, ho, hr⟩
  · obtain ⟨es, clock, hb, F, hr⟩ := h.map.own
    exact ⟨⟨es, clock, (hs M hM (.inr (.inl rfl))).trans hb, F, hr⟩, h.map.tidy, h.map.size, h.map.has, h.map.at_⟩
theorem PAt.below (h : PAt b0 L P M ov D w) (hb : Below w.heap.size w w') : PAt b0 L P M ov D w' := h.same fun k hk _ => hb.block k hk
theorem PAt.lt (h : PAt b0 L P M ov D w) : ∀ k, PB P M ov k → k < w.heap.size := by
  rintro k (rfl | rfl | e)
  · exact blk_lt h.head
  · obtain ⟨es, clock, hb, _⟩ := h.map.own
    exact (Array.getElem?_eq_some_iff.1 hb).1
  · exact ((Kd.R_bound h.row).1 k e).2.2.1
theorem PAt.ge (h : PAt b0 L P M ov D w) : ∀ k, PB P M ov k → b0 ≤ k := by
  rintro k (rfl | rfl | e)
  · exact h.lp
  · exact h.lm
  · exact ((Kd.R_bound h.row).1 k e).2.1
theorem PAt.far {S : Nat → Prop} (h : PAt b0 L P M ov D w) (hc : Ch S w w') (hS : ∀ k, PB P M ov k → ¬ S k) : PAt b0 L P M ov D w' := h.same fun k hk hp => hc.block k hk (hS k hp)
theorem PAt.own (h : PAt b0 L P M ov D w) : ∀ k, ov.ownBlock = some k → k ≠ P ∧ k ≠ M := fun k e => h.row.1 k e
end
section
variable (b0 : Nat) (L : List S27) (P M : Nat) (ov : Value) (D : DataW Value) (w : World)
theorem PAt.cells {b0 L P M ov D w} (h : PAt b0 L P M ov D w) : w.cell? ⟨P, 0, none⟩ = some (.map (some M)) ∧ w.cell? ⟨P, 1, none⟩ = some ov := ⟨blk_cell h.head 0, blk_cell h.head 1⟩
theorem len_calls (H : Aside0 (PAt b0 L P M ov D w)) : Calls Try.prog 12 #[.pointer (some ⟨P, 0, none⟩)] w fun e w' => e = .returned (.int .i64 L.length) ∧ w' = w := by
  obtain ⟨A, c, rfl⟩ := Kd.R_slice H.out.row
  have d1 := H.out.cells.2
  rw [List.length_map] at d1
  rw [List.length_map] at H
  go_enter Try.func12, Try.ntmps12
  go_wp2
  go_ret
  exact ⟨rfl, rfl⟩
theorem has_calls (a : Int) (ha : (Lit.int .i64 a).wf = true) (H : Aside0 (PAt b0 L P M ov D w)) : Calls Try.prog 15 #[.pointer (some ⟨P, 0, none⟩), .int .i64 a] w fun e w' => e = .returned (.bool (hasL L a)) ∧ Below w.heap.size w w' := by
  have d0 := H.out.cells.1
  have hl := H.out.map.look_ok u3 u45 (zero27 w) a ha
  rw [mapL_has, mapL_get] at hl
  unfold encR at hl
  generalize hasL L a = b at *
  generalize (recL L a).f0 = v0 at *
  generalize (recL L a).f1 = v1 at *
  generalize (recL L a).f2 = v2 at *
  go_enter Try.func15, Try.ntmps15
  go_wp2
  go_ret
  exact ⟨rfl, (Below.refl _ _).alloc (Nat.le_refl _) _⟩
end
theorem PAt.nil (w : World) : PAt w.heap.size [] (w.heap.size + 1) w.heap.size (.slice none 0 0) (.map []) ((w.alloc (.map #[] 0)).alloc (.cells #[.map (some w.heap.size), .slice none 0 0] 48)) := by
  have hs : (w.alloc (.map #[] 0)).heap.size = w.heap.size + 1 := by simp
  refine ⟨?_, Kd.R_nil _ _ _ _ _, ?_, List.nodup_nil, by omega, by omega, by omega, fun r hr => by cases hr⟩
  · have := heap_alloc_new (w.alloc (.map #[] 0)) (.cells #[.map (some w.heap.size), .slice none 0 0] 48)
    rw [hs] at this
    exact this
  · have h := MapZ.made (P := Try.prog) (k := 3) w
    exact h.kept (World.grownBy_alloc _ _ none) (by simp)
theorem new_calls (w : World) : Calls Try.prog 5 #[] w fun e w' => e = .returned (.pointer (some ⟨w.heap.size + 1, 0, none⟩)) ∧ w' = (w.alloc (.map #[] 0)).alloc (.cells #[.map (some w.heap.size), .slice none 0 0] 48) := by
  have hmm := @run_makeMap Try.prog
  have hs : (w.alloc (.map #[] 0)).heap.size = w.heap.size + 1 := by simp
  go_enter Try.func5, Try.ntmps5
  go_wp2
  go_ret
  exact ⟨rfl, rfl⟩
end Go.Proofs.Ytkamgpjpnjikgaa.PQ
