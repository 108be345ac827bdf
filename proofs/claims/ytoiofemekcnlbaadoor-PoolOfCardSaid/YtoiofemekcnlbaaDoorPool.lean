/- What a pool is, as the machine holds it. -/
import Derived.Test.YtoiofemekcnlbaaDoorPQx1
import Derived.WalkSpells
import Derived.LoopTactic
import Derived.Lib.Hide
import Derived.IntWalk
import Derived.Deep.QuietTactic
import Derived.BigQuiet
import Derived.Laws.Rows
namespace Go.Proofs.YtoiofemekcnlbaaDoor.PQ
open Go.RowKit Go.Proofs.YtoiofemekcnlbaaDoorW.PrintWords Go.Proofs.YtoiofemekcnlbaaDoorW.PrintLast Go.Proofs.YtoiofemekcnlbaaDoorW.PrintMore
set_option linter.unusedVariables false
set_option linter.unusedSimpArgs false
/-- A block's role, and whether it is worn, as cells. -/
def cells2 : List (Int × Bool) → List Value
  | [] => []
  | x :: l => .int .i64 x.1 :: .bool x.2 :: cells2 l
theorem cells2_len : ∀ l : List (Int × Bool), (cells2 l).length = l.length * 2
  | [] => rfl
  | x :: l => by simp only [cells2, List.length_cons, cells2_len l]; omega
theorem cells2_0 : ∀ (l : List (Int × Bool)) (i : Nat), i < l.length → (cells2 l)[i * 2]? = some (.int .i64 (l.getD i (0, false)).1)
  | [], i, h => by simp at h
  | x :: l, 0, h => rfl
  | x :: l, i + 1, h => by
    rw [show (i + 1) * 2 = i * 2 + 1 + 1 by omega]
    simp only [cells2, List.getElem?_cons_succ, List.getD_cons_succ]
    exact cells2_0 l i (by simpa using h)
theorem cells2_1 : ∀ (l : List (Int × Bool)) (i : Nat), i < l.length → (cells2 l)[i * 2 + 1]? = some (.bool (l.getD i (0, false)).2)
  | [], i, h => by simp at h
  | x :: l, 0, h => rfl
  | x :: l, i + 1, h => by
    rw [show (i + 1) * 2 + 1 = i * 2 + 1 + 1 + 1 by omega]
    simp only [cells2, List.getElem?_cons_succ, List.getD_cons_succ]
    exact cells2_1 l i (by simpa using h)
theorem cells2_set0 : ∀ (l : List (Int × Bool)) (i : Nat) (r : Int), (cells2 l).set (i * 2) (.int .i64 r) = cells2 (l.set i (r, (l.getD i (0, false)).2))
  | [], i, r => by simp [cells2]
  | x :: l, 0, r => rfl
  | x :: l, i + 1, r => by
    rw [show (i + 1) * 2 = i * 2 + 1 + 1 by omega]
    simp only [cells2, List.set_cons_succ, List.getD_cons_succ]
    rw [cells2_set0 l i r]
theorem cells2_set1 : ∀ (l : List (Int × Bool)) (i : Nat) (b : Bool), (cells2 l).set (i * 2 + 1) (.bool b) = cells2 (l.set i ((l.getD i (0, false)).1, b))
  | [], i, r => by simp [cells2]
  | x :: l, 0, r => rfl
  | x :: l, i + 1, r => by
    rw [show (i + 1) * 2 + 1 = i * 2 + 1 + 1 + 1 by omega]
    simp only [cells2, List.set_cons_succ, List.getD_cons_succ]
    rw [cells2_set1 l i r]
/-- What each block is used for, as it lies: the pool in block P, the row in block B. -/
structure PoolAt (l : List (Int × Bool)) (P B : Nat) (w : World) : Prop where
  head : w.heap[P]? = some (.cells #[.slice (some ⟨B, 0, none⟩) l.length l.length] 53 (0, 0))
  row : w.heap[B]? = some (.cells (cells2 l).toArray 56 (0, 0))
  len : 1 ≤ l.length ∧ l.length ≤ 64
  may : ∀ x ∈ l, 0 ≤ x.1 ∧ x.1 ≤ 6
/-- All blocks but those of S stay. -/
structure Ch (S : Nat → Prop) (w w' : World) : Prop where
  os : w'.os = w.os
  tape : w'.tape = w.tape
  output : w'.output = w.output
  size : w.heap.size ≤ w'.heap.size
  block : ∀ k, k < w.heap.size → ¬ S k → w'.heap[k]? = w.heap[k]?
theorem Ch.refl (S : Nat → Prop) (w : World) : Ch S w w := ⟨rfl, rfl, rfl, Nat.le_refl _, fun _ _ _ => rfl⟩
theorem Ch.of_below {S : Nat → Prop} {w w' : World} (h : Below w.heap.size w w') : Ch S w w' := ⟨h.os, h.tape, h.output, h.size, fun k hk _ => h.block k hk⟩
theorem Ch.set {w : World} {b i : Nat} (v : Value) : Ch (fun k => k = b) w (w.setCell ⟨b, i, none⟩ v) :=
  ⟨rfl, rfl, rfl, by simp [World.setCell], fun k _ hk => Below.heap_setCell _ _ _ _ (fun e => hk e)⟩
theorem Ch.trans {S : Nat → Prop} {a b c : World} (h : Ch S a b) (k : Ch S b c) : Ch S a c :=
  ⟨k.os.trans h.os, k.tape.trans h.tape, k.output.trans h.output, Nat.le_trans h.size k.size, fun i hi hn => (k.block i (Nat.lt_of_lt_of_le hi h.size) hn).trans (h.block i hi hn)⟩
theorem Ch.below {S : Nat → Prop} {w w' : World} (h : Ch S w w') {n : Nat} (hn : n ≤ w.heap.size) (hS : ∀ k, S k → n ≤ k) : Below n w w' := ⟨h.os, h.tape, h.output, h.size, fun k hk => h.block k (by omega) (fun s => by have := hS k s; omega)⟩
theorem PoolAt.lt {l : List (Int × Bool)} {P B : Nat} {w : World} (h : PoolAt l P B w) : P < w.heap.size ∧ B < w.heap.size := ⟨(Array.getElem?_eq_some_iff.1 h.head).1, (Array.getElem?_eq_some_iff.1 h.row).1⟩
theorem PoolAt.ne {l : List (Int × Bool)} {P B : Nat} {w : World} (h : PoolAt l P B w) : P ≠ B := by
  rintro rfl
  have h1 := h.head
  rw [h.row] at h1
  injection h1 with h1
  injection h1 with _ h1
  exact absurd h1 (by decide)
theorem PoolAt.ch {l : List (Int × Bool)} {P B : Nat} {w w' : World} {S : Nat → Prop} (h : PoolAt l P B w) (c : Ch S w w') (h1 : ¬ S P) (h2 : ¬ S B) : PoolAt l P B w' :=
  ⟨(c.block P h.lt.1 h1).trans h.head, (c.block B h.lt.2 h2).trans h.row, h.len, h.may⟩
theorem PoolAt.below {l : List (Int × Bool)} {P B : Nat} {w w' : World} (h : PoolAt l P B w) (c : Below w.heap.size w w') : PoolAt l P B w' := h.ch (Ch.of_below (S := fun _ => False) c) (fun x => x) (fun x => x)
theorem PoolAt.drawn {l : List (Int × Bool)} {P B : Nat} {w w' : World} (h : PoolAt l P B w) (d : Drawn0 w w') : PoolAt l P B w' := h.below (Drawn0.below d)
theorem PoolAt.head0 {l : List (Int × Bool)} {P B : Nat} {w : World} (h : PoolAt l P B w) : w.cell? ⟨P, 0, none⟩ = some (.slice (some ⟨B, 0, none⟩) l.length l.length) := (blk_cell h.head 0).trans rfl
theorem PoolAt.cell0 {l : List (Int × Bool)} {P B : Nat} {w : World} (h : PoolAt l P B w) (i : Nat) (hi : i < l.length) : w.cell? ⟨B, i * 2, none⟩ = some (.int .i64 (l.getD i (0, false)).1) := by
  rw [blk_cell h.row]; simpa using cells2_0 l i hi
theorem PoolAt.cell1 {l : List (Int × Bool)} {P B : Nat} {w : World} (h : PoolAt l P B w) (i : Nat) (hi : i < l.length) : w.cell? ⟨B, i * 2 + 1, none⟩ = some (.bool (l.getD i (0, false)).2) := by
  rw [blk_cell h.row]; simpa using cells2_1 l i hi
theorem PoolAt.free {l : List (Int × Bool)} {P B : Nat} {w : World} (h : PoolAt l P B w) (i : Nat) : w.frozen? ⟨B, i, none⟩ = false := frozen_of_row w B i _ _ h.row
theorem set_may {l : List (Int × Bool)} {i : Nat} {y : Int × Bool} (h : ∀ x ∈ l, 0 ≤ x.1 ∧ x.1 ≤ 6) (hy : 0 ≤ y.1 ∧ y.1 ≤ 6) : ∀ x ∈ l.set i y, 0 ≤ x.1 ∧ x.1 ≤ 6 := by
  intro x hx
  rcases List.mem_or_eq_of_mem_set hx with h1 | h1
  · exact h x h1
  · rw [h1]; exact hy
theorem getD_may {l : List (Int × Bool)} (h : ∀ x ∈ l, 0 ≤ x.1 ∧ x.1 ≤ 6) (i : Nat) : 0 ≤ (l.getD i (0, false)).1 ∧ (l.getD i (0, false)).1 ≤ 6 := by
  rw [List.getD_eq_getElem?_getD]
  cases e : l[i]? with
  | none => simp
  | some x => exact h x (List.mem_of_getElem? e)
theorem PoolAt.set0 {l : List (Int × Bool)} {P B : Nat} {w : World} (h : PoolAt l P B w) (i : Nat) (r : Int) (hr : 0 ≤ r ∧ r ≤ 6) : PoolAt (l.set i (r, (l.getD i (0, false)).2)) P B (w.setCell ⟨B, i * 2, none⟩ (.int .i64 r)) := by
  refine ⟨?_, ?_, by rw [List.length_set]; exact h.len, set_may h.may hr⟩
  · rw [List.length_set]; exact (Below.heap_setCell _ _ _ _ h.ne).trans h.head
  · rw [heap_setCell_same w B _ _ _ _ h.row, ← cells2_set0]
    congr 2
    simp [Array.setIfInBounds]
    intro hh
    exact (List.set_eq_of_length_le (by simpa using hh)).symm
theorem PoolAt.set1 {l : List (Int × Bool)} {P B : Nat} {w : World} (h : PoolAt l P B w) (i : Nat) (b : Bool) : PoolAt (l.set i ((l.getD i (0, false)).1, b)) P B (w.setCell ⟨B, i * 2 + 1, none⟩ (.bool b)) := by
  refine ⟨?_, ?_, by rw [List.length_set]; exact h.len, set_may h.may (getD_may h.may i)⟩
  · rw [List.length_set]; exact (Below.heap_setCell _ _ _ _ h.ne).trans h.head
  · rw [heap_setCell_same w B _ _ _ _ h.row, ← cells2_set1]
    congr 2
    simp [Array.setIfInBounds]
    intro hh
    exact (List.set_eq_of_length_le (by simpa using hh)).symm
/-- May one role follow another one? -/
def mayB (f r : Int) : Bool :=
  if r = 6 then f != 6 else if f = 0 then (r == 1 || r == 3 || r == 4) else if f = 1 || f = 4 then (r == 2 || r == 5) else if f = 2 || f = 3 then r == 5 else if f = 5 then r == 0 else false
/-- The table lies. -/
structure Tabs (w : World) : Prop where
  lt : 0 < w.heap.size
  at_ : ∀ f r : Nat, f < 7 → r < 7 → w.cell? ⟨0, f * 7 + r, none⟩ = some (.bool (mayB f r))
theorem tabs_below {w w' : World} (h : Tabs w) {n : Nat} (b : Below n w w') (hn : 0 < n) : Tabs w' := ⟨Nat.lt_of_lt_of_le h.lt b.size, fun f r hf hr => (b.cell (p := ⟨0, f * 7 + r, none⟩) hn).trans (h.at_ f r hf hr)⟩
theorem tabs_ch {w w' : World} {S : Nat → Prop} (h : Tabs w) (b : Ch S w w') (hn : ¬ S 0) : Tabs w' := ⟨Nat.lt_of_lt_of_le h.lt b.size, fun f r hf hr => (World.cell?_of_block (a := ⟨0, f * 7 + r, none⟩) (b.block 0 h.lt hn)).trans (h.at_ f r hf hr)⟩
end Go.Proofs.YtoiofemekcnlbaaDoor.PQ
