/- What a heat is, as the machine holds it; its questions. -/
import Derived.Test.YtihggmhmfocnpaaPQx0
import Derived.Test.YtihggmhmfocnpaaPQx1
import Derived.Test.YtihggmhmfocnpaaWMore
import Derived.WalkSpells
import Derived.LoopTactic
import Derived.Lib.Hide
import Derived.IntWalk
import Derived.Deep.QuietTactic
import Derived.BigQuiet
import Derived.Laws.Rows
import Derived.Outline
import Derived.OwnWalk
namespace Go.Proofs.Ytihggmhmfocnpaa.PQ
open Go.RowKit Go.Proofs.YtihggmhmfocnpaaW.PrintWords Go.Proofs.YtihggmhmfocnpaaW.PrintLast Go.Proofs.YtihggmhmfocnpaaW.PrintMore
set_option linter.unusedVariables false
set_option linter.unusedSimpArgs false
/-- A heat as it lies: its block P holds the slice of its counts (in block B) and the touches. -/
structure HAt (cs : List Int) (t : Int) (P B c : Nat) (w : World) : Prop where
  head : w.heap[P]? = some (.cells #[.slice (some ⟨B, 0, none⟩) cs.length c, .int .i64 t] 48 (0, 0))
  row : Kd.R (Kd.int .u8) 5 w B (fun k => k = B) (.slice (some ⟨B, 0, none⟩) cs.length c) cs
structure OkC (cs : List Int) (t : Int) : Prop where
  bd : ∀ x ∈ cs, 0 ≤ x ∧ x ≤ 255
  len : 1 ≤ cs.length ∧ cs.length ≤ 4096
  tm : 0 ≤ t ∧ t < 8 * (cs.length : Int)
/-- All blocks but those of S stay. -/
structure Ch (S : Nat → Prop) (w w' : World) : Prop where
  os : w'.os = w.os
  tape : w'.tape = w.tape
  output : w'.output = w.output
  size : w.heap.size ≤ w'.heap.size
  block : ∀ k, k < w.heap.size → ¬ S k → w'.heap[k]? = w.heap[k]?
theorem Ch.refl (S : Nat → Prop) (w : World) : Ch S w w := ⟨rfl, rfl, rfl, Nat.le_refl _, fun _ _ _ => rfl⟩
theorem Ch.of_below {S : Nat → Prop} {w w' : World} (h : Below w.heap.size w w') : Ch S w w' := ⟨h.os, h.tape, h.output, h.size, fun k hk _ => h.block k hk⟩
theorem Ch.set {S : Nat → Prop} {w : World} {b i : Nat} (hb : S b) (v : Value) : Ch S w (w.setCell ⟨b, i, none⟩ v) :=
  ⟨rfl, rfl, rfl, by simp [World.setCell], fun k _ hk => Below.heap_setCell _ _ _ _ (fun e => hk (by rw [e]; exact hb))⟩
theorem Ch.trans {S : Nat → Prop} {a b c : World} (h : Ch S a b) (k : Ch S b c) : Ch S a c :=
  ⟨k.os.trans h.os, k.tape.trans h.tape, k.output.trans h.output, Nat.le_trans h.size k.size, fun i hi hn => (k.block i (Nat.lt_of_lt_of_le hi h.size) hn).trans (h.block i hi hn)⟩
theorem Ch.below {S : Nat → Prop} {w w' : World} (h : Ch S w w') {n : Nat} (hn : n ≤ w.heap.size) (hS : ∀ k, S k → n ≤ k) : Below n w w' := ⟨h.os, h.tape, h.output, h.size, fun k hk => h.block k (by omega) (fun s => by have := hS k s; omega)⟩
theorem drawn_any {n : Nat} {w w' : World} (d : Drawn0 w w') : Below n w w' := by
  obtain ⟨⟨m, rfl⟩⟩ := d
  exact ⟨rfl, rfl, rfl, Nat.le_refl _, fun _ _ => rfl⟩
section
variable {cs : List Int} {t : Int} {P B c : Nat} {w w' : World}
theorem HAt.below (h : HAt cs t P B c w) (hb : Below w.heap.size w w') : HAt cs t P B c w' := ⟨blk_below h.head hb, Kd.R_below h.row hb⟩
theorem HAt.ne (h : HAt cs t P B c w) : P ≠ B := fun e => Kd.R_ne h.row h.head (by decide) (by rw [e]; rfl)
theorem HAt.cells (h : HAt cs t P B c w) : w.cell? ⟨P, 0, none⟩ = some (.slice (some ⟨B, 0, none⟩) cs.length c) ∧ w.cell? ⟨P, 1, none⟩ = some (.int .i64 t) := ⟨blk_cell h.head 0, blk_cell h.head 1⟩
theorem HAt.elem (h : HAt cs t P B c w) (i : Nat) (hi : i < cs.length) : w.cell? ⟨B, i, none⟩ = some (.int .u8 (rd cs i)) ∧ w.frozen? ⟨B, i, none⟩ = false := by
  have := Kd.R_celln 0 h.row (i : Int) (by omega) (by omega)
  rw [Int.toNat_natCast] at this
  exact this
theorem HAt.put (h : HAt cs t P B c w) (i : Nat) (x : Int) : HAt (cs.set i x) t P B c (w.setCell ⟨B, i, none⟩ (.int .u8 x)) := by
  have hp := Kd.R_putg h.row (i : Int) x
  rw [Int.toNat_natCast] at hp
  refine ⟨?_, ?_⟩
  · rw [List.length_set]; exact blk_far h.head h.ne _
  · rw [List.length_set]; exact hp.1
theorem HAt.tick (h : HAt cs t P B c w) (t' : Int) : HAt cs t' P B c (w.setCell ⟨P, 1, none⟩ (.int .i64 t')) := by
  have hb := blk_set h.head 1 (.int .i64 t')
  refine ⟨hb, Kd.R_step h.row (fun k hk _ => Below.heap_setCell _ _ _ _ (fun e => ?_))⟩
  exact h.ne (e.symm.trans hk)
end
def cntC (cs : List Int) (i : Int) : Int := if 0 ≤ i ∧ i < (cs.length : Int) then rd cs i else 0
def sumC : List Int → Int
  | [] => 0
  | x :: l => x + sumC l
theorem sumC_app : ∀ (a b : List Int), sumC (a ++ b) = sumC a + sumC b
  | [], b => by simp [sumC]
  | x :: a, b => by rw [List.cons_append, sumC, sumC, sumC_app a b]; omega
theorem rd_get {cs : List Int} {i : Nat} (h : i < cs.length) : rd cs (i : Int) = cs[i] := by
  unfold rd
  rw [Int.toNat_natCast, List.getD_eq_getElem?_getD, List.getElem?_eq_getElem h]; rfl
theorem sumC_take {cs : List Int} {i : Nat} (h : i < cs.length) : sumC (cs.take (i + 1)) = sumC (cs.take i) + rd cs i := by
  rw [List.take_succ_eq_append_getElem h, sumC_app, rd_get h]
  simp [sumC]
theorem OkC.rd {cs : List Int} {t : Int} (h : OkC cs t) (i : Nat) (hi : i < cs.length) : 0 ≤ rd cs (i : Int) ∧ rd cs (i : Int) ≤ 255 := by
  rw [rd_get hi]; exact h.bd _ (List.getElem_mem hi)
theorem OkC.sum_take {cs : List Int} {t : Int} (h : OkC cs t) : ∀ (i : Nat), i ≤ cs.length → 0 ≤ sumC (cs.take i) ∧ sumC (cs.take i) ≤ 255 * (i : Int)
  | 0, _ => by simp [sumC]
  | i + 1, hi => by
    have ih := h.sum_take i (by omega)
    have hr := h.rd i (by omega)
    rw [sumC_take (by omega)]
    omega
theorem OkC.sum {cs : List Int} {t : Int} (h : OkC cs t) : 0 ≤ sumC cs ∧ sumC cs ≤ 255 * (cs.length : Int) := by
  have := h.sum_take cs.length (Nat.le_refl _)
  rwa [List.take_length] at this
theorem cntC_bd {cs : List Int} {t : Int} (h : OkC cs t) (i : Int) : 0 ≤ cntC cs i ∧ cntC cs i ≤ 255 := by
  unfold cntC
  split
  · rename_i hi
    obtain ⟨k, rfl⟩ := Int.eq_ofNat_of_zero_le hi.1
    exact h.rd k (by omega)
  · omega
section
variable (cs : List Int) (t : Int) (P B c : Nat) (w : World)
set_option maxHeartbeats 2000000 in
set_option maxRecDepth 100000 in
theorem has_calls (i : Int) (H : Aside0 (HAt cs t P B c w)) : Calls Try.prog 21 #[.pointer (some ⟨P, 0, none⟩), .int .i64 i] w fun e w' => e = .returned (.bool (decide (0 ≤ i ∧ i < (cs.length : Int)))) ∧ w' = w := by
  obtain ⟨d0, d1⟩ := H.out.cells
  by_cases h0 : 0 ≤ i
  · have z0 : decide (0 ≤ i) = true := decide_eq_true h0
    by_cases h1 : i < (cs.length : Int)
    · have z1 : decide (i < (cs.length : Int)) = true := decide_eq_true h1
      rw [decide_eq_true (show 0 ≤ i ∧ i < (cs.length : Int) from ⟨h0, h1⟩)]
      go_enter Try.func21, Try.ntmps21
      go_wp2
      go_ret
      exact ⟨rfl, rfl⟩
    · have z1 : decide (i < (cs.length : Int)) = false := decide_eq_false h1
      rw [decide_eq_false (show ¬ (0 ≤ i ∧ i < (cs.length : Int)) from fun h => h1 h.2)]
      go_enter Try.func21, Try.ntmps21
      go_wp2
      go_ret
      exact ⟨rfl, rfl⟩
  · have z0 : decide (0 ≤ i) = false := decide_eq_false h0
    rw [decide_eq_false (show ¬ (0 ≤ i ∧ i < (cs.length : Int)) from fun h => h0 h.1)]
    go_enter Try.func21, Try.ntmps21
    go_wp2
    go_ret
    exact ⟨rfl, rfl⟩
set_option maxHeartbeats 2000000 in
set_option maxRecDepth 100000 in
theorem count_calls (i : Int) (H : Aside0 (HAt cs t P B c w)) (hk : Aside0 (OkC cs t)) : Calls Try.prog 10 #[.pointer (some ⟨P, 0, none⟩), .int .i64 i] w fun e w' => e = .returned (.int .i64 (cntC cs i)) ∧ w' = w := by
  have hh := has_calls cs t P B c w i H
  obtain ⟨d0, d1⟩ := H.out.cells
  by_cases h : 0 ≤ i ∧ i < (cs.length : Int)
  · rw [decide_eq_true h] at hh
    replace hh := Lib.hid hh
    obtain ⟨k, rfl⟩ := Int.eq_ofNat_of_zero_le h.1
    have hi : k < cs.length := by omega
    have z0 : decide ((0 : Int) ≤ (k : Int)) = true := decide_eq_true (by omega)
    have z1 : decide ((k : Int) < (cs.length : Int)) = true := decide_eq_true (by omega)
    rw [show cntC cs k = rd cs k from if_pos h]
    obtain ⟨e0, f0⟩ := H.out.elem k hi
    have hb := hk.out.rd k hi
    generalize rd cs (k : Int) = x at *
    have hw : IntKind.i64.wrap x = x := by rw [IntKind.wrap_i64]; omega
    go_enter Try.func10, Try.ntmps10
    go_wp2_with fail
    refine hh.out.mono ?_
    rintro e w' ⟨rfl, rfl⟩
    go_wp2
    go_ret
    exact ⟨rfl, rfl⟩
  · rw [decide_eq_false h] at hh
    replace hh := Lib.hid hh
    rw [show cntC cs i = 0 from if_neg h]
    go_enter Try.func10, Try.ntmps10
    go_wp2_with fail
    refine hh.out.mono ?_
    rintro e w' ⟨rfl, rfl⟩
    go_wp2
    go_ret
    exact ⟨rfl, rfl⟩
set_option maxHeartbeats 2000000 in
set_option maxRecDepth 100000 in
theorem total_calls (H : Aside0 (HAt cs t P B c w)) (hk : Aside0 (OkC cs t)) : Calls Try.prog 17 #[.pointer (some ⟨P, 0, none⟩)] w fun e w' => e = .returned (.int .i64 (sumC cs)) ∧ w' = w := by
  obtain ⟨d0, d1⟩ := H.out.cells
  have hl := hk.out.len.2
  go_enter Try.func17, Try.ntmps17
  go_wp2
  go_loopw [3, 11] (fun s y wr => ∃ k : Nat, k ≤ cs.length ∧ y = .int .i64 k ∧ s = .int .i64 (sumC (cs.take k)) ∧ wr = w) (fun _ y _ => cs.length - (intOf y).toNat)
  case atStart => exact ⟨0, Nat.zero_le _, rfl, rfl, rfl⟩
  case round =>
    obtain ⟨k, hkl, rfl, rfl, rfl⟩ := hrel
    by_cases hlt : k < cs.length
    · have yk : decide ((k : Int) < (cs.length : Int)) = true := decide_eq_true (by omega)
      have z0 : decide ((0 : Int) ≤ (k : Int)) = true := decide_eq_true (by omega)
      obtain ⟨e0, f0⟩ := H.out.elem k hlt
      have hb := hk.out.rd k hlt
      have hs := hk.out.sum_take k hkl
      have hn := Lib.hid (sumC_take hlt)
      generalize rd cs (k : Int) = x at *
      generalize sumC (cs.take k) = s at *
      have hw : IntKind.i64.wrap x = x := by rw [IntKind.wrap_i64]; omega
      go_wp2
      go_roundw
      case rel => exact ⟨k + 1, by omega, by go_num, (by rw [hn.out]; try go_num), (by first | rfl | trivial)⟩
      case measure => simp [intOf]; omega
    · obtain rfl : k = cs.length := by omega
      rw [List.take_length]
      go_wp2
      go_ret
      exact ⟨rfl, rfl⟩
end
end Go.Proofs.Ytihggmhmfocnpaa.PQ
