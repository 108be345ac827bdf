/- What a set of spans is, as the machine holds it. -/
import Derived.Test.YtaandjafmmpbkaaPQx0
import Derived.Test.YtaandjafmmpbkaaPQx2
import Derived.WalkSpells
import Derived.LoopTactic
import Derived.Lib.Hide
import Derived.IntWalk
import Derived.Deep.QuietTactic
import Derived.BigQuiet
import Derived.Laws.Rows
namespace Go.Proofs.Ytaandjafmmpbkaa.PQ
open Go.RowKit Go.Proofs.YtaandjafmmpbkaaW.PrintWords Go.Proofs.YtaandjafmmpbkaaW.PrintLast Go.Proofs.YtaandjafmmpbkaaW.PrintMore
set_option linter.unusedVariables false
set_option linter.unusedSimpArgs false
/-- The first place whose span ends at a number, or behind it. -/
structure At (l : List S27) (n : Int) (i : Nat) : Prop where
  le : i ≤ l.length
  lo : ∀ k : Nat, k < i → (rd_T27 l k).f1 < n
  hi : ∀ k : Nat, i ≤ k → k < l.length → n ≤ (rd_T27 l k).f1
/-- Spans that rise, with a gap between each two. -/
def Sp : Int → List S27 → Prop
  | _, [] => True
  | lo, x :: l => lo < x.f0 ∧ x.f0 < x.f1 ∧ x.f1 ≤ 4096 ∧ Sp x.f1 l
theorem Sp.weak {a b : Int} : ∀ {l : List S27}, Sp a l → b ≤ a → Sp b l
  | [], _, _ => trivial
  | x :: l, h, hb => ⟨by have := h.1; omega, h.2⟩
theorem Sp.len : ∀ {lo : Int} {l : List S27}, Sp lo l → lo ≤ 4096 → lo + 2 * l.length ≤ 4096
  | lo, [], _, h => by simp; omega
  | lo, x :: l, h, _ => by
    have := Sp.len h.2.2.2 h.2.2.1
    have h1 := h.1
    have h2 := h.2.1
    simp only [List.length_cons]
    omega
theorem rd27_0 (x : S27) (l : List S27) : rd_T27 (x :: l) ((0 : Nat) : Int) = x := rfl
theorem rd27_s (x : S27) (l : List S27) (k : Nat) : rd_T27 (x :: l) ((k + 1 : Nat) : Int) = rd_T27 l (k : Int) := rfl
/-- Each span of such a list. -/
theorem Sp.each : ∀ {lo : Int} {l : List S27}, Sp lo l → ∀ k : Nat, k < l.length → lo < (rd_T27 l k).f0 ∧ (rd_T27 l k).f0 < (rd_T27 l k).f1 ∧ (rd_T27 l k).f1 ≤ 4096
  | lo, [], _, k, hk => by simp at hk
  | lo, x :: l, h, 0, _ => ⟨h.1, h.2.1, h.2.2.1⟩
  | lo, x :: l, h, k + 1, hk => by
    have := Sp.each h.2.2.2 k (by simpa using hk)
    rw [rd27_s]
    have h1 := h.1
    have h2 := h.2.1
    exact ⟨by omega, this.2⟩
theorem Sp.mono : ∀ {lo : Int} {l : List S27}, Sp lo l → ∀ a b : Nat, a < b → b < l.length → (rd_T27 l a).f1 < (rd_T27 l b).f0
  | lo, [], _, a, b, _, hb => by simp at hb
  | lo, x :: l, h, 0, b + 1, _, hb => by
    have := (Sp.each h.2.2.2 b (by simpa using hb)).1
    rw [rd27_s, rd27_0]; exact this
  | lo, x :: l, h, a + 1, b + 1, hab, hb => by
    rw [rd27_s, rd27_s]
    exact Sp.mono h.2.2.2 a b (by omega) (by simpa using hb)
theorem Sp.monoT {lo : Int} {l : List S27} (h : Sp lo l) (a b : Nat) (hab : a ≤ b) (hb : b < l.length) : (rd_T27 l a).f1 ≤ (rd_T27 l b).f1 := by
  rcases Nat.lt_or_ge a b with c | c
  · have h1 := h.mono a b c hb
    have h2 := (h.each b hb).2.1
    omega
  · obtain rfl : a = b := by omega
    exact Int.le_refl _
/-- A slice of spans of the call's own, its block alone named. -/
abbrev OwnS (w : World) (base : Nat) (v : Value) (l : List S27) : Prop := Kd.R k27 27 w base (fun k => v.ownBlock = some k) v l
theorem k27_any {w w' : World} {base base' : Nat} {ok ok' : Nat → Prop} {x : S27} {cs : List Value} (h : k27.M w base ok x cs) : k27.M w' base' ok' x cs := by
  rw [k27_openM h]; exact k27_mkM _ _ _ _
theorem ownS {w : World} {base : Nat} {ok : Nat → Prop} {v : Value} {l : List S27} (h : Kd.R k27 27 w base ok v l) : OwnS w base v l :=
  ⟨fun _ hk => hk, h.2.imp_ (fun _ _ hp => k27_any hp)⟩
/-- A set as it lies: its block P holds the slice of its spans. -/
structure SetAt (l : List S27) (P base : Nat) (v : Value) (w : World) : Prop where
  head : w.heap[P]? = some (.cells #[v] 51 (0, 0))
  row : OwnS w base v l
/-- All blocks but those of S stay. -/
structure Ch (S : Nat → Prop) (w w' : World) : Prop where
  os : w'.os = w.os
  tape : w'.tape = w.tape
  output : w'.output = w.output
  size : w.heap.size ≤ w'.heap.size
  block : ∀ k, k < w.heap.size → ¬ S k → w'.heap[k]? = w.heap[k]?
theorem Ch.refl (S : Nat → Prop) (w : World) : Ch S w w := ⟨rfl, rfl, rfl, Nat.le_refl _, fun _ _ _ => rfl⟩
theorem Ch.of_below {S : Nat → Prop} {w w' : World} (h : Below w.heap.size w w') : Ch S w w' := ⟨h.os, h.tape, h.output, h.size, fun k hk _ => h.block k hk⟩
theorem Ch.set {w : World} {b i : Nat} (v : Value) : Ch (fun k => k = b) w (w.setCell ⟨b, i, none⟩ v) :=
  ⟨rfl, rfl, rfl, by simp [World.setCell], fun k _ hk => Below.heap_setCell _ _ _ _ (fun e => hk e)⟩
theorem Ch.trans {S : Nat → Prop} {a b c : World} (h : Ch S a b) (k : Ch S b c) : Ch S a c :=
  ⟨k.os.trans h.os, k.tape.trans h.tape, k.output.trans h.output, Nat.le_trans h.size k.size, fun i hi hn => (k.block i (Nat.lt_of_lt_of_le hi h.size) hn).trans (h.block i hi hn)⟩
theorem Ch.below {S : Nat → Prop} {w w' : World} (h : Ch S w w') {n : Nat} (hn : n ≤ w.heap.size) (hS : ∀ k, S k → n ≤ k) : Below n w w' := ⟨h.os, h.tape, h.output, h.size, fun k hk => h.block k (by omega) (fun s => by have := hS k s; omega)⟩
theorem Ch.mono {S S' : Nat → Prop} {w w' : World} (h : Ch S w w') (hs : ∀ k, S k → S' k) : Ch S' w w' := ⟨h.os, h.tape, h.output, h.size, fun k hk hn => h.block k hk (fun s => hn (hs k s))⟩
theorem drawn_any {n : Nat} {w w' : World} (d : Drawn0 w w') : Below n w w' := by
  obtain ⟨⟨m, rfl⟩⟩ := d
  exact ⟨rfl, rfl, rfl, Nat.le_refl _, fun _ _ => rfl⟩
section
variable {l : List S27} {P base : Nat} {v : Value} {w w' : World}
theorem SetAt.lt (h : SetAt l P base v w) : P < w.heap.size := blk_lt h.head
theorem SetAt.below (h : SetAt l P base v w) (c : Below w.heap.size w w') : SetAt l P base v w' := ⟨blk_below h.head c, Kd.R_below h.row c⟩
theorem SetAt.drawn (h : SetAt l P base v w) (d : Drawn0 w w') : SetAt l P base v w' := h.below (drawn_any d)
theorem SetAt.ch2 (h : SetAt l P base v w) (c : Below w.heap.size w w') : SetAt l P base v w' := h.below c
theorem SetAt.head0 (h : SetAt l P base v w) : w.cell? ⟨P, 0, none⟩ = some v := (blk_cell h.head 0).trans rfl
theorem SetAt.slice (h : SetAt l P base v w) : ∃ A c, v = .slice A l.length c := Kd.R_slice h.row
/-- An element's cells, where the slice is spelled out. -/
theorem SetAt.elem {A : Option Addr} {n c : Nat} (h : SetAt l P base (.slice A n c) w) (k : Nat) (hk : k < l.length) : ∃ g, A = some ⟨g, 0, none⟩ ∧ w.cell? ⟨g, k * 2, none⟩ = some (.int .i64 (rd_T27 l k).f0) ∧ w.cell? ⟨g, k * 2 + 1, none⟩ = some (.int .i64 (rd_T27 l k).f1) := by
  obtain ⟨g, c', e, _, _, _⟩ := Kd.R_form h.row (by omega)
  injection e with e en _
  subst e
  obtain ⟨ad, e2, h1, h2⟩ := at_T27 (Kd.R_reads' h.row).2.2 (k : Int) (by omega) (by omega)
  cases e2
  rw [Int.toNat_natCast] at h1 h2
  refine ⟨g, rfl, ?_, ?_⟩
  · have ea : (⟨g, 0, none⟩ : Addr).add (k * 2) = ⟨g, k * 2, none⟩ := by cases k <;> simp [Addr.add]
    rw [ea] at h1; exact h1
  · have ea : (⟨g, 0, none⟩ : Addr).add (k * 2) = ⟨g, k * 2, none⟩ := by cases k <;> simp [Addr.add]
    rw [ea] at h2; exact h2
end
end Go.Proofs.Ytaandjafmmpbkaa.PQ
