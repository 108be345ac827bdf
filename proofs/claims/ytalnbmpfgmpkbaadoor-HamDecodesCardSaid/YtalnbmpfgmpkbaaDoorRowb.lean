/- Bytes that lie in a block of their own: what holds of them as they are made, set and read back; no condition. -/
import Derived.Test.YtalnbmpfgmpkbaaDoorPQx0
import Derived.WalkSpells
import Derived.WalkLawsBesides
import Derived.Laws.IdiomStrings
import Derived.Laws.BitsAllLaws
import Derived.LoopTactic
import Derived.Lib.Hide
import Derived.WalkKit
namespace Go.Proofs.YtalnbmpfgmpkbaaDoor.PQ
open Go.RowKit Go.Proofs.YtalnbmpfgmpkbaaDoorW.PrintWords
set_option linter.unusedVariables false
/-- Bytes that lie in a block of their own, made since w0. -/
structure RowB (l : List UInt8) (w0 w : World) : Prop where
  cell : ∀ j (h : j < l.length), w.cell? ⟨w0.heap.size, j, none⟩ = some (.int .u8 (l[j].toNat : Int))
  free : ∀ j, j < l.length → w.frozen? ⟨w0.heap.size, j, none⟩ = false
  below : Below w0.heap.size w0 w
theorem RowB.drawn {l : List UInt8} {w0 w w' : World} (h : RowB l w0 w) (d : Drawn0 w w') : RowB l w0 w' := by
  obtain ⟨⟨n, rfl⟩⟩ := d
  exact ⟨h.cell, h.free, pw_below_drewN h.below n⟩
theorem rowB_made (s : ByteArray) (w : World) (e : TypeId) (cap : Nat) :
    RowB s.data.toList w (w.alloc (.cells (bytesRow s cap) e ((bytesRow s cap).size, (bytesRow s cap).size + 1))) := by
  refine ⟨fun j hj => ?_, fun j hj => ?_, below_alloc (Below.refl _ w) _⟩
  · rw [World.cell?_alloc_mark, bytesRow_at s cap j (by simpa using hj)]
    rfl
  · rw [World.frozen?_alloc_mark]
    have : s.data.toList.length ≤ (bytesRow s cap).size := by unfold bytesRow; simp
    rw [decide_eq_false (by omega)]; rfl
theorem RowB.back {l : List UInt8} {w0 w : World} (h : RowB l w0 w) (cap : Nat) : (convert 38 9 (.slice (some ⟨w0.heap.size, 0, none⟩) l.length cap)).run Tryd.prog w = .ok (.string ⟨l.toArray⟩) w :=
  run_convert_bytes_back w 38 9 5 ⟨w0.heap.size, 0, none⟩ cap l Tryd.underlying38 Tryd.underlying5 Tryd.underlying9 (fun j hj => by
    have e : (⟨w0.heap.size, 0, none⟩ : Addr).add j = ⟨w0.heap.size, j, none⟩ := by cases j <;> simp [Addr.add]
    rw [e]; exact h.cell j hj)
theorem RowB.set {l : List UInt8} {w0 w : World} (h : RowB l w0 w) (i : Nat) (hi : i < l.length) (v : UInt8) : RowB (l.set i v) w0 (w.setCell ⟨w0.heap.size, i, none⟩ (.int .u8 (v.toNat : Int))) := by
  refine ⟨fun j hj => ?_, fun j hj => ?_, below_set h.below (Nat.le_refl _)⟩
  · rw [List.length_set] at hj
    by_cases e : i = j
    · subst e
      rw [World.cell?_setCell_same _ _ _ (h.cell i hi), List.getElem_set_self]
    · rw [World.cell?_setCell_other, List.getElem_set_ne e]
      · exact h.cell j hj
      · intro g; injection g; exact e ‹_›
  · rw [List.length_set] at hj
    rw [World.frozen?_setCell]; exact h.free j hj
/-- The bytes with one bit turned. -/
def flipB (s : ByteArray) (c : Nat) : ByteArray := ⟨(s.data.toList.set (c / 8) (UInt8.ofNat ((s.data.toList.getD (c / 8) 0).toNat ^^^ 2 ^ (c % 8)))).toArray⟩
end Go.Proofs.YtalnbmpfgmpkbaaDoor.PQ
