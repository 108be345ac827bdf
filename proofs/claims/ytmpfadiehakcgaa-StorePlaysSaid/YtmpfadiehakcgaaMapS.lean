/- A map from strings, as a function. -/
import Derived.Test.YtmpfadiehakcgaaPQx0
import Derived.Test.YtmpfadiehakcgaaWMore
import Derived.Maps.OwnSet
import Derived.Maps.Own
import Derived.Maps.Views
import Derived.StringKeys
import Derived.WalkSpells
import Derived.LoopTactic
import Derived.Lib.Hide
import Derived.IntWalk
import Derived.Deep.QuietTactic
import Derived.BigQuiet
import Derived.Laws.Rows
import Derived.Outline
import Derived.OwnWalk
namespace Go.Proofs.Ytmpfadiehakcgaa.PQ
open Go.RowKit Go.Proofs.YtmpfadiehakcgaaW.PrintWords Go.Proofs.YtmpfadiehakcgaaW.PrintLast Go.Proofs.YtmpfadiehakcgaaW.PrintMore Go.WideShapes Go.ChangeMaps Go.MapKept
set_option linter.unusedVariables false
set_option linter.unusedSimpArgs false
/-- How an element is read: as itself. -/
def RV (v : Value) : Option (DataW Value × List MemPlace) := some (.held v, [])
theorem ownsMap_tight {H : Type} {P : Program} {k : TypeId} {R : Value → Option (DataW H × List MemPlace)} {w : World} {b n : Nat} {D : DataW H} (h : w.ownsMap P k R b n D) : w.ownsMap P k R b (Maps.size D) D := by
  obtain ⟨es, clock, hb, F, hs, rfl⟩ := h
  refine ⟨es, clock, hb, F, ?_, rfl⟩
  simp [Maps.size, length_sorted]
def updS (m : ByteArray → Option Value) (a : ByteArray) (v : Option Value) : ByteArray → Option Value := fun x => if x = a then v else m x
def litS (s : ByteArray) : Lit := .string s.data.toList
theorem litS_ne {a a' : ByteArray} (h : a' ≠ a) : litS a' ≠ litS a := fun e => h (by
  unfold litS at e
  injection e with e
  exact ByteArray.ext (Array.toList_inj.1 e))
theorem isKeyS (a : ByteArray) : WideAt.IsKeyLit (litS a) := by unfold WideAt.IsKeyLit litS; trivial
/-- A map from strings: what it holds, and how many. -/
structure MapS (P : Program) (k : TypeId) (m : ByteArray → Option Value) (c b : Nat) (D : DataW Value) (w : World) : Prop where
  own : w.ownsMap P k RV b c D
  tidy : Maps.Tidy D
  size : Maps.size D = c
  has : ∀ a, Maps.has D (litS a) = (m a).isSome
  at_ : ∀ a, ∀ z, D.atKey (litS a) z = match m a with | some v => .held v | none => z
section
variable {P : Program} {k t e : TypeId} {m : ByteArray → Option Value} {c b : Nat} {D : DataW Value} {w w' : World}
theorem MapS.made (w : World) : MapS P k (fun _ => none) 0 w.heap.size (.map []) (w.alloc (.map #[] 0)) :=
  ⟨World.ownsMap_made w P k RV, Maps.tidy_empty, rfl, fun _ => rfl, fun _ _ => rfl⟩
theorem MapS.lt (h : MapS P k m c b D w) : b < w.heap.size := h.own.lt
theorem MapS.same (h : MapS P k m c b D w) (hs : w'.heap[b]? = w.heap[b]?) : MapS P k m c b D w' := by
  obtain ⟨es, clock, hb, F, hr⟩ := h.own
  exact ⟨⟨es, clock, hs.trans hb, F, hr⟩, h.tidy, h.size, h.has, h.at_⟩
theorem MapS.look (h : MapS P k m c b D w) (hk : P.underlying k = some .string) (ht : P.underlying t = some (.map k e)) {z : Value} (hz : (zeroValue e).run P w = .ok z w) (a : ByteArray) (ha : a.size ≤ maxLen) :
    (Instr.lookup t (.map (some b)) (.string a) false).run P w = .ok ((m a).getD z) w := by
  obtain ⟨v, ps, hrun, hR⟩ := h.own.lookup (Maps.string_keyed hk) ht hz (zd := .held z) (zp := []) rfl (WideMaps.keyOf_string_mk hk ha)
  rw [hrun]
  have hR2 : RV v = some (match m a with | some v => .held v | none => .held z, ps) := by rw [hR]; exact congrArg (fun x => some (x, ps)) (h.at_ a (.held z))
  unfold RV at hR2
  cases hm : m a with
  | none => rw [hm] at hR2; simp at hR2; simp [hR2.1]
  | some u => rw [hm] at hR2; simp at hR2; simp [hR2.1]
theorem MapS.store (h : MapS P k m c b D w) (hk : P.underlying k = some .string) (ht : P.underlying t = some (.map k e)) (hc : c < maxLen) (a : ByteArray) (ha : a.size ≤ maxLen) (v : Value) :
    ∃ w' D', (Instr.mapUpdate t (.map (some b)) (.string a) v).run P w = .ok () w' ∧ MapS P k (updS m a (some v)) (if (m a).isSome then c else c + 1) b D' w' ∧ w.mapTurned w' b := by
  obtain ⟨w', hrun, ho, ht2⟩ := h.own.store (Maps.string_keyed hk) ht hc (WideMaps.keyOf_string_mk hk ha) (d := .held v) (ps := []) rfl
  have hs := Maps.size_put (k := litS a) h.tidy (.held v)
  rw [h.has a, h.size] at hs
  refine ⟨w', _, hrun, ⟨?_, h.tidy.put (isKeyS a) _, hs, fun x => ?_, fun x z => ?_⟩, ht2⟩
  · have h2 : w'.ownsMap P k RV b (Maps.size (D.put (litS a) (DataW.held v))) (D.put (litS a) (DataW.held v)) := ownsMap_tight ho
    rw [hs] at h2
    exact h2
  · unfold updS
    by_cases e : x = a
    · subst e; rw [if_pos rfl]; exact Maps.has_put_same h.tidy.isMap (isKeyS x) _
    · rw [if_neg e, Maps.has_put_other (litS_ne e)]; exact h.has x
  · unfold updS
    by_cases e : x = a
    · subst e; rw [if_pos rfl]; exact Maps.atKey_put_same h.tidy.isMap (isKeyS x) _ _
    · rw [if_neg e, Maps.atKey_put_other (litS_ne e)]; exact h.at_ x z
theorem MapS.clear (h : MapS P k m c b D w) (ht : P.underlying t = some (.map k e)) (ty : TypeId) :
    ∃ w', (Builtin.clear_ #[t] ty #[.map (some b)]).run P w = .ok (.tuple #[]) w' ∧ MapS P k (fun _ => none) 0 b (.map []) w' ∧ w.mapTurned w' b := by
  obtain ⟨es, clock, hb, F, hs, hD⟩ := h.own
  refine ⟨setBlock w b (.map #[] clock), ?_, ⟨⟨#[], clock, heap_setBlock_same hb _, ⟨by simp, stamped_empty clock, by simp⟩, Nat.le_refl _, rfl⟩, Maps.tidy_empty, rfl, fun _ => rfl, fun _ _ => rfl⟩, ⟨es, clock, #[], clock, hb, rfl⟩⟩
  simp [Builtin.clear_, run_underlying ht, Go.MapKept.run_getObj_map hb, Go.MapKept.run_setObj_map _ hb, setBlock]
end
end Go.Proofs.Ytmpfadiehakcgaa.PQ
