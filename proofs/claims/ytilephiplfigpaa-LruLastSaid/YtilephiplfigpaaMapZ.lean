/- A map from ints, as a function. -/
import Derived.Test.YtilephiplfigpaaPQx0
import Derived.Test.YtilephiplfigpaaPQx1
import Derived.Test.YtilephiplfigpaaPQx2
import Derived.Test.YtilephiplfigpaaWMore
import Derived.Maps.OwnSet
import Derived.Maps.Own
import Derived.Maps.Views
import Derived.WalkSpells
import Derived.LoopTactic
import Derived.Lib.Hide
import Derived.IntWalk
import Derived.Deep.QuietTactic
import Derived.BigQuiet
import Derived.Laws.Rows
import Derived.Outline
import Derived.OwnWalk
namespace Go.Proofs.Ytilephiplfigpaa.PQ
open Go.RowKit Go.Proofs.YtilephiplfigpaaW.PrintWords Go.Proofs.YtilephiplfigpaaW.PrintLast Go.Proofs.YtilephiplfigpaaW.PrintMore Go.WideShapes Go.ChangeMaps Go.MapKept
set_option linter.unusedVariables false
set_option linter.unusedSimpArgs false
/-- How an element is read: as itself. -/
def RV (v : Value) : Option (DataW Value × List MemPlace) := some (.held v, [])
theorem ownsMap_tight {H : Type} {P : Program} {k : TypeId} {R : Value → Option (DataW H × List MemPlace)} {w : World} {b n : Nat} {D : DataW H} (h : w.ownsMap P k R b n D) : w.ownsMap P k R b (Maps.size D) D := by
  obtain ⟨es, clock, hb, F, hs, rfl⟩ := h
  refine ⟨es, clock, hb, F, ?_, rfl⟩
  simp [Maps.size, length_sorted]
def updZ (m : Int → Option Value) (a : Int) (v : Option Value) : Int → Option Value := fun x => if x = a then v else m x
/-- A map from ints: what it holds, and how many. -/
structure MapZ (P : Program) (k : TypeId) (m : Int → Option Value) (c b : Nat) (D : DataW Value) (w : World) : Prop where
  own : w.ownsMap P k RV b c D
  tidy : Maps.Tidy D
  size : Maps.size D = c
  has : ∀ a, (Lit.int .i64 a).wf = true → Maps.has D (.int .i64 a) = (m a).isSome
  at_ : ∀ a, (Lit.int .i64 a).wf = true → ∀ z, D.atKey (.int .i64 a) z = match m a with | some v => .held v | none => z
section
variable {P : Program} {k t e : TypeId} {m : Int → Option Value} {c b : Nat} {D : DataW Value} {w w' : World}
theorem MapZ.made (w : World) : MapZ P k (fun _ => none) 0 w.heap.size (.map []) (w.alloc (.map #[] 0)) :=
  ⟨World.ownsMap_made w P k RV, Maps.tidy_empty, rfl, fun _ _ => rfl, fun _ _ _ => rfl⟩
theorem MapZ.kept {row : Option Nat} (h : MapZ P k m c b D w) (hg : w.grownBy w' row) (hne : some b ≠ row) : MapZ P k m c b D w' := ⟨h.own.kept hg hne, h.tidy, h.size, h.has, h.at_⟩
theorem MapZ.look (h : MapZ P k m c b D w) (hk : P.underlying k = some (.int .i64)) (ht : P.underlying t = some (.map k e)) {z : Value} (hz : (zeroValue e).run P w = .ok z w) (a : Int) (ha : (Lit.int .i64 a).wf = true) :
    (Instr.lookup t (.map (some b)) (.int .i64 a) false).run P w = .ok ((m a).getD z) w := by
  obtain ⟨v, ps, hrun, hR⟩ := h.own.lookup (Maps.int_keyed hk) ht hz (zd := .held z) (zp := []) rfl (Maps.keyOf_int_mk hk ha)
  rw [hrun, h.at_ a ha] at *
  unfold RV at hR
  cases hm : m a with
  | none => rw [hm] at hR; simp at hR; simp [hR.1]
  | some u => rw [hm] at hR; simp at hR; simp [hR.1]
theorem MapZ.look_ok (h : MapZ P k m c b D w) (hk : P.underlying k = some (.int .i64)) (ht : P.underlying t = some (.map k e)) {z : Value} (hz : (zeroValue e).run P w = .ok z w) (a : Int) (ha : (Lit.int .i64 a).wf = true) :
    (Instr.lookup t (.map (some b)) (.int .i64 a) true).run P w = .ok (.tuple #[(m a).getD z, .bool (m a).isSome]) w := by
  obtain ⟨v, ps, hrun, hR⟩ := h.own.look_ok (Maps.int_keyed hk) ht hz (zd := .held z) (zp := []) rfl (Maps.keyOf_int_mk hk ha)
  rw [hrun, h.has a ha]
  rw [h.at_ a ha] at hR
  unfold RV at hR
  cases hm : m a with
  | none => rw [hm] at hR; simp at hR; simp [hR.1]
  | some u => rw [hm] at hR; simp at hR; simp [hR.1]
theorem MapZ.len (h : MapZ P k m c b D w) (ht : P.underlying t = some (.map k e)) (ty : TypeId) : (Builtin.len_ #[t] ty #[.map (some b)]).run P w = .ok (.int .i64 c) w := by
  rw [h.own.len ht ty, h.size]
theorem lit_ne {a a' : Int} (h : a' ≠ a) : (Lit.int .i64 a') ≠ Lit.int .i64 a := fun e => h (by injection e)
theorem isKey (a : Int) : WideAt.IsKeyLit (.int .i64 a) := by unfold WideAt.IsKeyLit; trivial
theorem MapZ.store (h : MapZ P k m c b D w) (hk : P.underlying k = some (.int .i64)) (ht : P.underlying t = some (.map k e)) (hc : c < maxLen) (a : Int) (ha : (Lit.int .i64 a).wf = true) (v : Value) :
    ∃ w' D', (Instr.mapUpdate t (.map (some b)) (.int .i64 a) v).run P w = .ok () w' ∧ MapZ P k (updZ m a (some v)) (if (m a).isSome then c else c + 1) b D' w' ∧ w.mapTurned w' b := by
  obtain ⟨w', hrun, ho, ht2⟩ := h.own.store (Maps.int_keyed hk) ht hc (Maps.keyOf_int_mk hk ha) (d := .held v) (ps := []) rfl
  have hs := Maps.size_put (k := .int .i64 a) h.tidy (.held v)
  rw [h.has a ha, h.size] at hs
  refine ⟨w', _, hrun, ⟨?_, h.tidy.put (isKey a) _, hs, fun x hx => ?_, fun x hx z => ?_⟩, ht2⟩
  · have := ownsMap_tight ho
    rw [hs] at this
    exact this
  · unfold updZ
    by_cases e : x = a
    · subst e; rw [if_pos rfl]; exact Maps.has_put_same h.tidy.isMap (isKey x) _
    · rw [if_neg e, Maps.has_put_other (lit_ne e)]; exact h.has x hx
  · unfold updZ
    by_cases e : x = a
    · subst e; rw [if_pos rfl]; exact Maps.atKey_put_same h.tidy.isMap (isKey x) _ _
    · rw [if_neg e, Maps.atKey_put_other (lit_ne e)]; exact h.at_ x hx z
theorem MapZ.drop (h : MapZ P k m c b D w) (hk : P.underlying k = some (.int .i64)) (ht : P.underlying t = some (.map k e)) (a : Int) (ha : (Lit.int .i64 a).wf = true) (ty : TypeId) :
    ∃ w' D', (Builtin.delete_ #[t, k] ty #[.map (some b), .int .i64 a]).run P w = .ok (.tuple #[]) w' ∧ MapZ P k (updZ m a none) (if (m a).isSome then c - 1 else c) b D' w' ∧ w.mapTurned w' b := by
  obtain ⟨w', hrun, ho, ht2⟩ := h.own.drop (Maps.int_keyed hk) ht (Maps.keyOf_int_mk hk ha) ty
  have hs := Maps.size_del (k := .int .i64 a) h.tidy
  rw [h.has a ha, h.size] at hs
  have hs2 : Maps.size (D.del (.int .i64 a)) = if (m a).isSome then c - 1 else c := by split at hs <;> simp_all <;> omega
  refine ⟨w', _, hrun, ⟨?_, h.tidy.del _, hs2, fun x hx => ?_, fun x hx z => ?_⟩, ht2⟩
  · have := ownsMap_tight ho
    rw [hs2] at this
    exact this
  · unfold updZ
    by_cases e : x = a
    · subst e; rw [if_pos rfl]; exact Maps.has_del_same
    · rw [if_neg e, Maps.has_del_other (lit_ne e)]; exact h.has x hx
  · unfold updZ
    by_cases e : x = a
    · subst e; rw [if_pos rfl]; exact Maps.atKey_del_same _
    · rw [if_neg e, Maps.atKey_del_other (lit_ne e)]; exact h.at_ x hx z
end
end Go.Proofs.Ytilephiplfigpaa.PQ
