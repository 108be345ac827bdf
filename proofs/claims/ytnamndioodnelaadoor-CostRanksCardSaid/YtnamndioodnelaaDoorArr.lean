/- An array argument of one-cell elements, laid open cell by cell; no condition beyond its type. -/
import Derived.Lib.SmallJoins
import Derived.OpenShut
import Derived.ProofKit
namespace Go.Proofs.YtnamndioodnelaaDoor.Arr
open Go Go.Joins Go.WideShapes
variable {H : Type} {enc : TypeId × Value → H} {P : Program} {w : World} {base : Nat} {sp : Nat → Bool} {held : Bool}
theorem okWide_arr {r : Reach} {b : Nat} {n : Nat} {t e : TypeId} {v : Value} (ht : P.underlying t = some (.array n e)) (h : Value.okWide P w r b t v) : ∃ cs, v = .agg cs ∧ cs.size = P.cellsOf t := by
  simp only [Value.okWide, ht] at h
  obtain ⟨cs, h1, h2, _⟩ := h
  exact ⟨cs, h1, h2⟩
/-- Each cell of an array of one-cell elements, with its own reading. -/
theorem open_arr {r : Reach} {b : Nat} {n : Nat} {t e : TypeId} {v : Value} {d : DataW H} {p : List MemPlace} (ht : P.underlying t = some (.array n e)) (he : P.cellsOf e = 1) (hC : P.cellsOf t = n)
    (hv : Value.okWide P w r b t v) (h : DataW.Trod enc P w base sp held t v d p) (hcell : ∀ cs : Array Value, (Value.agg cs).cells = cs) :
    ∃ (cs : List Value) (xs : List (DataW H × List MemPlace)) (m : Nat), v = .agg cs.toArray ∧ cs.length = n ∧ d = .agg (xs.map (·.1)) ∧ p = xs.flatMap (·.2) ∧ xs.length = n ∧
      ∀ (i : Nat) (c : Value), cs[i]? = some c → ∃ y, xs[i]? = some y ∧ DataW.trod enc P w base sp held m e [c] = some y := by
  obtain ⟨cs, rfl, hsz⟩ := okWide_arr ht hv
  obtain ⟨fuel, hf⟩ := h
  rw [hcell] at hf
  obtain ⟨xs, m, _, hx, hl, hn, hel⟩ := DataW.trod_array ht hf
  simp only [Prod.mk.injEq] at hx
  refine ⟨cs.toList, xs, m, by simp, by rw [hl, hC], hx.1, hx.2, hn, ?_⟩
  intro i c hc
  have hi : i < n := by
    have := (List.getElem?_eq_some_iff.1 hc).1
    rw [hl, hC] at this; exact this
  have := hel i hi
  rw [he, Nat.mul_one] at this
  have e1 : (cs.toList.drop i).take 1 = [c] := by
    have hi2 := (List.getElem?_eq_some_iff.1 hc)
    rw [List.drop_eq_getElem_cons hi2.1, hi2.2]; rfl
  rw [e1] at this
  have hx2 : xs[i]? = some xs[i] := List.getElem?_eq_getElem (by omega)
  exact ⟨xs[i], hx2, by rw [this]; exact hx2⟩
theorem list2 {α : Type} {l : List α} (h : l.length = 2) : ∃ a b, l = [a, b] := by
  match l, h with
  | [a, b], _ => exact ⟨a, b, rfl⟩
theorem list3 {α : Type} {l : List α} (h : l.length = 3) : ∃ a b c, l = [a, b, c] := by
  match l, h with
  | [a, b, c], _ => exact ⟨a, b, c, rfl⟩
end Go.Proofs.YtnamndioodnelaaDoor.Arr
