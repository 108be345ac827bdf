/- What the row's condition on the listed table gives, and that the program's own start meets it; no condition beyond the listed variable's data. -/
import Derived.Test.YtoiofemekcnlbaaDoorRows
import Derived.Test.YtoiofemekcnlbaaDoorPool
import Derived.LaidMore
import Derived.MakeChecks
import Derived.Lib.LaidTab
import Derived.Lib.SmallJoins
import Derived.OpenShut
import Derived.ProofKit
namespace Go.Proofs.YtoiofemekcnlbaaDoor.PQ
open Go Go.RowKit
def laidL : List (String × DataW Unit) := [("deckle/pool.may", Rows.laid_deckle_pool_may)]
theorem door_met (os : Os) (args : Array Value) : laidMetH Tryd.prog laidL ((World.doorLaid Tryd.prog 400 os).forCall (fun _ _ => 0) ⟨#[], args, []⟩).memory :=
  laidMetH_of_parts3 (fuel := 8) (laidMet_of_run' 8 (by kernel_rfl) (by kernel_rfl)) (by kernel_rfl) (by kernel_rfl)
theorem gTab : Tryd.prog.globalNamed "deckle/pool.may" = some 0 := by kernel_rfl
theorem tTab : (Tryd.prog.globals[0]?).map (·.type) = some 58 := by kernel_rfl
theorem c4 : Tryd.prog.cellsOf 4 = 1 := by kernel_rfl
theorem c57 : Tryd.prog.cellsOf 57 = 7 := by kernel_rfl
theorem c58 : Tryd.prog.cellsOf 58 = 49 := by kernel_rfl
section
variable {H : Type} {enc : TypeId × Value → H} {W : World} {base : Nat} {sp : Nat → Bool} {held : Bool}
theorem take1 {cs : List Value} {i : Nat} {v : Value} (h : (cs.drop i).take 1 = [v]) : cs[i]? = some v := by
  have h2 := congrArg (fun l : List Value => l[0]?) h
  simpa [List.getElem?_take, List.getElem?_drop] using h2
theorem row_bools {fuel : Nat} {cs : List Value} {bs : List Bool} {pl : List MemPlace} (h : DataW.trod enc Tryd.prog W base sp held fuel 57 cs = some (.agg (bs.map fun b => .lit (.bool b)), pl)) : cs = bs.map Value.bool := by
  obtain ⟨xs, m, _, hx, hl, hn, hel⟩ := DataW.trod_array Tryd.underlying57 h
  simp only [Prod.mk.injEq, DataW.agg.injEq] at hx
  have hx1 := hx.1
  have hlen : bs.length = 7 := by
    have := congrArg List.length hx1
    simpa [hn] using this
  rw [c57] at hl
  apply List.ext_getElem?
  intro i
  by_cases hi : i < 7
  · have h1 := hel i hi
    rw [c4, Nat.mul_one, List.getElem?_eq_getElem (by omega)] at h1
    obtain ⟨b, e, hb⟩ := DataW.trod_bool Tryd.underlying4 h1
    rw [take1 e, List.getElem?_map]
    have h2 := congrArg (fun l : List (DataW H) => l[i]?) hx1
    simp only [List.getElem?_map] at h2
    rw [List.getElem?_eq_getElem (show i < xs.length by omega), hb, List.getElem?_eq_getElem (show i < bs.length by omega)] at h2
    simp at h2
    rw [List.getElem?_eq_getElem (show i < bs.length by omega)]
    simp [h2]
  · rw [List.getElem?_eq_none (by omega), List.getElem?_eq_none (by simp; omega)]
theorem rows_bools {fuel : Nat} {cs : List Value} {rows : List (List Bool)} {pl : List MemPlace} (h : DataW.trod enc Tryd.prog W base sp held fuel 58 cs = some (.agg (rows.map fun bs => .agg (bs.map fun b => .lit (.bool b))), pl)) (f r : Nat) (hf : f < 7) (hr : r < 7) (b : Bool) (hb : (rows[f]?).bind (fun l => l[r]?) = some b) : cs[f * 7 + r]? = some (.bool b) := by
  obtain ⟨xs, m, _, hx, hl, hn, hel⟩ := DataW.trod_array Tryd.underlying58 h
  simp only [Prod.mk.injEq, DataW.agg.injEq] at hx
  have h1 := hel f hf
  rw [c57, List.getElem?_eq_getElem (by omega)] at h1
  obtain ⟨bs, hbs, hbr⟩ := Option.bind_eq_some_iff.1 hb
  have h2 := congrArg (fun l : List (DataW H) => l[f]?) hx.1
  simp only [List.getElem?_map] at h2
  rw [hbs, List.getElem?_eq_getElem (show f < xs.length by omega)] at h2
  simp only [Option.map_some, Option.some.injEq] at h2
  rw [show xs[f] = (xs[f].1, xs[f].2) from rfl, ← h2] at h1
  have h3 := congrArg (fun l : List Value => l[r]?) (row_bools h1)
  simp only [List.getElem?_map, hbr, List.getElem?_take, List.getElem?_drop, if_pos hr] at h3
  exact h3
end
def tabB : List (List Bool) := [[false, true, false, true, true, false, true], [false, false, true, false, false, true, true], [false, false, false, false, false, true, true], [false, false, false, false, false, true, true], [false, false, true, false, false, true, true], [true, false, false, false, false, false, true], [false, false, false, false, false, false, false]]
theorem tabB_at : ∀ f : Fin 7, ∀ r : Fin 7, (tabB[f.1]?).bind (fun l => l[r.1]?) = some (mayB (f.1 : Int) (r.1 : Int)) := by decide +kernel
theorem tabs_of_laid {W : World} (h : laidMetH Tryd.prog laidL W) : Tabs W := by
  rw [MakeChecks.laidMetH_plain _ _ _ (by kernel_rfl)] at h
  obtain ⟨ps, ⟨g', t', cs, fuel, p, q, hg', ht', hvar, hd, _, _⟩, _⟩ := h
  obtain rfl := Option.some.inj (gTab.symm.trans hg')
  obtain rfl := Option.some.inj (tTab.symm.trans ht')
  have c : ∀ f r : Nat, f < 7 → r < 7 → W.cell? ⟨0, f * 7 + r, none⟩ = some (.bool (mayB f r)) := fun f r hf hr => by
    have h1 := rows_bools (rows := tabB) hd f r hf hr _ (tabB_at ⟨f, hf⟩ ⟨r, hr⟩)
    have h2 := World.var?_cell gTab hvar (f * 7 + r)
    rw [h2]
    simpa using h1
  exact ⟨World.block_lt_of_cell? _ _ (c 0 0 (by decide) (by decide)), c⟩
end Go.Proofs.YtoiofemekcnlbaaDoor.PQ
