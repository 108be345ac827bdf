/- The sectors that were touched, sorted. -/
import Derived.Test.YtihggmhmfocnpaaCmp
import Derived.Test.YtihggmhmfocnpaaShelf
import Derived.Shelf.SlSortCmp.NoneTotal
namespace Go.Proofs.Ytihggmhmfocnpaa.PQ
open Go.RowKit Go.Proofs.YtihggmhmfocnpaaW.PrintWords Go.Proofs.YtihggmhmfocnpaaW.PrintLast Go.Proofs.YtihggmhmfocnpaaW.PrintMore Go.Shelf Go.Lib Go.Sort
set_option linter.unusedVariables false
set_option linter.unusedSimpArgs false
theorem cf_lt (cs : List Int) (x y : Int) : cfI cs x y < 0 ↔ rd cs y < rd cs x ∨ (rd cs x = rd cs y ∧ x < y) := by
  unfold cfI orI cmpI
  by_cases h1 : rd cs y < rd cs x
  · simp [h1]
  · by_cases h2 : rd cs x < rd cs y
    · have : rd cs x ≠ rd cs y := by omega
      simp [h1, h2, this]
    · have h3 : rd cs x = rd cs y := by omega
      by_cases h4 : x < y
      · simp [h3, h4]
      · by_cases h5 : y < x <;> simp [h3, h4, h5]
/-- The sectors that were touched, rising. -/
def hotN (cs : List Int) : List Nat := (List.range cs.length).filter fun i : Nat => decide (0 < rd cs (i : Int))
theorem hotN_lt {cs : List Int} {x : Nat} (h : x ∈ hotN cs) : x < cs.length := by
  unfold hotN at h
  have := (List.mem_filter.1 h).1
  exact List.mem_range.1 this
def ltN (cs : List Int) (x y : Nat) : Bool := decide (cfI cs x y < 0)
/-- .. in the order of their ranks. -/
def sortN (cs : List Int) : List Nat := (hotN cs).mergeSort fun x y => !ltN cs y x
def rankL (cs : List Int) (n : Int) : List Int := ((sortN cs).take (max n 0).toNat).map fun k : Nat => (k : Int)
def encF (m : Nat) (x : Fin (m + 1)) : Value := .int .i64 (x.val : Int)
def cfF (cs : List Int) (m : Nat) (x y : Fin (m + 1)) : Int := cfI cs x.val y.val
def hotF (cs : List Int) (m : Nat) (h : cs.length = m + 1) : List (Fin (m + 1)) := (hotN cs).pmap (fun x hx => ⟨x, hx⟩) (fun x hx => by have := hotN_lt hx; omega)
theorem hotF_val (cs : List Int) (m : Nat) (h : cs.length = m + 1) : (hotF cs m h).map Fin.val = hotN cs := by
  unfold hotF
  rw [List.map_pmap]
  simp
theorem ltF (cs : List Int) (m : Nat) (x y : Fin (m + 1)) : ltOf (cfF cs m) x y = decide (rd cs (y.val : Int) < rd cs (x.val : Int) ∨ (rd cs (x.val : Int) = rd cs (y.val : Int) ∧ x.val < y.val)) := by
  unfold ltOf cfF
  rw [decide_eq_decide, cf_lt]
  exact or_congr Iff.rfl (and_congr Iff.rfl (by omega))
theorem swoF (cs : List Int) (m : Nat) : SWO (ltOf (cfF cs m)) where
  irrefl x := by rw [ltF]; simp
  trans x y z h1 h2 := by rw [ltF] at *; simp only [decide_eq_true_eq] at *; omega
  ntrans x y z h1 h2 := by rw [ltF] at *; simp only [decide_eq_false_iff_not] at *; omega
theorem totF (cs : List Int) (m : Nat) (x y : Fin (m + 1)) (h1 : ltOf (cfF cs m) x y = false) (h2 : ltOf (cfF cs m) y x = false) : x = y := by
  rw [ltF] at *
  simp only [decide_eq_false_iff_not] at *
  exact Fin.ext (by omega)
def sortF (cs : List Int) (m : Nat) (h : cs.length = m + 1) : List (Fin (m + 1)) := (hotF cs m h).mergeSort fun x y => !(ltOf (cfF cs m)) y x
theorem sortF_val (cs : List Int) (m : Nat) (h : cs.length = m + 1) : (sortF cs m h).map Fin.val = sortN cs := by
  unfold sortF sortN
  rw [← hotF_val cs m h]
  exact List.map_mergeSort (fun a _ b _ => rfl)
theorem sortN_perm (cs : List Int) : (sortN cs).Perm (hotN cs) := List.mergeSort_perm _ _
theorem sortN_len (cs : List Int) : (sortN cs).length = (hotN cs).length := (sortN_perm cs).length_eq
/-- A block apart from the row that is sorted stays. -/
theorem sortWorld_block {α : Type} [Inhabited α] (enc : α → Value) (w : World) (blk off m : Nat) (dk : Array α) (os : Array Obj) (k : Nat) (hk : k ≠ blk) (hlt : k < w.heap.size) : (sortWorld enc w blk off m dk os).heap[k]? = w.heap[k]? := by
  unfold sortWorld
  rw [heap_grow_old _ _ (by rw [size_putRow]; exact hlt)]
  unfold putRow mapBlock
  show ((Sort.ahead w m).heap.modify blk _)[k]? = _
  rw [Array.getElem?_modify, if_neg (fun e => hk e.symm)]
  rfl
theorem sortWorld_row {α : Type} [Inhabited α] (enc : α → Value) (w : World) (blk off m : Nat) (dk : Array α) (os : Array Obj) {cur : Array Value} {e : TypeId} {fr : Nat × Nat} (h : w.heap[blk]? = some (.cells cur e fr)) : (sortWorld enc w blk off m dk os).heap[blk]? = some (.cells (putCells enc off dk cur) e fr) := by
  unfold sortWorld
  have hlt := (Array.getElem?_eq_some_iff.1 h).1
  rw [heap_grow_old _ _ (by rw [size_putRow]; exact hlt)]
  unfold putRow mapBlock
  show ((Sort.ahead w m).heap.modify blk _)[blk]? = _
  rw [Array.getElem?_modify, if_pos rfl]
  show Option.map _ w.heap[blk]? = _
  rw [h]
  rfl
theorem sortWorld_below {α : Type} [Inhabited α] (enc : α → Value) (w0 w : World) (blk off m : Nat) (dk : Array α) (os : Array Obj) {n : Nat} (h : Below n w0 w) (hn : n ≤ w.heap.size) (hb : n ≤ blk) : Below n w0 (sortWorld enc w blk off m dk os) := by
  refine h.trans ⟨rfl, rfl, rfl, ?_, fun k hk => sortWorld_block enc w blk off m dk os k (by omega) (by omega)⟩
  unfold sortWorld
  rw [size_grow, size_putRow]
  exact Nat.le_add_right _ _
theorem putCells_size {α : Type} [Inhabited α] (enc : α → Value) (off : Nat) (d : Array α) (c : Array Value) : (putCells enc off d c).size = c.size := by unfold putCells; simp
section
variable {cs : List Int} {t : Int} {P B c X : Nat} {w : World}
theorem CC.sorted (h : CC cs t P B c X w) {α : Type} [Inhabited α] (enc : α → Value) (g m : Nat) (dk : Array α) (os : Array Obj) (h1 : g ≠ X) (h2 : g ≠ P) (h3 : g ≠ B) : CC cs t P B c X (sortWorld enc w g 0 m dk os) := by
  refine ⟨(sortWorld_block enc w g 0 m dk os X (fun e => h1 e.symm) (blk_lt h.box)).trans h.box, (sortWorld_block enc w g 0 m dk os P (fun e => h2 e.symm) (blk_lt h.at_.head)).trans h.at_.head, Kd.R_step h.at_.row (fun k hk hlt => sortWorld_block enc w g 0 m dk os k (by omega) hlt)⟩
theorem sort_calls (m : Nat) (hm : cs.length = m + 1) (H : CC cs t P B c X w) (g cap : Nat) (h1 : g ≠ X) (h2 : g ≠ P) (h3 : g ≠ B) (hg : g < w.heap.size) (hlen : cs.length ≤ 4096)
    (hH : ∀ j : Nat, j < (hotN cs).length → w.cell? ⟨g, j, none⟩ = some (.int .i64 (((hotN cs).getD j 0 : Nat) : Int)) ∧ w.frozen? ⟨g, j, none⟩ = false) :
    Calls Try.prog 23 #[.slice (some ⟨g, 0, none⟩) (hotN cs).length cap, .func (.func 24) #[] #[.pointer (some ⟨X, 0, none⟩)]] w fun e w' => e = .returned (.tuple #[]) ∧ ∃ n os, w' = sortWorld (encF m) w g 0 n (sortF cs m hm).toArray os := by
  have hl : (hotF cs m hm).length = (hotN cs).length := by rw [← hotF_val cs m hm, List.length_map]
  have hle : (hotN cs).length ≤ cs.length := by unfold hotN; exact Nat.le_trans (List.length_filter_le _ _) (by rw [List.length_range]; exact Nat.le_refl _)
  have h := Any.slices_SortFunc_total Try.sortF (encF m) (fun _ => rfl) (cfF cs m) (swoF cs m) 24 #[.pointer (some ⟨X, 0, none⟩)] g 0 cap (hotF cs m hm).toArray w (enters_of Try.func24 (by kernel_rfl) rfl)
    (fun n os dk hs x y => by
      refine (closure_calls cs t P B c X _ x.val y.val (by have := x.isLt; omega) (by have := y.isLt; omega) ⟨H.sorted (encF m) g n dk os h1 h2 h3⟩).mono ?_
      rintro e w' ⟨rfl, o, rfl⟩
      refine ⟨rfl, 1, #[o], ?_⟩
      rw [alloc_eq_grow]
      rfl)
    (fun j hj => by
      have hj' : j < (hotN cs).length := by simpa [hl] using hj
      have hx := hH j hj'
      have e1 : (hotF cs m hm).toArray[j]! = (hotF cs m hm)[j]'(by omega) := by
        rw [getElem!_pos (hotF cs m hm).toArray j hj]; simp
      have e2 : ((hotF cs m hm)[j]'(by omega)).val = (hotN cs).getD j 0 := by
        rw [List.getD_eq_getElem?_getD, List.getElem?_eq_getElem hj', Option.getD_some]
        have := hotF_val cs m hm
        have e3 : ((hotF cs m hm).map Fin.val)[j]'(by rw [List.length_map]; omega) = (hotN cs)[j] := by simp only [this]
        rw [List.getElem_map] at e3
        exact e3
      rw [Nat.zero_add, e1]
      unfold encF
      rw [e2]
      exact hx) hg (by rw [List.size_toArray]; omega) (totF cs m)
  rw [List.size_toArray, hl] at h
  exact h
end
end Go.Proofs.Ytihggmhmfocnpaa.PQ
