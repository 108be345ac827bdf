/- A ring of nodes, as the machine holds it. -/
import Derived.Test.YtilephiplfigpaaMapZ
namespace Go.Proofs.Ytilephiplfigpaa.PQ
open Go.RowKit Go.Proofs.YtilephiplfigpaaW.PrintWords Go.Proofs.YtilephiplfigpaaW.PrintLast Go.Proofs.YtilephiplfigpaaW.PrintMore
set_option linter.unusedVariables false
set_option linter.unusedSimpArgs false
/-- A sector as it lies: the node's block, the sector, what it holds. -/
structure EL where
  b : Nat
  lba : Int
  data : ByteArray
/-- The ring's addresses: 0 the root; then the nodes; then the root again. -/
def adr (P : Nat) (bs : List Nat) : Nat → Addr
  | 0 => ⟨P, 1, none⟩
  | j + 1 => match bs[j]? with | some b => ⟨b, 0, none⟩ | none => ⟨P, 1, none⟩
def updN (f : Nat → Value) (j : Nat) (v : Value) : Nat → Value := fun k => if k = j then v else f k
structure RingV (P M : Nat) (room hits misses : Int) (L : List EL) (ah nx : Nat → Value) (w : World) : Prop where
  root : w.heap[P]? = some (.cells #[.int .i64 room, .int .i64 0, .string ByteArray.empty, ah 0, nx 0, .map (some M), .int .i64 hits, .int .i64 misses] 51 (0, 0))
  node : ∀ (i : Nat) (e : EL), L[i]? = some e → w.heap[e.b]? = some (.cells #[.int .i64 e.lba, .string e.data, ah (i + 1), nx (i + 1)] 49 (0, 0))
  nd : (L.map (·.b)).Nodup
  ne : ∀ e ∈ L, e.b ≠ P
theorem nd_idx {L : List EL} (h : (L.map (·.b)).Nodup) {i i' : Nat} {e e' : EL} (h1 : L[i]? = some e) (h2 : L[i']? = some e') (hb : e.b = e'.b) : i = i' := by
  obtain ⟨hi, e1⟩ := List.getElem?_eq_some_iff.1 h1
  obtain ⟨hi', e2⟩ := List.getElem?_eq_some_iff.1 h2
  have := (List.getElem_inj (xs := L.map (·.b)) (i := i) (j := i') (h₀ := by rw [List.length_map]; exact hi) (h₁ := by rw [List.length_map]; exact hi') h).1 (by rw [List.getElem_map, List.getElem_map, e1, e2]; exact hb)
  exact this
section
variable {P M : Nat} {room hits misses : Int} {L : List EL} {ah nx : Nat → Value} {w w' : World}
theorem adr_succ (bs : List Nat) (j : Nat) : adr P bs (j + 1) = match bs[j]? with | some b => ⟨b, 0, none⟩ | none => ⟨P, 1, none⟩ := rfl
theorem map_erase (L : List EL) (i : Nat) : (L.eraseIdx i).map (·.b) = (L.map (·.b)).eraseIdx i := by
  apply List.ext_getElem?
  intro j
  rw [List.getElem?_map, List.getElem?_eraseIdx, List.getElem?_eraseIdx, List.getElem?_map, List.getElem?_map]
  split <;> rfl
theorem adr_node {i : Nat} {e : EL} (h : L[i]? = some e) : adr P (L.map (·.b)) (i + 1) = ⟨e.b, 0, none⟩ := by
  rw [adr_succ, List.getElem?_map, h]
  rfl
theorem adr_out {i : Nat} (h : L.length ≤ i) : adr P (L.map (·.b)) (i + 1) = ⟨P, 1, none⟩ := by
  rw [adr_succ, List.getElem?_eq_none (by rw [List.length_map]; exact h)]
theorem RingV.setNx (h : RingV P M room hits misses L ah nx w) (j : Nat) (hj : j ≤ L.length) (v : Value) : RingV P M room hits misses L ah (updN nx j v) (w.setCell ⟨(adr P (L.map (·.b)) j).block, (adr P (L.map (·.b)) j).off + 3, none⟩ v) := by
  cases j with
  | zero =>
    refine ⟨blk_put h.root 4 v rfl, fun i e he => ?_, h.nd, h.ne⟩
    exact blk_far (h.node i e he) (h.ne e (List.mem_of_getElem? he)) v
  | succ j =>
    obtain ⟨e, he⟩ : ∃ e, L[j]? = some e := ⟨_, List.getElem?_eq_getElem (by omega)⟩
    rw [adr_node he]
    refine ⟨?_, fun i e' he' => ?_, h.nd, h.ne⟩
    · exact blk_far h.root (fun hp => h.ne e (List.mem_of_getElem? he) hp.symm) v
    · by_cases hi : i = j
      · subst hi
        rw [he] at he'
        cases he'
        refine blk_put (h.node i e he) 3 v ?_
        unfold updN
        rw [if_pos rfl]
        rfl
      · have h1 : e'.b ≠ e.b := fun hb => hi (nd_idx h.nd he' he hb)
        have h2 := blk_far (h.node i e' he') (p := ⟨e.b, 0 + 3, none⟩) h1 v
        unfold updN
        rw [if_neg (by omega)]
        exact h2
theorem RingV.setAh (h : RingV P M room hits misses L ah nx w) (j : Nat) (hj : j ≤ L.length) (v : Value) : RingV P M room hits misses L (updN ah j v) nx (w.setCell ⟨(adr P (L.map (·.b)) j).block, (adr P (L.map (·.b)) j).off + 2, none⟩ v) := by
  cases j with
  | zero =>
    refine ⟨blk_put h.root 3 v rfl, fun i e he => ?_, h.nd, h.ne⟩
    exact blk_far (h.node i e he) (h.ne e (List.mem_of_getElem? he)) v
  | succ j =>
    obtain ⟨e, he⟩ : ∃ e, L[j]? = some e := ⟨_, List.getElem?_eq_getElem (by omega)⟩
    rw [adr_node he]
    refine ⟨?_, fun i e' he' => ?_, h.nd, h.ne⟩
    · exact blk_far h.root (fun hp => h.ne e (List.mem_of_getElem? he) hp.symm) v
    · by_cases hi : i = j
      · subst hi
        rw [he] at he'
        cases he'
        refine blk_put (h.node i e he) 2 v ?_
        unfold updN
        rw [if_pos rfl]
        rfl
      · have h1 : e'.b ≠ e.b := fun hb => hi (nd_idx h.nd he' he hb)
        have h2 := blk_far (h.node i e' he') (p := ⟨e.b, 0 + 2, none⟩) h1 v
        unfold updN
        rw [if_neg (by omega)]
        exact h2
theorem RingV.cellNx (h : RingV P M room hits misses L ah nx w) (j : Nat) (hj : j ≤ L.length) : w.cell? ⟨(adr P (L.map (·.b)) j).block, (adr P (L.map (·.b)) j).off + 3, none⟩ = some (nx j) ∧ w.frozen? ⟨(adr P (L.map (·.b)) j).block, (adr P (L.map (·.b)) j).off + 3, none⟩ = false := by
  cases j with
  | zero => exact ⟨blk_cell h.root 4, blk_frozen h.root 4⟩
  | succ j =>
    obtain ⟨e, he⟩ : ∃ e, L[j]? = some e := ⟨_, List.getElem?_eq_getElem (by omega)⟩
    rw [adr_node he]
    exact ⟨blk_cell (h.node j e he) 3, blk_frozen (h.node j e he) 3⟩
theorem RingV.cellAh (h : RingV P M room hits misses L ah nx w) (j : Nat) (hj : j ≤ L.length) : w.cell? ⟨(adr P (L.map (·.b)) j).block, (adr P (L.map (·.b)) j).off + 2, none⟩ = some (ah j) ∧ w.frozen? ⟨(adr P (L.map (·.b)) j).block, (adr P (L.map (·.b)) j).off + 2, none⟩ = false := by
  cases j with
  | zero => exact ⟨blk_cell h.root 3, blk_frozen h.root 3⟩
  | succ j =>
    obtain ⟨e, he⟩ : ∃ e, L[j]? = some e := ⟨_, List.getElem?_eq_getElem (by omega)⟩
    rw [adr_node he]
    exact ⟨blk_cell (h.node j e he) 2, blk_frozen (h.node j e he) 2⟩
theorem RingV.same (h : RingV P M room hits misses L ah nx w) (hs : ∀ k, k = P ∨ k ∈ L.map (·.b) → w'.heap[k]? = w.heap[k]?) : RingV P M room hits misses L ah nx w' :=
  ⟨(hs P (.inl rfl)).trans h.root, fun i e he => (hs e.b (.inr (List.mem_map_of_mem (List.mem_of_getElem? he)))).trans (h.node i e he), h.nd, h.ne⟩
theorem RingV.congr {ah' nx' : Nat → Value} (h : RingV P M room hits misses L ah nx w) (h1 : ∀ j, j ≤ L.length → ah' j = ah j) (h2 : ∀ j, j ≤ L.length → nx' j = nx j) : RingV P M room hits misses L ah' nx' w := by
  refine ⟨?_, fun i e he => ?_, h.nd, h.ne⟩
  · rw [h1 0 (Nat.zero_le _), h2 0 (Nat.zero_le _)]; exact h.root
  · obtain ⟨hi, _⟩ := List.getElem?_eq_some_iff.1 he
    rw [h1 (i + 1) hi, h2 (i + 1) hi]; exact h.node i e he
def skipN (f : Nat → Value) (k : Nat) : Nat → Value := fun j => if j < k then f j else f (j + 1)
theorem RingV.erase (h : RingV P M room hits misses L ah nx w) (i : Nat) : RingV P M room hits misses (L.eraseIdx i) (skipN ah (i + 1)) (skipN nx (i + 1)) w := by
  refine ⟨?_, fun j e he => ?_, ?_, fun e he => h.ne e (List.mem_of_mem_eraseIdx he)⟩
  · have : ∀ f, skipN f (i + 1) 0 = f 0 := fun f => by unfold skipN; rw [if_pos (Nat.succ_pos _)]
    rw [this, this]
    exact h.root
  · rw [List.getElem?_eraseIdx] at he
    unfold skipN
    by_cases hj : j < i
    · rw [if_pos hj] at he
      rw [if_pos (by omega), if_pos (by omega)]
      exact h.node j e he
    · rw [if_neg hj] at he
      rw [if_neg (by omega), if_neg (by omega)]
      exact h.node (j + 1) e he
  · rw [map_erase]
    exact h.nd.sublist (List.eraseIdx_sublist _ _)
def insN (f : Nat → Value) (v : Value) : Nat → Value
  | 0 => f 0
  | 1 => v
  | j + 2 => f (j + 1)
theorem RingV.cons (h : RingV P M room hits misses L ah nx w) (e : EL) (a x : Value) (hb : w.heap[e.b]? = some (.cells #[.int .i64 e.lba, .string e.data, a, x] 49 (0, 0))) (hn : ∀ e' ∈ L, e'.b ≠ e.b) : RingV P M room hits misses (e :: L) (insN ah a) (insN nx x) w := by
  have hP : e.b ≠ P := fun hp => by
    rw [hp, h.root] at hb
    injection hb with hb
    injection hb with _ hb
    exact absurd hb (by decide)
  refine ⟨h.root, fun i e' he => ?_, ?_, fun e' he => ?_⟩
  · cases i with
    | zero => cases he; exact hb
    | succ i => exact h.node i e' he
  · rw [List.map_cons, List.nodup_cons]
    refine ⟨fun hm => ?_, h.nd⟩
    obtain ⟨e', h1, h2⟩ := List.mem_map.1 hm
    exact hn e' h1 h2
  · rcases List.mem_cons.1 he with rfl | he
    · exact hP
    · exact h.ne e' he
/-- The ring as it should be. -/
def nxS (P : Nat) (L : List EL) : Nat → Value := fun j => .pointer (some (adr P (L.map (·.b)) (j + 1)))
def ahS (P : Nat) (L : List EL) : Nat → Value
  | 0 => .pointer (some (adr P (L.map (·.b)) L.length))
  | j + 1 => .pointer (some (adr P (L.map (·.b)) j))
def Ring (P M : Nat) (room hits misses : Int) (L : List EL) (w : World) : Prop := RingV P M room hits misses L (ahS P L) (nxS P L) w
theorem adr_erase (i j : Nat) : adr P ((L.eraseIdx i).map (·.b)) j = if j ≤ i then adr P (L.map (·.b)) j else adr P (L.map (·.b)) (j + 1) := by
  rw [map_erase]
  cases j with
  | zero => rw [if_pos (Nat.zero_le _)]; rfl
  | succ j =>
    rw [adr_succ, adr_succ, adr_succ, List.getElem?_eraseIdx]
    by_cases hj : j < i
    · rw [if_pos hj, if_pos (show j + 1 ≤ i from hj)]
    · rw [if_neg hj, if_neg (show ¬ j + 1 ≤ i from hj)]
/-- The index of what stands behind a node. -/
def nxI (n i : Nat) : Nat := if i + 1 < n then i + 2 else 0
theorem adr_nxI {i : Nat} : adr P (L.map (·.b)) (nxI L.length i) = adr P (L.map (·.b)) (i + 2) := by
  unfold nxI
  by_cases h : i + 1 < L.length
  · rw [if_pos h]
  · rw [if_neg h, adr_out (by omega)]
    rfl
theorem Ring.unlinked {i : Nat} (hi : i < L.length) {v1 v2 : Value} (h : RingV P M room hits misses L (updN (updN (ahS P L) (nxI L.length i) (ahS P L (i + 1))) (i + 1) v1) (updN (updN (nxS P L) i (nxS P L (i + 1))) (i + 1) v2) w) : Ring P M room hits misses (L.eraseIdx i) w := by
  refine (h.erase i).congr (fun j hj => ?_) (fun j hj => ?_)
  · rw [List.length_eraseIdx_of_lt hi] at hj
    unfold skipN updN nxI
    cases j with
    | zero =>
      rw [if_pos (by omega), if_neg (by omega)]
      show Value.pointer (some (adr P ((L.eraseIdx i).map (·.b)) (L.eraseIdx i).length)) = _
      rw [adr_erase, List.length_eraseIdx_of_lt hi]
      by_cases h2 : i + 1 < L.length
      · rw [if_neg (by omega), if_pos h2, if_neg (by omega)]
        show _ = Value.pointer (some (adr P (L.map (·.b)) L.length))
        rw [show L.length - 1 + 1 = L.length by omega]
      · rw [if_pos (by omega), if_neg h2, if_pos rfl]
        show _ = Value.pointer (some (adr P (L.map (·.b)) i))
        rw [show L.length - 1 = i by omega]
    | succ j =>
      show Value.pointer (some (adr P ((L.eraseIdx i).map (·.b)) j)) = _
      rw [adr_erase]
      by_cases hj2 : j < i
      · rw [if_pos (by omega), if_pos (by omega), if_neg (by omega), if_neg (by split <;> omega)]
        rfl
      · by_cases hj3 : j = i
        · subst hj3
          rw [if_pos (Nat.le_refl _), if_neg (by omega : ¬ j + 1 < j + 1), if_neg (by omega : ¬ j + 1 + 1 = j + 1), if_pos (by omega : j + 1 < L.length), if_pos rfl]
          rfl
        · rw [if_neg (by omega : ¬ j ≤ i), if_neg (by omega : ¬ j + 1 < i + 1), if_neg (by omega : ¬ j + 1 + 1 = i + 1), if_neg (by split <;> omega)]
          rfl
  · rw [List.length_eraseIdx_of_lt hi] at hj
    unfold skipN updN
    show Value.pointer (some (adr P ((L.eraseIdx i).map (·.b)) (j + 1))) = _
    rw [adr_erase]
    by_cases hj2 : j < i
    · rw [if_pos (by omega : j + 1 ≤ i), if_pos (by omega : j < i + 1), if_neg (by omega : ¬ j = i + 1), if_neg (by omega : ¬ j = i)]
      rfl
    · by_cases hj3 : j = i
      · subst hj3
        rw [if_neg (by omega : ¬ j + 1 ≤ j), if_pos (by omega : j < j + 1), if_neg (by omega : ¬ j = j + 1), if_pos rfl]
        rfl
      · rw [if_neg (by omega : ¬ j + 1 ≤ i), if_neg (by omega : ¬ j < i + 1), if_neg (by omega : ¬ j + 1 = i + 1), if_neg (by omega : ¬ j + 1 = i)]
        rfl
theorem adr_cons (e : EL) (j : Nat) : adr P ((e :: L).map (·.b)) (j + 2) = adr P (L.map (·.b)) (j + 1) := rfl
/-- The index of the first. -/
def fiI (n : Nat) : Nat := if 0 < n then 1 else 0
theorem adr_fiI : adr P (L.map (·.b)) (fiI L.length) = adr P (L.map (·.b)) 1 := by
  unfold fiI
  by_cases h : 0 < L.length
  · rw [if_pos h]
  · rw [if_neg h, adr_out (by omega)]
    rfl
theorem Ring.linked {e : EL} (h : RingV P M room hits misses L (updN (ahS P L) (fiI L.length) (.pointer (some ⟨e.b, 0, none⟩))) (updN (nxS P L) 0 (.pointer (some ⟨e.b, 0, none⟩))) w) (hb : w.heap[e.b]? = some (.cells #[.int .i64 e.lba, .string e.data, .pointer (some ⟨P, 1, none⟩), .pointer (some (adr P (L.map (·.b)) 1))] 49 (0, 0))) (hn : ∀ e' ∈ L, e'.b ≠ e.b) : Ring P M room hits misses (e :: L) w := by
  refine (h.cons e _ _ hb hn).congr (fun j hj => ?_) (fun j hj => ?_)
  · cases j with
    | zero =>
      show Value.pointer (some (adr P ((e :: L).map (·.b)) (L.length + 1))) = updN _ _ _ 0
      unfold updN fiI
      by_cases h0 : 0 < L.length
      · obtain ⟨n, hn'⟩ : ∃ n, L.length = n + 1 := ⟨L.length - 1, by omega⟩
        rw [if_neg (by rw [if_pos h0]; decide), hn', adr_cons]
        show _ = Value.pointer (some (adr P (L.map (·.b)) L.length))
        rw [hn']
      · rw [if_pos (by rw [if_neg h0])]
        rw [show L.length = 0 by omega]
        rfl
    | succ j =>
      cases j with
      | zero => rfl
      | succ j =>
        show Value.pointer (some (adr P ((e :: L).map (·.b)) (j + 1))) = updN _ _ _ (j + 1)
        rw [List.length_cons] at hj
        unfold updN fiI
        rw [if_pos (by omega : 0 < L.length)]
        cases j with
        | zero => rfl
        | succ j => rw [if_neg (by omega)]; rfl
  · cases j with
    | zero => rfl
    | succ j =>
      cases j with
      | zero => rfl
      | succ j =>
        show Value.pointer (some (adr P ((e :: L).map (·.b)) (j + 3))) = updN _ _ _ (j + 1)
        unfold updN
        rw [if_neg (by omega), adr_cons]
        rfl
end
end Go.Proofs.Ytilephiplfigpaa.PQ
