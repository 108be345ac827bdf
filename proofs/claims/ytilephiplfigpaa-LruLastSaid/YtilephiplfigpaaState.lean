/- What a cache is, as the machine holds it. -/
import Derived.Test.YtilephiplfigpaaLink
import Derived.Test.YtilephiplfigpaaPQx0
import Derived.Test.YtilephiplfigpaaPQx1
import Derived.Test.YtilephiplfigpaaPQx2
namespace Go.Proofs.Ytilephiplfigpaa.PQ
open Go.RowKit Go.Proofs.YtilephiplfigpaaW.PrintWords Go.Proofs.YtilephiplfigpaaW.PrintLast Go.Proofs.YtilephiplfigpaaW.PrintMore
set_option linter.unusedVariables false
set_option linter.unusedSimpArgs false
theorem u46 : Try.prog.underlying 46 = some (.map 3 47) := by kernel_rfl
theorem u3 : Try.prog.underlying 3 = some (.int .i64) := by kernel_rfl
theorem zero47 (w : World) : (zeroValue 47).run Try.prog w = .ok (.pointer none) w := by rfl
def ptrE (e : EL) : Value := .pointer (some ⟨e.b, 0, none⟩)
/-- What the map holds: the node of each sector. -/
def mapE (L : List EL) (a : Int) : Option Value := (L.find? fun e => decide (e.lba = a)).map ptrE
theorem mapE_none {L : List EL} {a : Int} (h : ∀ e ∈ L, e.lba ≠ a) : mapE L a = none := by
  unfold mapE
  rw [List.find?_eq_none.2 (fun x hx => by simpa using h x hx)]
  rfl
theorem mapE_mem {L : List EL} (hn : (L.map (·.lba)).Nodup) {e : EL} (he : e ∈ L) : mapE L e.lba = some (ptrE e) := by
  unfold mapE
  induction L with
  | nil => cases he
  | cons x L ih =>
    rw [List.map_cons, List.nodup_cons] at hn
    rcases List.mem_cons.1 he with rfl | he
    · rw [List.find?_cons_of_pos (by simp)]; rfl
    · rw [List.find?_cons_of_neg, ih hn.2 he]
      simp only [decide_eq_true_eq]
      intro h
      exact hn.1 (by rw [h]; exact List.mem_map_of_mem he)
theorem mapE_cases (L : List EL) (a : Int) : (∃ (i : Nat) (e : EL), L[i]? = some e ∧ e.lba = a) ∨ (∀ e ∈ L, e.lba ≠ a) := by
  by_cases h : ∃ e ∈ L, e.lba = a
  · obtain ⟨e, he, h⟩ := h
    obtain ⟨i, hi⟩ := List.mem_iff_getElem?.1 he
    exact .inl ⟨i, e, hi, h⟩
  · exact .inr fun e he h1 => h ⟨e, he, h1⟩
theorem mapE_ext {L L' : List EL} (hn : (L.map (·.lba)).Nodup) (hn' : (L'.map (·.lba)).Nodup) (h : ∀ e, e ∈ L ↔ e ∈ L') : mapE L = mapE L' := by
  funext a
  rcases mapE_cases L a with ⟨i, e, hi, rfl⟩ | h1
  · have he := List.mem_of_getElem? hi
    rw [mapE_mem hn he, mapE_mem hn' ((h e).1 he)]
  · rw [mapE_none h1, mapE_none (fun e he => h1 e ((h e).2 he))]
theorem mem_erase {L : List EL} {i : Nat} {e : EL} (he : L[i]? = some e) (x : EL) : x ∈ L ↔ x = e ∨ x ∈ L.eraseIdx i := by
  constructor
  · intro hx
    obtain ⟨j, hj⟩ := List.mem_iff_getElem?.1 hx
    by_cases hji : j = i
    · subst hji
      rw [he] at hj
      exact .inl (Option.some.inj hj).symm
    · refine .inr ?_
      by_cases h : j < i
      · exact List.mem_of_getElem? (i := j) (by rw [List.getElem?_eraseIdx, if_pos h]; exact hj)
      · exact List.mem_of_getElem? (i := j - 1) (by rw [List.getElem?_eraseIdx, if_neg (by omega), show j - 1 + 1 = j by omega]; exact hj)
  · rintro (rfl | h)
    · exact List.mem_of_getElem? he
    · exact List.mem_of_mem_eraseIdx h
theorem map_erase' {β : Type} (f : EL → β) (L : List EL) (i : Nat) : (L.eraseIdx i).map f = (L.map f).eraseIdx i := by
  apply List.ext_getElem?
  intro j
  rw [List.getElem?_map, List.getElem?_eraseIdx, List.getElem?_eraseIdx, List.getElem?_map, List.getElem?_map]
  split <;> rfl
theorem nodup_erase {L : List EL} {i : Nat} (f : EL → Int) (h : (L.map f).Nodup) : ((L.eraseIdx i).map f).Nodup := by
  rw [map_erase']
  exact h.sublist (List.eraseIdx_sublist _ _)
theorem erase_ne {L : List EL} (h : (L.map (·.lba)).Nodup) {i : Nat} {e : EL} (he : L[i]? = some e) : ∀ x ∈ L.eraseIdx i, x.lba ≠ e.lba := by
  intro x hx hxe
  obtain ⟨j, hj⟩ := List.mem_iff_getElem?.1 hx
  rw [List.getElem?_eraseIdx] at hj
  have key : ∀ k, L[k]? = some x → k ≠ i → False := fun k hk hki => by
    obtain ⟨h1, e1⟩ := List.getElem?_eq_some_iff.1 hk
    obtain ⟨h2, e2⟩ := List.getElem?_eq_some_iff.1 he
    exact hki ((List.getElem_inj (xs := L.map (·.lba)) (i := k) (j := i) (h₀ := by rw [List.length_map]; exact h1) (h₁ := by rw [List.length_map]; exact h2) h).1 (by rw [List.getElem_map, List.getElem_map, e1, e2]; exact hxe))
  by_cases hji : j < i
  · rw [if_pos hji] at hj; exact key j hj (by omega)
  · rw [if_neg hji] at hj; exact key (j + 1) hj (by omega)
structure LAt (b0 : Nat) (room hits misses : Int) (L : List EL) (P M : Nat) (D : DataW Value) (w : World) : Prop where
  ring : Ring P M room hits misses L w
  map : MapZ Try.prog 3 (mapE L) L.length M D w
  nd : (L.map (·.lba)).Nodup
  wf : ∀ e ∈ L, (Lit.int .i64 e.lba).wf = true
  mp : M ≠ P
  mb : ∀ e ∈ L, e.b ≠ M
  lp : b0 ≤ P
  lm : b0 ≤ M
  lb : ∀ e ∈ L, b0 ≤ e.b
/-- The blocks of a cache. -/
def LB (P M : Nat) (L : List EL) (k : Nat) : Prop := k = P ∨ k = M ∨ k ∈ L.map (·.b)
theorem MapZ.lt {P : Program} {k : TypeId} {m : Int → Option Value} {c b : Nat} {D : DataW Value} {w : World} (h : MapZ P k m c b D w) : b < w.heap.size := by
  obtain ⟨es, clock, hb, _⟩ := h.own
  exact (Array.getElem?_eq_some_iff.1 hb).1
theorem MapZ.same {P : Program} {k : TypeId} {m : Int → Option Value} {c b : Nat} {D : DataW Value} {w w' : World} (h : MapZ P k m c b D w) (hs : w'.heap[b]? = w.heap[b]?) : MapZ P k m c b D w' := by
  obtain ⟨es, clock, hb, F, hr⟩ := h.own
  exact ⟨⟨es, clock, hs.trans hb, F, hr⟩, h.tidy, h.size, h.has, h.at_⟩
section
variable {b0 : Nat} {room hits misses : Int} {L : List EL} {P M : Nat} {D : DataW Value} {w w' : World}
theorem LAt.lt (h : LAt b0 room hits misses L P M D w) : ∀ k, LB P M L k → k < w.heap.size := by
  rintro k (rfl | rfl | e)
  · exact blk_lt h.ring.root
  · exact h.map.lt
  · obtain ⟨x, hx, rfl⟩ := List.mem_map.1 e
    obtain ⟨i, hi⟩ := List.mem_iff_getElem?.1 hx
    exact blk_lt (h.ring.node i x hi)
theorem LAt.ge (h : LAt b0 room hits misses L P M D w) : ∀ k, LB P M L k → b0 ≤ k := by
  rintro k (rfl | rfl | e)
  · exact h.lp
  · exact h.lm
  · obtain ⟨x, hx, rfl⟩ := List.mem_map.1 e
    exact h.lb x hx
theorem LAt.same (h : LAt b0 room hits misses L P M D w) (hs : ∀ k, k < w.heap.size → LB P M L k → w'.heap[k]? = w.heap[k]?) : LAt b0 room hits misses L P M D w' :=
  ⟨RingV.same h.ring (fun k hk => hs k (h.lt k (hk.elim .inl (fun h => .inr (.inr h)))) (hk.elim .inl (fun h => .inr (.inr h)))), h.map.same (hs M (h.lt M (.inr (.inl rfl))) (.inr (.inl rfl))), h.nd, h.wf, h.mp, h.mb, h.lp, h.lm, h.lb⟩
theorem LAt.below (h : LAt b0 room hits misses L P M D w) (hb : Below w.heap.size w w') : LAt b0 room hits misses L P M D w' := h.same fun k hk _ => hb.block k hk
theorem LAt.cells (h : LAt b0 room hits misses L P M D w) : w.cell? ⟨P, 0, none⟩ = some (.int .i64 room) ∧ w.cell? ⟨P, 3, none⟩ = some (ahS P L 0) ∧ w.cell? ⟨P, 4, none⟩ = some (nxS P L 0) ∧ w.cell? ⟨P, 5, none⟩ = some (.map (some M)) ∧ w.cell? ⟨P, 6, none⟩ = some (.int .i64 hits) ∧ w.cell? ⟨P, 7, none⟩ = some (.int .i64 misses) :=
  ⟨blk_cell h.ring.root 0, blk_cell h.ring.root 3, blk_cell h.ring.root 4, blk_cell h.ring.root 5, blk_cell h.ring.root 6, blk_cell h.ring.root 7⟩
/-- A look into the map. -/
theorem LAt.found (h : LAt b0 room hits misses L P M D w) {i : Nat} {e : EL} (he : L[i]? = some e) : (Instr.lookup 46 (.map (some M)) (.int .i64 e.lba) true).run Try.prog w = .ok (.tuple #[.pointer (some ⟨e.b, 0, none⟩), .bool true]) w := by
  have hm := List.mem_of_getElem? he
  have := h.map.look_ok u3 u46 (zero47 w) e.lba (h.wf e hm)
  rw [mapE_mem h.nd hm] at this
  exact this
theorem LAt.missed (h : LAt b0 room hits misses L P M D w) {a : Int} (ha : (Lit.int .i64 a).wf = true) (hn : ∀ e ∈ L, e.lba ≠ a) : (Instr.lookup 46 (.map (some M)) (.int .i64 a) true).run Try.prog w = .ok (.tuple #[.pointer none, .bool false]) w := by
  have := h.map.look_ok u3 u46 (zero47 w) a ha
  rw [mapE_none hn] at this
  exact this
set_option maxHeartbeats 4000000 in
theorem use_calls {i : Nat} {e : EL} (H : Aside0 (LAt b0 room hits misses L P M D w)) (he : L[i]? = some e) :
    Calls Try.prog 18 #[.pointer (some ⟨P, 0, none⟩), .pointer (some ⟨e.b, 0, none⟩)] w fun e' w' => e' = .returned (.tuple #[]) ∧ Aside0 (LAt b0 room hits misses (e :: L.eraseIdx i) P M D w' ∧ Ch (LB P M L) w w') := by
  have hm := List.mem_of_getElem? he
  have hu := Lib.hid (Ring.unlink ⟨H.out.ring⟩ he)
  go_enter Try.func18, Try.ntmps18
  go_wp2_with fail
  refine hu.out.mono ?_
  rintro e' w1 ⟨rfl, hR, hb, hC⟩
  have hne : ∀ e' ∈ L.eraseIdx i, e'.b ≠ e.b := fun x hx h => by
    obtain ⟨j, hj⟩ := List.mem_iff_getElem?.1 hx
    rw [List.getElem?_eraseIdx] at hj
    by_cases hji : j < i
    · rw [if_pos hji] at hj
      have := nd_idx H.out.ring.nd hj he h; omega
    · rw [if_neg hji] at hj
      have := nd_idx H.out.ring.nd hj he h; omega
  have hl := Lib.hid (Ring.link ⟨hR⟩ ⟨hb⟩ ⟨hne⟩)
  replace hC := Aside0.mk hC
  clear hu hR hb hne
  go_wp2_with fail
  refine hl.out.mono ?_
  rintro e' w2 ⟨rfl, hR2, hC2⟩
  replace hR2 := Aside0.mk hR2
  replace hC2 := Aside0.mk hC2
  clear hl
  go_wp2
  go_end0
  have hsub : ∀ k, RB P (L.eraseIdx i) k ∨ k = e.b → RB P L k := by
    rintro k ((h | h) | h)
    · exact .inl h
    · obtain ⟨x, hx, rfl⟩ := List.mem_map.1 h
      exact .inr (List.mem_map_of_mem (List.mem_of_mem_eraseIdx hx))
    · exact .inr (h ▸ List.mem_map_of_mem hm)
  have hCC : Ch (RB P L) w w2 := hC.out.trans (hC2.out.mono fun k hk _ => hsub k hk)
  have hM : ¬ RB P L M := by
    rintro (h | h)
    · exact H.out.mp h
    · obtain ⟨x, hx, h2⟩ := List.mem_map.1 h
      exact H.out.mb x hx h2
  have hme : ∀ x, x ∈ e :: L.eraseIdx i ↔ x ∈ L := fun x => by rw [mem_erase he x, List.mem_cons]
  have hnd : ((e :: L.eraseIdx i).map (·.lba)).Nodup := by
    rw [List.map_cons, List.nodup_cons]
    refine ⟨fun h => ?_, nodup_erase _ H.out.nd⟩
    obtain ⟨x, hx, h2⟩ := List.mem_map.1 h
    exact erase_ne H.out.nd he x hx h2
  refine ⟨rfl, ⟨⟨hR2.out, ?_, hnd, fun x hx => H.out.wf x ((hme x).1 hx), H.out.mp, fun x hx => H.out.mb x ((hme x).1 hx), H.out.lp, H.out.lm, fun x hx => H.out.lb x ((hme x).1 hx)⟩, hCC.mono fun k hk _ => hk.elim .inl (fun h => .inr (.inr h))⟩⟩
  have h1 := H.out.map.same (hCC.block M H.out.map.lt hM)
  rw [mapE_ext hnd H.out.nd hme]
  obtain ⟨hi, _⟩ := List.getElem?_eq_some_iff.1 he
  rw [show (e :: L.eraseIdx i).length = L.length by rw [List.length_cons, List.length_eraseIdx_of_lt hi]; omega]
  exact h1
end
end Go.Proofs.Ytilephiplfigpaa.PQ
