/- Get, Drop and New, walked. -/
import Derived.Test.YtilephiplfigpaaOps
namespace Go.Proofs.Ytilephiplfigpaa.PQ
open Go.RowKit Go.Proofs.YtilephiplfigpaaW.PrintWords Go.Proofs.YtilephiplfigpaaW.PrintLast Go.Proofs.YtilephiplfigpaaW.PrintMore
set_option linter.unusedVariables false
set_option linter.unusedSimpArgs false
theorem grown_set (W : World) (b i : Nat) (v : Value) : W.grownBy (W.setCell ⟨b, i, none⟩ v) (some b) :=
  ⟨rfl, rfl, rfl, by simp [World.setCell], fun k _ hk => Below.heap_setCell _ _ _ _ (fun e => hk (congrArg some e))⟩
def absE (e : EL) : S61 := ⟨e.lba, e.data⟩
def absL (L : List EL) : List S61 := L.map absE
def outO (d : List S61) (a : Int) : List S61 := d.filter fun x => decide (x.f0 ≠ a)
theorem absL_erase {L : List EL} (hn : (L.map (·.lba)).Nodup) {i : Nat} {e : EL} (he : L[i]? = some e) : absL (L.eraseIdx i) = outO (absL L) e.lba := by
  have key : ∀ (L : List EL) (i : Nat), (L.map (·.lba)).Nodup → L[i]? = some e → L.eraseIdx i = L.filter fun x => decide (x.lba ≠ e.lba) := by
    intro L
    induction L with
    | nil => intro i _ h; simp at h
    | cons x L ih =>
      intro i hn h
      rw [List.map_cons, List.nodup_cons] at hn
      cases i with
      | zero =>
        cases h
        rw [List.eraseIdx_cons_zero, List.filter_cons_of_neg (by simp)]
        refine (List.filter_eq_self.2 fun y hy => ?_).symm
        simp only [ne_eq, decide_not, Bool.not_eq_true', decide_eq_false_iff_not]
        intro hy2
        exact hn.1 (by rw [← hy2]; exact List.mem_map_of_mem hy)
      | succ i =>
        have h' : L[i]? = some e := h
        rw [List.eraseIdx_cons_succ, ih i hn.2 h', List.filter_cons_of_pos]
        simp only [ne_eq, decide_not, Bool.not_eq_true', decide_eq_false_iff_not]
        intro hx
        exact hn.1 (by rw [hx]; exact List.mem_map_of_mem (List.mem_of_getElem? h'))
  unfold absL outO
  rw [key L i hn he, List.filter_map]
  rfl
theorem absL_miss {L : List EL} {a : Int} (h : ∀ e ∈ L, e.lba ≠ a) : outO (absL L) a = absL L := by
  unfold outO
  rw [List.filter_eq_self]
  intro x hx
  obtain ⟨e, he, rfl⟩ := List.mem_map.1 hx
  exact decide_eq_true (h e he)
section
variable {b0 : Nat} {room hits misses : Int} {L : List EL} {P M : Nat} {D : DataW Value} {w w' : World}
theorem RingV.setP {ah nx : Nat → Value} {room' hits' misses' : Int} (h : RingV P M room hits misses L ah nx w) (i : Nat) (v : Value)
    (hc : (#[.int .i64 room, .int .i64 0, .string ByteArray.empty, ah 0, nx 0, .map (some M), .int .i64 hits, .int .i64 misses] : Array Value).setIfInBounds i v = #[.int .i64 room', .int .i64 0, .string ByteArray.empty, ah 0, nx 0, .map (some M), .int .i64 hits', .int .i64 misses']) : RingV P M room' hits' misses' L ah nx (w.setCell ⟨P, i, none⟩ v) :=
  ⟨blk_put h.root i v hc, fun j e he => blk_far (h.node j e he) (h.ne e (List.mem_of_getElem? he)) v, h.nd, h.ne⟩
theorem LAt.setP {room' hits' misses' : Int} (h : LAt b0 room hits misses L P M D w) (i : Nat) (v : Value)
    (hc : (#[.int .i64 room, .int .i64 0, .string ByteArray.empty, ahS P L 0, nxS P L 0, .map (some M), .int .i64 hits, .int .i64 misses] : Array Value).setIfInBounds i v = #[.int .i64 room', .int .i64 0, .string ByteArray.empty, ahS P L 0, nxS P L 0, .map (some M), .int .i64 hits', .int .i64 misses']) : LAt b0 room' hits' misses' L P M D (w.setCell ⟨P, i, none⟩ v) :=
  ⟨RingV.setP h.ring i v hc, h.map.same (Below.heap_setCell _ _ _ _ h.mp), h.nd, h.wf, h.mp, h.mb, h.lp, h.lm, h.lb⟩
theorem LB_erase {i : Nat} {e : EL} (he : L[i]? = some e) (k : Nat) (h : LB P M (e :: L.eraseIdx i) k) : LB P M L k := by
  rcases h with h | h | h
  · exact .inl h
  · exact .inr (.inl h)
  · obtain ⟨x, hx, rfl⟩ := List.mem_map.1 h
    exact .inr (.inr (List.mem_map_of_mem ((mem_erase he x).2 (List.mem_cons.1 hx))))
theorem LB_erase' {i : Nat} (k : Nat) (h : LB P M (L.eraseIdx i) k) : LB P M L k := by
  rcases h with h | h | h
  · exact .inl h
  · exact .inr (.inl h)
  · obtain ⟨x, hx, rfl⟩ := List.mem_map.1 h
    exact .inr (.inr (List.mem_map_of_mem (List.mem_of_mem_eraseIdx hx)))
theorem LB_P : LB P M L P := .inl rfl
set_option maxHeartbeats 4000000 in
theorem get_found (H : Aside0 (LAt b0 room hits misses L P M D w)) {i : Nat} {e : EL} (he : L[i]? = some e) (hh : 0 ≤ hits ∧ hits ≤ 1000000) :
    Calls Try.prog 11 #[.pointer (some ⟨P, 0, none⟩), .int .i64 e.lba] w fun e' w' => e' = .returned (.tuple #[.string e.data, .bool true]) ∧ Aside0 (LAt b0 room (hits + 1) misses (e :: L.eraseIdx i) P M D w' ∧ Ch (LB P M L) w w') := by
  obtain ⟨_, _, _, d5, d6, _⟩ := H.out.cells
  have hl := H.out.found he
  have f6 := blk_frozen H.out.ring.root 6
  have hw1 : wrap64 (hits + 1) = hits + 1 := by rw [Go.IntWalk.wrap64_in _ ⟨by omega, by omega⟩]
  have H1 := Aside0.mk (H.out.setP (room' := room) (hits' := hits + 1) (misses' := misses) 6 (.int .i64 (hits + 1)) rfl)
  have C1 := Aside0.mk (Ch.set (S := LB P M L) w ⟨P, 6, none⟩ (.int .i64 (hits + 1)) LB_P)
  have hu := Lib.hid (use_calls H1 he)
  clear hh H
  obtain ⟨B, lb, dt⟩ := e
  dsimp only at *
  go_enter Try.func11, Try.ntmps11
  go_wp2_with fail
  generalize w.setCell ⟨P, 6, none⟩ (.int .i64 (hits + 1)) = W1 at *
  clear d5 d6 f6 hl
  refine hu.out.mono ?_
  rintro e' w2 ⟨rfl, hA, hC⟩
  have hd : w2.cell? ⟨B, 1, none⟩ = some (.string dt) := blk_cell (hA.ring.node 0 ⟨B, lb, dt⟩ rfl) 1
  have F := Aside0.mk (And.intro hA (C1.out.trans hC))
  clear hA hC hu
  go_wp2
  go_ret2
  exact ⟨rfl, F⟩
set_option maxHeartbeats 4000000 in
theorem get_missed (H : Aside0 (LAt b0 room hits misses L P M D w)) {a : Int} (ha : (Lit.int .i64 a).wf = true) (hn : ∀ e ∈ L, e.lba ≠ a) (hh : 0 ≤ misses ∧ misses ≤ 1000000) :
    Calls Try.prog 11 #[.pointer (some ⟨P, 0, none⟩), .int .i64 a] w fun e' w' => e' = .returned (.tuple #[.string ByteArray.empty, .bool false]) ∧ Aside0 (LAt b0 room hits (misses + 1) L P M D w' ∧ Ch (LB P M L) w w') := by
  obtain ⟨_, _, _, d5, _, d7⟩ := H.out.cells
  have hl := H.out.missed ha hn
  have f7 := blk_frozen H.out.ring.root 7
  have hw1 : wrap64 (misses + 1) = misses + 1 := by rw [Go.IntWalk.wrap64_in _ ⟨by omega, by omega⟩]
  have F := Aside0.mk (And.intro (H.out.setP (room' := room) (hits' := hits) (misses' := misses + 1) 7 (.int .i64 (misses + 1)) rfl) (Ch.set (S := LB P M L) w ⟨P, 7, none⟩ (.int .i64 (misses + 1)) LB_P))
  clear hh hn H
  go_enter Try.func11, Try.ntmps11
  go_wp2
  go_ret2
  exact ⟨rfl, F⟩
set_option maxHeartbeats 4000000 in
theorem drop_found (H : Aside0 (LAt b0 room hits misses L P M D w)) {i : Nat} {e : EL} (he : L[i]? = some e) :
    Calls Try.prog 15 #[.pointer (some ⟨P, 0, none⟩), .int .i64 e.lba] w fun e' w' => e' = .returned (.bool true) ∧ Aside0 ((∃ D', LAt b0 room hits misses (L.eraseIdx i) P M D' w') ∧ Ch (LB P M L) w w') := by
  have d5 := H.out.cells.2.2.2.1
  have hl := H.out.found he
  have hu := Lib.hid (forget_calls H he)
  clear H
  obtain ⟨B, lb, dt⟩ := e
  dsimp only at *
  go_enter Try.func15, Try.ntmps15
  go_wp2_with fail
  refine hu.out.mono ?_
  rintro e' w2 ⟨rfl, hA, _, hC⟩
  have F := Aside0.mk (And.intro hA hC)
  clear hA hC hu
  go_wp2
  go_ret
  exact ⟨rfl, F⟩
theorem drop_missed (H : Aside0 (LAt b0 room hits misses L P M D w)) {a : Int} (ha : (Lit.int .i64 a).wf = true) (hn : ∀ e ∈ L, e.lba ≠ a) :
    Calls Try.prog 15 #[.pointer (some ⟨P, 0, none⟩), .int .i64 a] w fun e' w' => e' = .returned (.bool false) ∧ w' = w := by
  have d5 := H.out.cells.2.2.2.1
  have hl := H.out.missed ha hn
  clear H hn
  go_enter Try.func15, Try.ntmps15
  go_wp2
  go_ret
  exact ⟨rfl, rfl⟩
set_option maxHeartbeats 4000000 in
theorem new_calls (r : Int) (hr : 1 ≤ r ∧ r ≤ 256) (w : World) : Calls Try.prog 8 #[.int .i64 r] w fun e w' => e = .returned (.tuple #[.pointer (some ⟨w.heap.size + 1, 0, none⟩), .int .i64 0]) ∧ Aside0 (LAt w.heap.size r 0 0 [] (w.heap.size + 1) w.heap.size (.map []) w' ∧ Below w.heap.size w w') := by
  have hmm := @run_makeMap Try.prog
  have hs : (w.alloc (.map #[] 0)).heap.size = w.heap.size + 1 := by simp
  have z1 : decide (r < 1) = false := decide_eq_false (by omega)
  have z2 : decide (r > 256) = false := decide_eq_false (by omega)
  have z3 : decide (256 < r) = false := decide_eq_false (by omega)
  have hP := heap_alloc_new (w.alloc (.map #[] 0)) (.cells #[.int .i64 r, .int .i64 0, .string ⟨#[]⟩, .pointer none, .pointer none, .map (some w.heap.size), .int .i64 0, .int .i64 0] 51)
  have hM : MapZ Try.prog 3 (mapE []) 0 w.heap.size (.map []) ((w.alloc (.map #[] 0)).alloc (.cells #[.int .i64 r, .int .i64 0, .string ⟨#[]⟩, .pointer none, .pointer none, .map (some w.heap.size), .int .i64 0, .int .i64 0] 51)) := (MapZ.made (P := Try.prog) (k := 3) w).kept (World.grownBy_alloc _ _ none) (by simp)
  have hB : Below w.heap.size w ((w.alloc (.map #[] 0)).alloc (.cells #[.int .i64 r, .int .i64 0, .string ⟨#[]⟩, .pointer none, .pointer none, .map (some w.heap.size), .int .i64 0, .int .i64 0] 51)) := ((Below.refl _ w).alloc (Nat.le_refl _) _).alloc (by simp) _
  rw [hs] at hP
  replace hP := Aside0.mk hP
  replace hM := Aside0.mk hM
  replace hB := Aside0.mk hB
  go_enter Try.func8, Try.ntmps8
  go_wp2_with fail
  generalize hW : (w.alloc (.map #[] 0)).alloc (.cells #[.int .i64 r, .int .i64 0, .string ⟨#[]⟩, .pointer none, .pointer none, .map (some w.heap.size), .int .i64 0, .int .i64 0] 51) = W1 at *
  clear hW
  have c3 : W1.cell? ⟨w.heap.size + 1, 3, none⟩ = some (.pointer none) := blk_cell hP.out 3
  have c4 : W1.cell? ⟨w.heap.size + 1, 4, none⟩ = some (.pointer none) := blk_cell hP.out 4
  have f3 := blk_frozen hP.out 3
  have f4 := blk_frozen hP.out 4
  clear hs z1 z2 z3 hmm
  go_region
  have hP1 : (W1.setCell ⟨w.heap.size + 1, 3, none⟩ (.pointer (some ⟨w.heap.size + 1, 1, none⟩))).heap[w.heap.size + 1]? = some (.cells #[.int .i64 r, .int .i64 0, .string ByteArray.empty, .pointer (some ⟨w.heap.size + 1, 1, none⟩), .pointer none, .map (some w.heap.size), .int .i64 0, .int .i64 0] 51 (0, 0)) := blk_put hP.out 3 _ rfl
  have hP2 : ((W1.setCell ⟨w.heap.size + 1, 3, none⟩ (.pointer (some ⟨w.heap.size + 1, 1, none⟩))).setCell ⟨w.heap.size + 1, 4, none⟩ (.pointer (some ⟨w.heap.size + 1, 1, none⟩))).drew.heap[w.heap.size + 1]? = some (.cells #[.int .i64 r, .int .i64 0, .string ByteArray.empty, .pointer (some ⟨w.heap.size + 1, 1, none⟩), .pointer (some ⟨w.heap.size + 1, 1, none⟩), .map (some w.heap.size), .int .i64 0, .int .i64 0] 51 (0, 0)) := blk_drew (blk_put hP1 4 _ rfl)
  have hM2 : MapZ Try.prog 3 (mapE []) 0 w.heap.size (.map []) ((W1.setCell ⟨w.heap.size + 1, 3, none⟩ (.pointer (some ⟨w.heap.size + 1, 1, none⟩))).setCell ⟨w.heap.size + 1, 4, none⟩ (.pointer (some ⟨w.heap.size + 1, 1, none⟩))).drew :=
    ((hM.out.same (Below.heap_setCell _ ⟨w.heap.size + 1, 3, none⟩ _ _ (by dsimp only; omega))).same (Below.heap_setCell _ ⟨w.heap.size + 1, 4, none⟩ _ _ (by dsimp only; omega))).same (w' := ((W1.setCell ⟨w.heap.size + 1, 3, none⟩ (.pointer (some ⟨w.heap.size + 1, 1, none⟩))).setCell ⟨w.heap.size + 1, 4, none⟩ (.pointer (some ⟨w.heap.size + 1, 1, none⟩))).drew) rfl
  have hB2 := below_drew ((hB.out.setCell (p := ⟨w.heap.size + 1, 3, none⟩) (by dsimp only; omega) (.pointer (some ⟨w.heap.size + 1, 1, none⟩))).setCell (p := ⟨w.heap.size + 1, 4, none⟩) (by dsimp only; omega) (.pointer (some ⟨w.heap.size + 1, 1, none⟩)))
  have F := Aside0.mk (And.intro hP2 (And.intro hM2 hB2))
  clear hP1 hP2 hM2 hB2 c3 c4 f3 f4
  go_wp2
  go_ret2
  exact ⟨rfl, ⟨⟨⟨F.out.1, (fun i e he => absurd he (by simp)), List.nodup_nil, (fun e he => absurd he (by simp))⟩, F.out.2.1, List.nodup_nil, (fun e he => absurd he (by simp)), by omega, (fun e he => absurd he (by simp)), by omega, Nat.le_refl _, (fun e he => absurd he (by simp))⟩, F.out.2.2⟩⟩
end
end Go.Proofs.Ytilephiplfigpaa.PQ
