/- Put, walked. -/
import Derived.Test.YtilephiplfigpaaGet
namespace Go.Proofs.Ytilephiplfigpaa.PQ
open Go.RowKit Go.Proofs.YtilephiplfigpaaW.PrintWords Go.Proofs.YtilephiplfigpaaW.PrintLast Go.Proofs.YtilephiplfigpaaW.PrintMore
set_option linter.unusedVariables false
set_option linter.unusedSimpArgs false
def firstO (d : List S61) (x : S61) : List S61 := x :: outO d x.f0
def putO (d : List S61) (room : Int) (x : S61) : List S61 × Int × Bool :=
  if ((firstO d x).length : Int) ≤ room then (firstO d x, 0, false) else ((firstO d x).dropLast, ((firstO d x).getLastD z61).f0, true)
section
variable {b0 : Nat} {room hits misses : Int} {L : List EL} {P M : Nat} {D : DataW Value} {w w' : World}
theorem LAt.setData (h : LAt b0 room hits misses L P M D w) {i : Nat} {e : EL} (he : L[i]? = some e) (s : ByteArray) : LAt b0 room hits misses (L.set i ⟨e.b, e.lba, s⟩) P M D (w.setCell ⟨e.b, 1, none⟩ (.string s)) := by
  obtain ⟨hi, hie⟩ := List.getElem?_eq_some_iff.1 he
  have hb : (L.set i ⟨e.b, e.lba, s⟩).map (·.b) = L.map (·.b) := by
    rw [List.map_set]
    apply List.ext_getElem?
    intro j
    rw [List.getElem?_set]
    split
    · rename_i h1
      subst h1
      rw [if_pos (by rw [List.length_map]; exact hi), List.getElem?_map, he]
      rfl
    · rfl
  have hlb : (L.set i ⟨e.b, e.lba, s⟩).map (·.lba) = L.map (·.lba) := by
    rw [List.map_set]
    apply List.ext_getElem?
    intro j
    rw [List.getElem?_set]
    split
    · rename_i h1
      subst h1
      rw [if_pos (by rw [List.length_map]; exact hi), List.getElem?_map, he]
      rfl
    · rfl
  have hm := List.mem_of_getElem? he
  have hmem : ∀ x ∈ L.set i ⟨e.b, e.lba, s⟩, ∃ y ∈ L, y.b = x.b ∧ y.lba = x.lba := by
    intro x hx
    rcases List.mem_or_eq_of_mem_set hx with h1 | rfl
    · exact ⟨x, h1, rfl, rfl⟩
    · exact ⟨e, hm, rfl, rfl⟩
  refine ⟨?_, ?_, by rw [hlb]; exact h.nd, ?_, h.mp, ?_, h.lp, h.lm, ?_⟩
  · have hah : ahS P (L.set i ⟨e.b, e.lba, s⟩) = ahS P L := by
      funext j
      cases j with
      | zero => show Value.pointer (some (adr P ((L.set i ⟨e.b, e.lba, s⟩).map (·.b)) (L.set i ⟨e.b, e.lba, s⟩).length)) = _; rw [hb, List.length_set]; rfl
      | succ j => show Value.pointer (some (adr P ((L.set i ⟨e.b, e.lba, s⟩).map (·.b)) j)) = _; rw [hb]; rfl
    have hnx : nxS P (L.set i ⟨e.b, e.lba, s⟩) = nxS P L := by unfold nxS; rw [hb]
    unfold Ring
    rw [hah, hnx]
    refine ⟨blk_far h.ring.root (fun hp => h.ring.ne e hm hp.symm) _, fun j x hx => ?_, by rw [hb]; exact h.ring.nd, fun x hx => ?_⟩
    · rw [List.getElem?_set] at hx
      by_cases hj : i = j
      · subst hj
        rw [if_pos rfl, if_pos hi] at hx
        cases hx
        exact blk_put (h.ring.node i e he) 1 _ rfl
      · rw [if_neg hj] at hx
        exact blk_far (h.ring.node j x hx) (fun hxe => hj (nd_idx h.ring.nd he hx hxe.symm)) _
    · obtain ⟨y, hy, h1, _⟩ := hmem x hx
      rw [← h1]
      exact h.ring.ne y hy
  · have hmE : mapE (L.set i ⟨e.b, e.lba, s⟩) = mapE L := by
      funext a
      have hnd : ((L.set i ⟨e.b, e.lba, s⟩).map (·.lba)).Nodup := by rw [hlb]; exact h.nd
      rcases mapE_cases (L.set i ⟨e.b, e.lba, s⟩) a with ⟨j, x, hj, rfl⟩ | h1
      · rw [mapE_mem hnd (List.mem_of_getElem? hj)]
        obtain ⟨y, hy, h1, h2⟩ := hmem x (List.mem_of_getElem? hj)
        rw [← h2, mapE_mem h.nd hy]
        unfold ptrE
        rw [h1]
      · rw [mapE_none h1, mapE_none]
        intro y hy hya
        have : a ∈ (L.set i ⟨e.b, e.lba, s⟩).map (·.lba) := by rw [hlb, ← hya]; exact List.mem_map_of_mem hy
        obtain ⟨x, hx, hxa⟩ := List.mem_map.1 this
        exact h1 x hx hxa
    rw [hmE, List.length_set]
    exact h.map.same (Below.heap_setCell _ _ _ _ (fun hp => h.mb e hm hp.symm))
  · intro x hx
    obtain ⟨y, hy, _, h2⟩ := hmem x hx
    rw [← h2]; exact h.wf y hy
  · intro x hx
    obtain ⟨y, hy, h1, _⟩ := hmem x hx
    rw [← h1]; exact h.mb y hy
  · intro x hx
    obtain ⟨y, hy, h1, _⟩ := hmem x hx
    rw [← h1]; exact h.lb y hy
theorem set_erase (L : List EL) (i : Nat) (x : EL) : (L.set i x).eraseIdx i = L.eraseIdx i := by
  apply List.ext_getElem?
  intro j
  rw [List.getElem?_eraseIdx, List.getElem?_eraseIdx, List.getElem?_set, List.getElem?_set]
  split
  · rw [if_neg (by omega)]
  · rw [if_neg (by omega)]
set_option maxHeartbeats 4000000 in
theorem put_found (H : Aside0 (LAt b0 room hits misses L P M D w)) {i : Nat} {e : EL} (he : L[i]? = some e) (s : ByteArray) :
    Calls Try.prog 9 #[.pointer (some ⟨P, 0, none⟩), .int .i64 e.lba, .string s] w fun e' w' => e' = .returned (.tuple #[.int .i64 0, .bool false]) ∧ Aside0 (LAt b0 room hits misses (⟨e.b, e.lba, s⟩ :: L.eraseIdx i) P M D w' ∧ Ch (LB P M L) w w') := by
  obtain ⟨hi, _⟩ := List.getElem?_eq_some_iff.1 he
  have d5 := H.out.cells.2.2.2.1
  have hl := H.out.found he
  have c1 : w.cell? ⟨e.b, 1, none⟩ = some (.string e.data) := blk_cell (H.out.ring.node i e he) 1
  have f1 := blk_frozen (H.out.ring.node i e he) 1
  have C1 := Aside0.mk (Ch.set (S := LB P M L) w ⟨e.b, 1, none⟩ (.string s) (.inr (.inr (List.mem_map_of_mem (List.mem_of_getElem? he)))))
  have hu := use_calls (i := i) (e := ⟨e.b, e.lba, s⟩) ⟨H.out.setData he s⟩ (by rw [List.getElem?_set, if_pos rfl, if_pos hi])
  rw [set_erase] at hu
  have hLB : ∀ k, LB P M (L.set i ⟨e.b, e.lba, s⟩) k → LB P M L k := by
    rintro k (h | h | h)
    · exact .inl h
    · exact .inr (.inl h)
    · obtain ⟨x, hx, rfl⟩ := List.mem_map.1 h
      rcases List.mem_or_eq_of_mem_set hx with h1 | rfl
      · exact .inr (.inr (List.mem_map_of_mem h1))
      · exact .inr (.inr (List.mem_map.2 ⟨e, List.mem_of_getElem? he, rfl⟩))
  replace hu := Lib.hid hu
  clear H
  obtain ⟨B, lb, dt⟩ := e
  dsimp only at *
  replace hLB := Lib.hid hLB
  go_enter Try.func9, Try.ntmps9
  go_wp2_with fail
  refine hu.out.mono ?_
  rintro e' w2 ⟨rfl, hA, hC⟩
  have F := Aside0.mk (And.intro hA (C1.out.trans (hC.mono fun k hk _ => hLB.out k hk)))
  clear hA hC hu c1 f1 d5 hl
  go_wp2
  go_ret2
  exact ⟨rfl, F⟩
theorem Ch.trans' {S S' : Nat → Prop} {a b c : World} (h : Ch S a b) (k : Ch S' b c) (hS : ∀ i, S' i → i < a.heap.size → S i) : Ch S a c :=
  ⟨k.os.trans h.os, k.tape.trans h.tape, k.output.trans h.output, Nat.le_trans h.size k.size, fun i hi hn => (k.block i (Nat.lt_of_lt_of_le hi h.size) (fun s => hn (hS i s hi))).trans (h.block i hi hn)⟩
theorem mapE_cons {L : List EL} (e : EL) : updZ (mapE L) e.lba (some (ptrE e)) = mapE (e :: L) := by
  funext a
  unfold updZ mapE
  by_cases h : a = e.lba
  · rw [if_pos h, List.find?_cons_of_pos (by simpa using h.symm)]; rfl
  · rw [if_neg h, List.find?_cons_of_neg (by simpa using fun h2 => h h2.symm)]
theorem LAt.new (h : LAt b0 room hits misses L P M D w) {w1 w3 : World} {D' : DataW Value} {e : EL} (hR : Ring P M room hits misses (e :: L) w3) (hm : MapZ Try.prog 3 (mapE (e :: L)) (L.length + 1) M D' w3) (hn : ∀ x ∈ L, x.lba ≠ e.lba) (hw : (Lit.int .i64 e.lba).wf = true) (heM : e.b ≠ M) (heb : b0 ≤ e.b) : LAt b0 room hits misses (e :: L) P M D' w3 := by
  refine ⟨hR, hm, ?_, ?_, h.mp, ?_, h.lp, h.lm, ?_⟩
  · rw [List.map_cons, List.nodup_cons]
    refine ⟨fun hx => ?_, h.nd⟩
    obtain ⟨x, h1, h2⟩ := List.mem_map.1 hx
    exact hn x h1 h2
  · intro x hx
    rcases List.mem_cons.1 hx with rfl | hx
    · exact hw
    · exact h.wf x hx
  · intro x hx
    rcases List.mem_cons.1 hx with rfl | hx
    · exact heM
    · exact h.mb x hx
  · intro x hx
    rcases List.mem_cons.1 hx with rfl | hx
    · exact heb
    · exact h.lb x hx
set_option maxHeartbeats 8000000 in
theorem put_new (H : Aside0 (LAt b0 room hits misses L P M D w)) {a : Int} (s : ByteArray) (ha : (Lit.int .i64 a).wf = true) (hn : ∀ e ∈ L, e.lba ≠ a) (hL : L.length ≤ 100000) (hb0 : b0 ≤ w.heap.size) (z : EL) (hz : (⟨w.heap.size, a, s⟩ :: L)[L.length]? = some z) (rv : Value) (L' : List EL)
    (hres : Aside0 ((((L.length + 1 : Nat) : Int) ≤ room ∧ rv = .tuple #[.int .i64 0, .bool false] ∧ L' = ⟨w.heap.size, a, s⟩ :: L) ∨ (¬ ((L.length + 1 : Nat) : Int) ≤ room ∧ rv = .tuple #[.int .i64 z.lba, .bool true] ∧ L' = (⟨w.heap.size, a, s⟩ :: L).eraseIdx L.length))) :
    Calls Try.prog 9 #[.pointer (some ⟨P, 0, none⟩), .int .i64 a, .string s] w fun e' w' => e' = .returned rv ∧ Aside0 (Ch (LB P M L) w w' ∧ ∃ D', LAt b0 room hits misses L' P M D' w') := by
  have d5 := H.out.cells.2.2.2.1
  have hl := H.out.missed ha hn
  have hBlt : ∀ k, LB P M L k → k ≠ w.heap.size := fun k hk e => by have := H.out.lt k hk; omega
  have B1 : Below w.heap.size w (w.alloc (.cells #[.int .i64 a, .string s, .pointer none, .pointer none] 49)) := (Below.refl _ _).alloc (Nat.le_refl _) _
  have N1 := heap_alloc_new w (.cells #[.int .i64 a, .string s, .pointer none, .pointer none] 49)
  have H1 := H.out.below B1
  obtain ⟨w2, D2, hrun, HM2, ht⟩ := H1.map.store (t := 46) u3 u46 (by unfold maxLen; omega) a ha (.pointer (some ⟨w.heap.size, 0, none⟩))
  rw [mapE_none hn, show (if (none : Option Value).isSome = true then L.length else L.length + 1) = L.length + 1 from rfl] at HM2
  have hup : updZ (mapE L) a (some (.pointer (some ⟨w.heap.size, 0, none⟩))) = mapE (⟨w.heap.size, a, s⟩ :: L) := mapE_cons ⟨w.heap.size, a, s⟩
  rw [hup] at HM2
  have hg2 := ht.grown
  have hM : ¬ RB P L M := by
    rintro (h | h)
    · exact H.out.mp h
    · obtain ⟨x, hx, h2⟩ := List.mem_map.1 h
      exact H.out.mb x hx h2
  have R2 : Ring P M room hits misses L w2 := RingV.same H1.ring (fun k hk => hg2.block k (by have := H.out.lt k (hk.elim .inl (fun h => .inr (.inr h))); simp; omega) (fun e => hM ((Option.some.inj e) ▸ hk)))
  have N2 := blk_grown N1 hg2 (fun e => hBlt M (.inr (.inl rfl)) (Option.some.inj e).symm)
  have C2 : Ch (LB P M L) w w2 := (Ch.of_below B1).trans (Ch.of_grown hg2 (fun k h => .inr (.inl (Option.some.inj h).symm)))
  have hlk := Lib.hid (Ring.link (e := ⟨w.heap.size, a, s⟩) ⟨R2⟩ ⟨N2⟩ ⟨fun e' he' h => hBlt e'.b (.inr (.inr (List.mem_map_of_mem he'))) h⟩)
  have d5' : (w.alloc (.cells #[.int .i64 a, .string s, .pointer none, .pointer none] 49)).cell? ⟨P, 5, none⟩ = some (.map (some M)) := H1.cells.2.2.2.1
  have hn9 := Aside0.mk hn
  have hB9 := Lib.hid hBlt
  have hM9 := Lib.hid hM
  replace C2 := Aside0.mk C2
  replace HM2 := Aside0.mk HM2
  clear hn hBlt hM B1 N1 H1 ht hg2 R2 N2 hup
  go_enter Try.func9, Try.ntmps9
  go_wp2_with fail
  refine hlk.out.mono ?_
  rintro e' w3 ⟨rfl, R3, C3⟩
  have hM3 := HM2.out.same (C3.block M HM2.out.lt (fun h => h.elim (fun h => hM9.out h) (fun h => hB9.out M (.inr (.inl rfl)) h)))
  have A3 := H.out.new (w1 := w3) R3 hM3 hn9.out ha (fun h => hB9.out M (.inr (.inl rfl)) h.symm) hb0
  have C3' : Ch (LB P M L) w w3 := by
    refine ⟨C3.os.trans C2.out.os, C3.tape.trans C2.out.tape, C3.output.trans C2.out.output, Nat.le_trans C2.out.size C3.size, fun k hk hn => (C3.block k (Nat.lt_of_lt_of_le hk C2.out.size) (fun h => h.elim (fun h => hn (h.elim .inl (fun h => .inr (.inr h)))) (fun h => by have h2 : k = w.heap.size := h; omega))).trans (C2.out.block k hk hn)⟩
  replace A3 := Aside0.mk A3
  replace C3' := Aside0.mk C3'
  clear hlk R3 C3 hM3 HM2 C2 d5 d5' hl hrun hn9 hM9
  obtain ⟨d0, d3, _, d5, _, _⟩ := A3.out.cells
  have hlen := fun (ty : TypeId) (n : Nat) => (A3.out.map.same (w' := w3.drewN n) rfl).len u46 ty
  have hd3 : ahS P (⟨w.heap.size, a, s⟩ :: L) 0 = .pointer (some ⟨z.b, 0, none⟩) := by
    show Value.pointer (some (adr P ((⟨w.heap.size, a, s⟩ :: L).map (·.b)) (L.length + 1))) = _
    rw [adr_node hz]
  rw [hd3] at d3
  rw [List.length_cons] at hlen
  replace hd3 := Lib.hid hd3
  generalize hLn : L.length + 1 = ln at *
  replace hLn := Lib.hid hLn
  generalize hX : w.heap.size = X at *
  replace hX := Lib.hid hX
  rcases hres.out with ⟨hr, hrv, hLv⟩ | ⟨hr, hrv, hLv⟩
  · skip
    have z1 : decide ((ln : Int) ≤ room) = true := decide_eq_true hr
    replace hr := Lib.hid hr
    replace hrv := Lib.hid hrv
    replace hLv := Lib.hid hLv
    clear hres
    go_wp2
    go_quiet (fail)
    have A4 := Aside0.mk (A3.out.below (pw_below_drewN (Below.refl _ _) nq))
    have C4 := Aside0.mk (C3'.out.trans (Ch.of_below (pw_below_drewN (Below.refl _ _) nq)))
    have d3' : (w3.drewN nq).cell? ⟨P, 3, none⟩ = some (.pointer (some ⟨z.b, 0, none⟩)) := d3
    clear A3 C3' d0 d3 d5 hlen
    generalize w3.drewN nq = w4 at *
    go_wp2
    go_ret2
    exact ⟨by rw [hrv.out]; rfl, ⟨C4.out, D2, by rw [hLv.out]; exact A4.out⟩⟩
  · skip
    have z1 : decide ((ln : Int) ≤ room) = false := decide_eq_false (by omega)
    replace hr := Lib.hid hr
    replace hrv := Lib.hid hrv
    replace hLv := Lib.hid hLv
    clear hres
    go_wp2
    go_quiet (fail)
    have A4 := Aside0.mk (A3.out.below (pw_below_drewN (Below.refl _ _) nq))
    have C4 := Aside0.mk (C3'.out.trans (Ch.of_below (pw_below_drewN (Below.refl _ _) nq)))
    have d3' : (w3.drewN nq).cell? ⟨P, 3, none⟩ = some (.pointer (some ⟨z.b, 0, none⟩)) := d3
    clear A3 C3' d0 d3 d5 hlen
    generalize w3.drewN nq = w4 at *
    have hf := Lib.hid (forget_calls A4 hz)
    have hzz := Lib.hid hz
    clear hz A4
    go_wp2_with fail
    refine hf.out.mono ?_
    rintro e' w5 ⟨rfl, ⟨D', A5⟩, hb5, C5⟩
    have d0 : w5.cell? ⟨z.b, 0, none⟩ = some (.int .i64 z.lba) := blk_cell hb5 0
    have F := Aside0.mk (And.intro (C4.out.trans' C5 (fun k hk hlt => by
      rcases hk with h | h | h
      · exact .inl h
      · exact .inr (.inl h)
      · rcases List.mem_cons.1 h with h | h
        · have h2 : k = X := h
          have := hX.out
          omega
        · exact .inr (.inr h))) A5)
    clear hf A5 hb5 C5
    go_wp2
    go_ret2
    exact ⟨by rw [hrv.out]; rfl, ⟨F.out.1, D', by rw [hLv.out]; exact F.out.2⟩⟩
end
end Go.Proofs.Ytilephiplfigpaa.PQ
