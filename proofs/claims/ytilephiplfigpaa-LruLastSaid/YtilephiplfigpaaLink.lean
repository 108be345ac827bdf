/- A node is taken out of the ring, and put ahead, walked. -/
import Derived.Test.YtilephiplfigpaaRing
namespace Go.Proofs.Ytilephiplfigpaa.PQ
open Go.RowKit Go.Proofs.YtilephiplfigpaaW.PrintWords Go.Proofs.YtilephiplfigpaaW.PrintLast Go.Proofs.YtilephiplfigpaaW.PrintMore
set_option linter.unusedVariables false
set_option linter.unusedSimpArgs false
/-- The blocks of a ring. -/
def RB (P : Nat) (L : List EL) (k : Nat) : Prop := k = P ∨ k ∈ L.map (·.b)
/-- All blocks but those of S stay. -/
structure Ch (S : Nat → Prop) (w w' : World) : Prop where
  os : w'.os = w.os
  tape : w'.tape = w.tape
  output : w'.output = w.output
  size : w.heap.size ≤ w'.heap.size
  block : ∀ k, k < w.heap.size → ¬ S k → w'.heap[k]? = w.heap[k]?
theorem Ch.refl (S : Nat → Prop) (w : World) : Ch S w w := ⟨rfl, rfl, rfl, Nat.le_refl _, fun _ _ _ => rfl⟩
theorem Ch.of_below {S : Nat → Prop} {w w' : World} (h : Below w.heap.size w w') : Ch S w w' := ⟨h.os, h.tape, h.output, h.size, fun k hk _ => h.block k hk⟩
theorem Ch.of_grown {S : Nat → Prop} {w w' : World} {row : Option Nat} (h : w.grownBy w' row) (hr : ∀ k, row = some k → S k) : Ch S w w' := ⟨h.os, h.tape, h.output, h.size, fun k hk hn => h.block k hk (fun e => hn (hr k e.symm))⟩
theorem Ch.trans {S : Nat → Prop} {a b c : World} (h : Ch S a b) (k : Ch S b c) : Ch S a c :=
  ⟨k.os.trans h.os, k.tape.trans h.tape, k.output.trans h.output, Nat.le_trans h.size k.size, fun i hi hn => (k.block i (Nat.lt_of_lt_of_le hi h.size) hn).trans (h.block i hi hn)⟩
theorem Ch.mono {S S' : Nat → Prop} {a b : World} (h : Ch S a b) (hS : ∀ i, S i → i < a.heap.size → S' i) : Ch S' a b :=
  ⟨h.os, h.tape, h.output, h.size, fun i hi hn => h.block i hi (fun s => hn (hS i s hi))⟩
theorem Ch.below {S : Nat → Prop} {w w' : World} (h : Ch S w w') {n : Nat} (hn : n ≤ w.heap.size) (hS : ∀ k, S k → n ≤ k) : Below n w w' := ⟨h.os, h.tape, h.output, h.size, fun k hk => h.block k (by omega) (fun s => by have := hS k s; omega)⟩
theorem Ch.drew (S : Nat → Prop) (w : World) : Ch S w w.drew := ⟨rfl, rfl, rfl, Nat.le_refl _, fun _ _ _ => rfl⟩
theorem Ch.set {S : Nat → Prop} (w : World) (a : Addr) (v : Value) (h : S a.block) : Ch S w (w.setCell a v) :=
  ⟨rfl, rfl, rfl, by simp [World.setCell], fun k _ hk => Below.heap_setCell _ _ _ _ (fun e => hk (e ▸ h))⟩
section
variable {P M : Nat} {room hits misses : Int} {L : List EL} {ah nx : Nat → Value} {w w' : World}
theorem adr_RB (j : Nat) : RB P L (adr P (L.map (·.b)) j).block := by
  cases j with
  | zero => exact .inl rfl
  | succ j =>
    rw [adr_succ]
    cases h : (L.map (·.b))[j]? with
    | none => exact .inl rfl
    | some b => exact .inr (List.mem_of_getElem? h)
theorem RingV.drew (h : RingV P M room hits misses L ah nx w) : RingV P M room hits misses L ah nx w.drew := h.same fun _ _ => rfl
theorem RingV.drewN (h : RingV P M room hits misses L ah nx w) (n : Nat) : RingV P M room hits misses L ah nx (w.drewN n) := h.same fun _ _ => rfl
theorem upd_other {f : Nat → Value} {j k : Nat} {v : Value} (h : k ≠ j) : updN f j v k = f k := by unfold updN; rw [if_neg h]
theorem upd_self {f : Nat → Value} {j : Nat} {v : Value} : updN f j v j = v := by unfold updN; rw [if_pos rfl]
theorem adr_plain (j : Nat) : ∃ b o, adr P (L.map (·.b)) j = ⟨b, o, none⟩ := by
  cases j with
  | zero => exact ⟨_, _, rfl⟩
  | succ j =>
    rw [adr_succ]
    cases (L.map (·.b))[j]? with
    | none => exact ⟨_, _, rfl⟩
    | some b => exact ⟨_, _, rfl⟩
set_option maxHeartbeats 4000000 in
theorem unlink_calls (i pi ni : Nat) (B : Nat) (hi : i < L.length) (hpi : pi ≤ L.length) (hni : ni ≤ L.length) (hp1 : pi ≠ i + 1) (hn1 : ni ≠ i + 1) (hB : adr P (L.map (·.b)) (i + 1) = ⟨B, 0, none⟩)
    (hpv : ah (i + 1) = .pointer (some (adr P (L.map (·.b)) pi))) (hnv : nx (i + 1) = .pointer (some (adr P (L.map (·.b)) ni))) (H : Aside0 (RingV P M room hits misses L ah nx w)) :
    Calls Try.prog 28 #[.pointer (some ⟨B, 0, none⟩)] w fun e w' => e = .returned (.tuple #[]) ∧ Aside0 (RingV P M room hits misses L (updN (updN ah ni (ah (i + 1))) (i + 1) (.pointer none)) (updN (updN nx pi (nx (i + 1))) (i + 1) (.pointer none)) w' ∧ Ch (RB P L) w w') := by
  obtain ⟨pb, po, hpa⟩ := adr_plain (P := P) (L := L) pi
  obtain ⟨nb, no, hna⟩ := adr_plain (P := P) (L := L) ni
  have hRB := fun j => adr_RB (P := P) (L := L) j
  obtain ⟨p0, v5⟩ := H.out.cellNx pi hpi
  have c2 := (H.out.cellAh (i + 1) hi).1
  have c3 := (H.out.cellNx (i + 1) hi).1
  rw [hB, hpv, hpa] at c2
  rw [hB, hnv, hna] at c3
  rw [hpa] at p0 v5
  have H1 := (H.out.setNx pi hpi (nx (i + 1))).drew
  have C1 : Ch (RB P L) w (w.setCell ⟨pb, po + 3, none⟩ (.pointer (some ⟨nb, no, none⟩))).drew := (Ch.set _ _ _ (by have := hRB pi; rw [hpa] at this; exact this)).trans (Ch.drew _ _)
  rw [hpa, hnv, hna] at H1
  have d2 := (H1.cellAh (i + 1) hi).1
  have d3 := (H1.cellNx (i + 1) hi).1
  rw [upd_other (Ne.symm hp1)] at d3
  rw [hB, hpv, hpa] at d2
  rw [hB, hnv, hna] at d3
  obtain ⟨q0, q5⟩ := H1.cellAh ni hni
  rw [hna] at q0 q5
  have H2 := (H1.setAh ni hni (ah (i + 1))).drew
  rw [hna, hpv, hpa] at H2
  dsimp only [Nat.zero_add] at *
  have C2 := C1.trans ((Ch.set (S := RB P L) (w.setCell ⟨pb, po + 3, none⟩ (.pointer (some ⟨nb, no, none⟩))).drew ⟨nb, no + 2, none⟩ (.pointer (some ⟨pb, po, none⟩)) (by have := hRB ni; rw [hna] at this; exact this)).trans (Ch.drew _ _))
  obtain ⟨e2, g2⟩ := H2.cellAh (i + 1) hi
  obtain ⟨e3, g3⟩ := H2.cellNx (i + 1) hi
  rw [hB] at e2 g2 e3 g3
  have H3 := H2.setAh (i + 1) hi (.pointer none)
  have H4 := H3.setNx (i + 1) hi (.pointer none)
  obtain ⟨e4, g4⟩ := H3.cellNx (i + 1) hi
  rw [hB] at H3 H4 e4 g4
  dsimp only [Nat.zero_add] at *
  have C3 := C2.trans (Ch.set (S := RB P L) _ ⟨B, 2, none⟩ (.pointer none) (by have := hRB (i + 1); rw [hB] at this; exact this))
  have C4 := C3.trans (Ch.set (S := RB P L) _ ⟨B, 3, none⟩ (.pointer none) (by have := hRB (i + 1); rw [hB] at this; exact this))
  rw [hpv, hnv, hpa, hna]
  have F := Aside0.mk (And.intro H4 C4)
  clear H1 H2 H3 H4 C1 C2 C3 C4 hpv hnv hpa hna hB hp1 hn1 hRB H
  go_enter Try.func28, Try.ntmps28
  go_wp2_with fail
  go_region
  clear c2 c3 p0 v5
  generalize (w.setCell ⟨pb, po + 3, none⟩ (.pointer (some ⟨nb, no, none⟩))).drew = W1 at *
  go_wp2_with fail
  go_region
  clear d2 d3 q0 q5
  generalize (W1.setCell ⟨nb, no + 2, none⟩ (.pointer (some ⟨pb, po, none⟩))).drew = W2 at *
  go_wp2
  go_end0
  exact ⟨rfl, F⟩
theorem Ring.unlink (H : Aside0 (Ring P M room hits misses L w)) {i : Nat} {e : EL} (he : L[i]? = some e) :
    Calls Try.prog 28 #[.pointer (some ⟨e.b, 0, none⟩)] w fun e' w' => e' = .returned (.tuple #[]) ∧ Aside0 (Ring P M room hits misses (L.eraseIdx i) w' ∧ w'.heap[e.b]? = some (.cells #[.int .i64 e.lba, .string e.data, .pointer none, .pointer none] 49 (0, 0)) ∧ Ch (RB P L) w w') := by
  obtain ⟨hi, _⟩ := List.getElem?_eq_some_iff.1 he
  refine (unlink_calls (ah := ahS P L) (nx := nxS P L) i i (nxI L.length i) e.b hi (Nat.le_of_lt hi) (by unfold nxI; split <;> omega) (by omega) (by unfold nxI; split <;> omega) (adr_node he) rfl (by rw [adr_nxI]; rfl) H).mono ?_
  rintro e' w' ⟨rfl, hR, hC⟩
  refine ⟨rfl, ⟨Ring.unlinked hi hR, ?_, hC⟩⟩
  have := hR.node i e he
  rw [upd_self, upd_self] at this
  exact this
set_option maxHeartbeats 4000000 in
theorem Ring.link {e : EL} {v2 v3 : Value} (H : Aside0 (Ring P M room hits misses L w)) (hb : Aside0 (w.heap[e.b]? = some (.cells #[.int .i64 e.lba, .string e.data, v2, v3] 49 (0, 0)))) (hn : Aside0 (∀ e' ∈ L, e'.b ≠ e.b)) :
    Calls Try.prog 19 #[.pointer (some ⟨P, 0, none⟩), .pointer (some ⟨e.b, 0, none⟩)] w fun e' w' => e' = .returned (.tuple #[]) ∧ Aside0 (Ring P M room hits misses (e :: L) w' ∧ Ch (fun k => RB P L k ∨ k = e.b) w w') := by
  have hP : e.b ≠ P := fun hp => by
    have h1 := hb.out
    rw [hp, H.out.root] at h1
    injection h1 with h1
    injection h1 with _ h1
    exact absurd h1 (by decide)
  have hRB : ¬ RB P L e.b := by
    rintro (h | h)
    · exact hP h
    · obtain ⟨e', h1, h2⟩ := List.mem_map.1 h
      exact hn.out e' h1 h2
  obtain ⟨fb, fo, hfa⟩ := adr_plain (P := P) (L := L) 1
  have hfi : fiI L.length ≤ L.length := by unfold fiI; split <;> omega
  have hfb : fb ≠ e.b := fun h => hRB (by have := adr_RB (P := P) (L := L) 1; rw [hfa] at this; exact h ▸ this)
  have x0 : w.cell? ⟨P, 4, none⟩ = some (.pointer (some ⟨fb, fo, none⟩)) := by
    have := blk_cell H.out.root 4
    rw [this]
    show some (nxS P L 0) = _
    unfold nxS
    rw [hfa]
  have c2 : w.cell? ⟨e.b, 2, none⟩ = some v2 := blk_cell hb.out 2
  have c3 : w.cell? ⟨e.b, 3, none⟩ = some v3 := blk_cell hb.out 3
  have f2 := blk_frozen hb.out 2
  have f3 := blk_frozen hb.out 3
  have N0 : (w.setCell ⟨e.b, 2, none⟩ (.pointer (some ⟨P, 1, none⟩))).heap[e.b]? = some (.cells #[.int .i64 e.lba, .string e.data, .pointer (some ⟨P, 1, none⟩), v3] 49 (0, 0)) := blk_put hb.out 2 _ rfl
  have N1 : ((w.setCell ⟨e.b, 2, none⟩ (.pointer (some ⟨P, 1, none⟩))).setCell ⟨e.b, 3, none⟩ (.pointer (some ⟨fb, fo, none⟩))).drew.heap[e.b]? = some (.cells #[.int .i64 e.lba, .string e.data, .pointer (some ⟨P, 1, none⟩), .pointer (some ⟨fb, fo, none⟩)] 49 (0, 0)) := blk_drew (blk_put N0 3 _ rfl)
  have R1 : RingV P M room hits misses L (ahS P L) (nxS P L) ((w.setCell ⟨e.b, 2, none⟩ (.pointer (some ⟨P, 1, none⟩))).setCell ⟨e.b, 3, none⟩ (.pointer (some ⟨fb, fo, none⟩))).drew := (RingV.same (RingV.same H.out (fun k hk => Below.heap_setCell w ⟨e.b, 2, none⟩ (.pointer (some ⟨P, 1, none⟩)) _ (fun h => hRB ((show k = e.b from h) ▸ hk)))) (fun k hk => Below.heap_setCell _ ⟨e.b, 3, none⟩ (.pointer (some ⟨fb, fo, none⟩)) _ (fun h => hRB ((show k = e.b from h) ▸ hk)))).drew
  have C1 : Ch (fun k => RB P L k ∨ k = e.b) w ((w.setCell ⟨e.b, 2, none⟩ (.pointer (some ⟨P, 1, none⟩))).setCell ⟨e.b, 3, none⟩ (.pointer (some ⟨fb, fo, none⟩))).drew := ((Ch.set w ⟨e.b, 2, none⟩ _ (.inr rfl)).trans (Ch.set _ ⟨e.b, 3, none⟩ _ (.inr rfl))).trans (Ch.drew _ _)
  have y0 : ((w.setCell ⟨e.b, 2, none⟩ (.pointer (some ⟨P, 1, none⟩))).setCell ⟨e.b, 3, none⟩ (.pointer (some ⟨fb, fo, none⟩))).drew.cell? ⟨P, 4, none⟩ = some (.pointer (some ⟨fb, fo, none⟩)) := by
    have := blk_cell R1.root 4
    rw [this]
    show some (nxS P L 0) = _
    unfold nxS
    rw [hfa]
  obtain ⟨y1, y2⟩ := R1.cellAh (fiI L.length) hfi
  have R2 := R1.setAh (fiI L.length) hfi (.pointer (some ⟨e.b, 0, none⟩))
  rw [adr_fiI, hfa] at y1 y2 R2
  have N2 := blk_far N1 (p := ⟨fb, fo + 2, none⟩) hfb.symm (.pointer (some ⟨e.b, 0, none⟩))
  have C2 := C1.trans (Ch.set _ ⟨fb, fo + 2, none⟩ (.pointer (some ⟨e.b, 0, none⟩)) (.inl (by have := adr_RB (P := P) (L := L) 1; rw [hfa] at this; exact this)))
  obtain ⟨z1, z2⟩ := R2.cellNx 0 (Nat.zero_le _)
  have R3 := R2.setNx 0 (Nat.zero_le _) (.pointer (some ⟨e.b, 0, none⟩))
  dsimp only [adr] at z1 z2 R3
  have N3 := blk_far N2 (p := ⟨P, 1 + 3, none⟩) hP (.pointer (some ⟨e.b, 0, none⟩))
  have C3 := C2.trans (Ch.set _ ⟨P, 1 + 3, none⟩ (.pointer (some ⟨e.b, 0, none⟩)) (.inl (.inl rfl)))
  have F := Aside0.mk (And.intro (Ring.linked (e := e) R3 (by rw [hfa]; exact N3) hn.out) C3)
  clear N0 N1 N2 N3 R1 R2 R3 C1 C2 C3 H hb hn hRB hfa hfi
  replace hfb := Lib.hid hfb
  replace hP := Lib.hid hP
  generalize e.b = B at *
  replace y0 := Aside0.mk y0
  replace y1 := Aside0.mk y1
  replace y2 := Aside0.mk y2
  replace z1 := Aside0.mk z1
  replace z2 := Aside0.mk z2
  go_enter Try.func19, Try.ntmps19
  go_wp2_with fail
  go_region
  clear c2 c3 f2 f3 x0
  have y0' := y0.out
  have y1' := y1.out
  have y2' := y2.out
  have z1' := z1.out
  have z2' := z2.out
  clear y0 y1 y2 z1 z2
  generalize ((w.setCell ⟨B, 2, none⟩ (.pointer (some ⟨P, 1, none⟩))).setCell ⟨B, 3, none⟩ (.pointer (some ⟨fb, fo, none⟩))).drew = W1 at *
  go_wp2
  go_end0
  exact ⟨rfl, F⟩
end
end Go.Proofs.Ytilephiplfigpaa.PQ
