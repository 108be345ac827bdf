/- The cache beside the document's list; what the document's functions come to. -/
import Derived.Test.YtilephiplfigpaaIter
namespace Go.Proofs.Ytilephiplfigpaa.PQ
open Go.RowKit Go.Proofs.YtilephiplfigpaaW.PrintWords Go.Proofs.YtilephiplfigpaaW.PrintLast Go.Proofs.YtilephiplfigpaaW.PrintMore Go.Shelf
set_option linter.unusedVariables false
set_option linter.unusedSimpArgs false
theorem w64n (x : Nat) (h : x ≤ 1000000) : wrap64 ((x : Int) + 1) = ((x + 1 : Nat) : Int) := by rw [Go.IntWalk.wrap64_in _ ⟨by omega, by omega⟩]; omega
theorem rd_get (l : List S61) (k : Nat) (hk : k < l.length) : rd_T61 l (k : Int) = l[k] := by
  unfold rd_T61
  rw [Int.toNat_natCast, List.getD_eq_getElem?_getD, List.getElem?_eq_getElem hk]
  rfl
theorem find_pure_no (l : List S61) (a : Int) (hl : l.length ≤ 100000) (hn : ∀ x ∈ l, x.f0 ≠ a) : deckleref36_Find.f (l.length + 1) l a = some (-1) := by
  have key : ∀ m k : Nat, m + k = l.length → deckleref36_Find.l0 (m + 1) l a (k : Int) = some (-1) := by
    intro m
    induction m with
    | zero => intro k hk; unfold deckleref36_Find.l0; rw [if_neg (by omega)]
    | succ m ih =>
      intro k hk
      unfold deckleref36_Find.l0
      have hlt : k < l.length := by omega
      rw [if_pos (by omega), if_pos (by omega), rd_get l k hlt, w64n k (by omega), if_neg (hn _ (List.getElem_mem hlt))]
      exact ih (k + 1) (by omega)
  exact key l.length 0 (by omega)
theorem find_pure_at (l : List S61) (a : Int) (hl : l.length ≤ 100000) (i : Nat) (hi : i < l.length) (h1 : (l[i]).f0 = a) (h2 : ∀ j (hj : j < i), (l[j]'(by omega)).f0 ≠ a) : deckleref36_Find.f (l.length + 1) l a = some (i : Int) := by
  have key : ∀ m k : Nat, m + k = l.length → k ≤ i → deckleref36_Find.l0 (m + 1) l a (k : Int) = some (i : Int) := by
    intro m
    induction m with
    | zero => intro k hk hki; omega
    | succ m ih =>
      intro k hk hki
      unfold deckleref36_Find.l0
      have hlt : k < l.length := by omega
      rw [if_pos (by omega), if_pos (by omega), rd_get l k hlt, w64n k (by omega)]
      by_cases hk2 : k = i
      · subst hk2
        rw [if_pos h1]
      · rw [if_neg (h2 k (by omega))]
        exact ih (k + 1) (by omega) (by omega)
  exact key l.length 0 (by omega) (Nat.zero_le _)
theorem outO_len (l : List S61) (a : Int) : (outO l a).length ≤ l.length := List.length_filter_le _ _
theorem without_pure (l : List S61) (a : Int) (hl : l.length ≤ 100000) : deckleref36_Without.f (l.length + 1) l a = some (outO l a) := by
  have key : ∀ m k : Nat, m + k = l.length → deckleref36_Without.l0 (m + 1) l a (outO (l.take k) a) (k : Int) = some (outO l a) := by
    intro m
    induction m with
    | zero =>
      intro k hk
      unfold deckleref36_Without.l0
      rw [if_neg (by omega), List.take_of_length_le (by omega)]
    | succ m ih =>
      intro k hk
      unfold deckleref36_Without.l0
      have hlt : k < l.length := by omega
      rw [if_pos (by omega), if_pos (by omega), rd_get l k hlt, w64n k (by omega)]
      have hi := ih (k + 1) (by omega)
      have hs : outO (l.take (k + 1)) a = if (l[k]).f0 = a then outO (l.take k) a else outO (l.take k) a ++ [l[k]] := by
        unfold outO
        rw [List.take_succ_eq_append_getElem hlt, List.filter_append]
        by_cases h : (l[k]).f0 = a <;> simp [h]
      by_cases h1 : (l[k]).f0 = a
      · rw [if_pos h1] at hs ⊢
        rw [← hs]
        exact hi
      · rw [if_neg h1] at hs ⊢
        have := outO_len (l.take k) a
        rw [List.length_take] at this
        rw [if_pos (by omega), ← hs]
        exact hi
  exact key l.length 0 (by omega)
theorem first_pure (l : List S61) (x : S61) (hl : l.length ≤ 100000) : deckleref36_First.f (l.length + 1) l x.f0 x.f1 = some (firstO l x) := by
  unfold deckleref36_First.f
  rw [without_pure l x.f0 hl]
  have := outO_len l x.f0
  show (if [(⟨x.f0, x.f1⟩ : S61)].length + (outO l x.f0).length < 5864062014805 then some ([(⟨x.f0, x.f1⟩ : S61)] ++ outO l x.f0) else none) = _
  rw [if_pos (by rw [List.length_singleton]; omega)]
  rfl
/-- The cache beside a row of the document; boxes. -/
structure JL (room hits misses : Int) (L : List EL) (d : List S61) (P M : Nat) (v : Value) (bx : List (Nat × Obj)) (w0 w : World) : Prop where
  lat : ∃ D, LAt w0.heap.size room hits misses L P M D w
  row : Kd.R k61 61 w w0.heap.size (fun k => ¬ LB P M L k) v d
  box : ∀ q ∈ bx, w.heap[q.1]? = some q.2
  xb : ∀ q ∈ bx, ¬ LB P M L q.1
  xv : ∀ q ∈ bx, v.ownBlock ≠ some q.1
  bel : Below w0.heap.size w0 w
section
variable {room hits misses room' hits' misses' : Int} {L L' : List EL} {d : List S61} {P M : Nat} {v : Value} {bx : List (Nat × Obj)} {w0 w w' : World}
theorem JL.below (h : JL room hits misses L d P M v bx w0 w) (hb : Below w.heap.size w w') : JL room hits misses L d P M v bx w0 w' :=
  ⟨h.lat.elim fun D hD => ⟨D, hD.below hb⟩, Kd.R_below h.row hb, fun q hq => blk_below (h.box q hq) hb, h.xb, h.xv, h.bel.trans (hb.mono h.bel.size)⟩
theorem JL.drew (h : JL room hits misses L d P M v bx w0 w) : JL room hits misses L d P M v bx w0 w.drew := h.below (below_drew (Below.refl _ _))
theorem JL.drewN (h : JL room hits misses L d P M v bx w0 w) (n : Nat) : JL room hits misses L d P M v bx w0 (w.drewN n) := h.below (pw_below_drewN (Below.refl _ _) n)
theorem JL.alloc (h : JL room hits misses L d P M v bx w0 w) (o : Obj) : JL room hits misses L d P M v bx w0 (w.alloc o) := h.below ((Below.refl _ _).alloc (Nat.le_refl _) _)
theorem JL.push (h : JL room hits misses L d P M v bx w0 w) (o : Obj) : JL room hits misses L d P M v ((w.heap.size, o) :: bx) w0 (w.alloc o) := by
  have h1 := h.alloc o
  obtain ⟨D, hD⟩ := h.lat
  refine ⟨h1.lat, h1.row, ?_, ?_, ?_, h1.bel⟩
  · intro q hq
    rcases List.mem_cons.1 hq with rfl | hq
    · exact heap_alloc_new w o
    · exact h1.box q hq
  · intro q hq
    rcases List.mem_cons.1 hq with rfl | hq
    · exact fun e => absurd (hD.lt _ e) (Nat.lt_irrefl _)
    · exact h1.xb q hq
  · intro q hq
    rcases List.mem_cons.1 hq with rfl | hq
    · exact fun e => absurd ((Kd.R_bound h.row).1 _ e).2.2.1 (Nat.lt_irrefl _)
    · exact h1.xv q hq
theorem JL.pop {q : Nat × Obj} (h : JL room hits misses L d P M v (q :: bx) w0 w) : JL room hits misses L d P M v bx w0 w :=
  ⟨h.lat, h.row, fun q hq => h.box q (List.mem_cons_of_mem _ hq), fun q hq => h.xb q (List.mem_cons_of_mem _ hq), fun q hq => h.xv q (List.mem_cons_of_mem _ hq), h.bel⟩
theorem JL.head {q : Nat × Obj} (h : JL room hits misses L d P M v (q :: bx) w0 w) : w.heap[q.1]? = some q.2 := h.box q List.mem_cons_self
theorem JL.frame (h : JL room hits misses L d P M v bx w0 w) (hC : Ch (LB P M L) w w') (hA : ∃ D', LAt w0.heap.size room' hits' misses' L' P M D' w') (hsub : ∀ k, LB P M L' k → LB P M L k ∨ w.heap.size ≤ k) : JL room' hits' misses' L' d P M v bx w0 w' := by
  obtain ⟨D, hD⟩ := h.lat
  have hfar : ∀ k, k < w.heap.size → ¬ LB P M L k → ¬ LB P M L' k := fun k hk hn hn' => (hsub k hn').elim hn (by omega)
  refine ⟨hA, ?_, fun q hq => (hC.block q.1 (blk_lt (h.box q hq)) (h.xb q hq)).trans (h.box q hq), fun q hq => hfar q.1 (blk_lt (h.box q hq)) (h.xb q hq), h.xv, h.bel.trans (hC.below h.bel.size (fun k hk => hD.ge k hk))⟩
  have hb2 := Kd.R_step (Kd.R_bound h.row) (fun k hk hlt => hC.block k hlt hk.1)
  exact Kd.R_mono hb2 (fun k hk => hfar k hk.2.2.1 hk.1)
/-- A new row of the document's in the old one's place. -/
theorem JL.renew (h : JL room hits misses L d P M v bx w0 w) {d' : List S61} {v' : Value} (hb : Below w.heap.size w w') (hR : Kd.R k61 61 w' w.heap.size (fun _ => True) v' d') : JL room hits misses L d' P M v' bx w0 w' := by
  obtain ⟨D, hD⟩ := h.lat
  refine ⟨⟨D, hD.below hb⟩, ?_, fun q hq => blk_below (h.box q hq) hb, h.xb, fun q hq e => ?_, h.bel.trans (hb.mono h.bel.size)⟩
  · exact Kd.R_lower (Kd.R_mono (Kd.R_bound hR) (fun k hk hp => by have := hD.lt k hp; have := hk.2.1; omega)) h.bel.size
  · have := Kd.R_base hR q.1 e
    have := blk_lt (h.box q hq)
    omega
theorem absL_len (L : List EL) : (absL L).length = L.length := by unfold absL; rw [List.length_map]
theorem absL_get {i : Nat} {e : EL} (he : L[i]? = some e) : (absL L)[i]? = some ⟨e.lba, e.data⟩ := by unfold absL; rw [List.getElem?_map, he]; rfl
theorem JL.put (h : Aside0 (JL room hits misses L d P M v bx w0 w)) (a : Int) (s : ByteArray) (ha : (Lit.int .i64 a).wf = true) (hL : (L.length : Int) ≤ room ∧ L.length ≤ 100000) :
    Calls Try.prog 9 #[.pointer (some ⟨P, 0, none⟩), .int .i64 a, .string s] w fun e w' => e = .returned (.tuple #[.int .i64 (putO (absL L) room ⟨a, s⟩).2.1, .bool (putO (absL L) room ⟨a, s⟩).2.2]) ∧ Aside0 (∃ L', absL L' = (putO (absL L) room ⟨a, s⟩).1 ∧ (L'.length : Int) ≤ room ∧ JL room hits misses L' d P M v bx w0 w') := by
  obtain ⟨D, hD⟩ := h.out.lat
  rcases mapE_cases L a with ⟨i, e, he, rfl⟩ | hn
  · have hf : firstO (absL L) ⟨e.lba, s⟩ = absL (⟨e.b, e.lba, s⟩ :: L.eraseIdx i) := by
      unfold firstO
      rw [← absL_erase hD.nd he]
      rfl
    obtain ⟨hi, _⟩ := List.getElem?_eq_some_iff.1 he
    have hlen : (firstO (absL L) ⟨e.lba, s⟩).length = L.length := by rw [hf, absL_len, List.length_cons, List.length_eraseIdx_of_lt hi]; omega
    have hp : putO (absL L) room ⟨e.lba, s⟩ = (firstO (absL L) ⟨e.lba, s⟩, 0, false) := by unfold putO; rw [if_pos (by rw [hlen]; exact hL.1)]
    rw [hp]
    refine (put_found ⟨hD⟩ he s).mono ?_
    rintro e' w' ⟨rfl, hA, hC⟩
    refine ⟨rfl, ⟨⟨e.b, e.lba, s⟩ :: L.eraseIdx i, hf.symm, ?_, h.out.frame hC ⟨D, hA⟩ (fun k hk => .inl ?_)⟩⟩
    · rw [← absL_len, ← hf, hlen]; exact hL.1
    · rcases hk with h1 | h1 | h1
      · exact .inl h1
      · exact .inr (.inl h1)
      · refine .inr (.inr ?_)
        rw [List.map_cons] at h1
        rcases List.mem_cons.1 h1 with h2 | h2
        · exact h2 ▸ List.mem_map.2 ⟨e, List.mem_of_getElem? he, rfl⟩
        · obtain ⟨x, hx, rfl⟩ := List.mem_map.1 h2
          exact List.mem_map_of_mem (List.mem_of_mem_eraseIdx hx)
  · have hf : firstO (absL L) ⟨a, s⟩ = absL (⟨w.heap.size, a, s⟩ :: L) := by
      unfold firstO
      show _ :: outO (absL L) a = _
      rw [absL_miss hn]
      rfl
    have hlen : (firstO (absL L) ⟨a, s⟩).length = L.length + 1 := by rw [hf, absL_len, List.length_cons]
    obtain ⟨z, hz⟩ : ∃ z, (⟨w.heap.size, a, s⟩ :: L)[L.length]? = some z := ⟨_, List.getElem?_eq_getElem (by rw [List.length_cons]; omega)⟩
    have hsub : ∀ k, LB P M (⟨w.heap.size, a, s⟩ :: L) k → LB P M L k ∨ w.heap.size ≤ k := by
      rintro k (h1 | h1 | h1)
      · exact .inl (.inl h1)
      · exact .inl (.inr (.inl h1))
      · rw [List.map_cons] at h1
        rcases List.mem_cons.1 h1 with h2 | h2
        · exact .inr (Nat.le_of_eq h2.symm)
        · exact .inl (.inr (.inr h2))
    by_cases hr : ((L.length + 1 : Nat) : Int) ≤ room
    · have hp : putO (absL L) room ⟨a, s⟩ = (firstO (absL L) ⟨a, s⟩, 0, false) := by unfold putO; rw [if_pos (by rw [hlen]; exact hr)]
      rw [hp]
      refine (put_new ⟨hD⟩ s ha hn hL.2 h.out.bel.size z hz (.tuple #[.int .i64 0, .bool false]) (⟨w.heap.size, a, s⟩ :: L) ⟨.inl ⟨hr, rfl, rfl⟩⟩).mono ?_
      rintro e' w' ⟨rfl, hC, hA⟩
      exact ⟨rfl, ⟨_, hf.symm, by rw [List.length_cons]; exact hr, h.out.frame hC hA hsub⟩⟩
    · have hp : putO (absL L) room ⟨a, s⟩ = ((firstO (absL L) ⟨a, s⟩).dropLast, ((firstO (absL L) ⟨a, s⟩).getLastD z61).f0, true) := by unfold putO; rw [if_neg (by rw [hlen]; exact hr)]
      have hlast : (firstO (absL L) ⟨a, s⟩).getLastD z61 = ⟨z.lba, z.data⟩ := by
        rw [hf, List.getLastD_eq_getLast?, List.getLast?_eq_getElem?, absL_len, List.length_cons, Nat.add_sub_cancel, absL_get hz]
        rfl
      have hdl : absL ((⟨w.heap.size, a, s⟩ :: L).eraseIdx L.length) = (firstO (absL L) ⟨a, s⟩).dropLast := by
        rw [hf]
        unfold absL
        rw [map_erase', List.dropLast_eq_take, List.eraseIdx_eq_take_drop_succ, List.length_map, List.length_cons, Nat.add_sub_cancel, List.drop_of_length_le (by rw [List.length_map, List.length_cons]; exact Nat.le_refl _), List.append_nil]
      rw [hp, hlast]
      refine (put_new ⟨hD⟩ s ha hn hL.2 h.out.bel.size z hz (.tuple #[.int .i64 z.lba, .bool true]) ((⟨w.heap.size, a, s⟩ :: L).eraseIdx L.length) ⟨.inr ⟨hr, rfl, rfl⟩⟩).mono ?_
      rintro e' w' ⟨rfl, hC, hA⟩
      exact ⟨rfl, ⟨_, hdl, by rw [List.length_eraseIdx_of_lt (by rw [List.length_cons]; omega), List.length_cons, Nat.add_sub_cancel]; exact hL.1, h.out.frame hC hA (fun k hk => hsub k (LB_erase' k hk))⟩⟩
theorem first_erase {D : DataW Value} {b0 : Nat} (hD : LAt b0 room hits misses L P M D w) {i : Nat} {e : EL} (he : L[i]? = some e) : absL (e :: L.eraseIdx i) = firstO (absL L) ⟨e.lba, e.data⟩ := by
  unfold firstO
  rw [← absL_erase hD.nd he]
  rfl
theorem JL.get_at (h : Aside0 (JL room hits misses L d P M v bx w0 w)) {i : Nat} {e : EL} (he : L[i]? = some e) (hh : 0 ≤ hits ∧ hits ≤ 1000000) :
    Calls Try.prog 11 #[.pointer (some ⟨P, 0, none⟩), .int .i64 e.lba] w fun e' w' => e' = .returned (.tuple #[.string e.data, .bool true]) ∧ Aside0 (∃ L', absL L' = firstO (absL L) ⟨e.lba, e.data⟩ ∧ L'.length = L.length ∧ JL room (hits + 1) misses L' d P M v bx w0 w') := by
  obtain ⟨D, hD⟩ := h.out.lat
  refine (get_found ⟨hD⟩ he hh).mono ?_
  rintro e' w' ⟨rfl, hA, hC⟩
  obtain ⟨hi, _⟩ := List.getElem?_eq_some_iff.1 he
  exact ⟨rfl, ⟨_, first_erase hD he, by rw [List.length_cons, List.length_eraseIdx_of_lt hi]; omega, h.out.frame hC ⟨D, hA⟩ (fun k hk => .inl (LB_erase he k hk))⟩⟩
theorem JL.get_no (h : Aside0 (JL room hits misses L d P M v bx w0 w)) {a : Int} (ha : (Lit.int .i64 a).wf = true) (hn : ∀ e ∈ L, e.lba ≠ a) (hh : 0 ≤ misses ∧ misses ≤ 1000000) :
    Calls Try.prog 11 #[.pointer (some ⟨P, 0, none⟩), .int .i64 a] w fun e' w' => e' = .returned (.tuple #[.string ByteArray.empty, .bool false]) ∧ Aside0 (JL room hits (misses + 1) L d P M v bx w0 w') := by
  obtain ⟨D, hD⟩ := h.out.lat
  refine (get_missed ⟨hD⟩ ha hn hh).mono ?_
  rintro e' w' ⟨rfl, hA, hC⟩
  exact ⟨rfl, ⟨h.out.frame hC ⟨D, hA⟩ (fun k hk => .inl hk)⟩⟩
theorem JL.peek_at (h : Aside0 (JL room hits misses L d P M v bx w0 w)) {i : Nat} {e : EL} (he : L[i]? = some e) :
    Calls Try.prog 10 #[.pointer (some ⟨P, 0, none⟩), .int .i64 e.lba] w fun e' w' => e' = .returned (.tuple #[.string e.data, .bool true]) ∧ Aside0 (JL room hits misses L d P M v bx w0 w') := by
  obtain ⟨D, hD⟩ := h.out.lat
  refine (peek_calls ⟨hD⟩ e.lba (hD.wf e (List.mem_of_getElem? he)) e.data true (.inl ⟨i, e, he, rfl, rfl, rfl⟩)).mono ?_
  rintro e' w' ⟨rfl, hb⟩
  exact ⟨rfl, ⟨h.out.below hb⟩⟩
theorem JL.peek_no (h : Aside0 (JL room hits misses L d P M v bx w0 w)) {a : Int} (ha : (Lit.int .i64 a).wf = true) (hn : ∀ e ∈ L, e.lba ≠ a) :
    Calls Try.prog 10 #[.pointer (some ⟨P, 0, none⟩), .int .i64 a] w fun e' w' => e' = .returned (.tuple #[.string ByteArray.empty, .bool false]) ∧ Aside0 (JL room hits misses L d P M v bx w0 w') := by
  obtain ⟨D, hD⟩ := h.out.lat
  refine (peek_calls ⟨hD⟩ a ha _ false (.inr ⟨hn, rfl, rfl⟩)).mono ?_
  rintro e' w' ⟨rfl, hb⟩
  exact ⟨rfl, ⟨h.out.below hb⟩⟩
theorem JL.drop_at (h : Aside0 (JL room hits misses L d P M v bx w0 w)) {i : Nat} {e : EL} (he : L[i]? = some e) :
    Calls Try.prog 15 #[.pointer (some ⟨P, 0, none⟩), .int .i64 e.lba] w fun e' w' => e' = .returned (.bool true) ∧ Aside0 (∃ L', absL L' = outO (absL L) e.lba ∧ (∀ x ∈ L', x.lba ≠ e.lba) ∧ L'.length ≤ L.length ∧ JL room hits misses L' d P M v bx w0 w') := by
  obtain ⟨D, hD⟩ := h.out.lat
  refine (drop_found ⟨hD⟩ he).mono ?_
  rintro e' w' ⟨rfl, hA, hC⟩
  obtain ⟨hi, _⟩ := List.getElem?_eq_some_iff.1 he
  exact ⟨rfl, ⟨_, absL_erase hD.nd he, erase_ne hD.nd he, by rw [List.length_eraseIdx_of_lt hi]; omega, h.out.frame hC hA (fun k hk => .inl (LB_erase' k hk))⟩⟩
theorem JL.drop_no (h : Aside0 (JL room hits misses L d P M v bx w0 w)) {a : Int} (ha : (Lit.int .i64 a).wf = true) (hn : ∀ e ∈ L, e.lba ≠ a) :
    Calls Try.prog 15 #[.pointer (some ⟨P, 0, none⟩), .int .i64 a] w fun e' w' => e' = .returned (.bool false) ∧ w' = w := by
  obtain ⟨D, hD⟩ := h.out.lat
  exact drop_missed ⟨hD⟩ ha hn
theorem JL.len (h : Aside0 (JL room hits misses L d P M v bx w0 w)) : Calls Try.prog 12 #[.pointer (some ⟨P, 0, none⟩)] w fun e w' => e = .returned (.int .i64 L.length) ∧ w' = w := by
  obtain ⟨D, hD⟩ := h.out.lat
  exact len_calls ⟨hD⟩
theorem JL.hitsC (h : Aside0 (JL room hits misses L d P M v bx w0 w)) : Calls Try.prog 27 #[.pointer (some ⟨P, 0, none⟩)] w fun e w' => e = .returned (.tuple #[.int .i64 hits, .int .i64 misses]) ∧ Below w.heap.size w w' := by
  obtain ⟨D, hD⟩ := h.out.lat
  exact hits_calls ⟨hD⟩
/-- Whether a sector is there. -/
def isO (d : List S61) (a : Int) : Option ByteArray := (d.find? fun x => decide (x.f0 = a)).map (·.f1)
theorem isO_at {D : DataW Value} {b0 : Nat} (hD : LAt b0 room hits misses L P M D w) {a : Int} {s : ByteArray} (h : isO (absL L) a = some s) : ∃ (i : Nat) (e : EL), L[i]? = some e ∧ e.lba = a ∧ e.data = s := by
  unfold isO at h
  obtain ⟨x, hx, rfl⟩ := Option.map_eq_some_iff.1 h
  have h1 := List.find?_some hx
  have h2 := List.mem_of_find?_eq_some hx
  obtain ⟨e, he, rfl⟩ := List.mem_map.1 h2
  obtain ⟨i, hi⟩ := List.mem_iff_getElem?.1 he
  exact ⟨i, e, hi, of_decide_eq_true h1, rfl⟩
theorem isO_no {a : Int} (h : isO (absL L) a = none) : ∀ e ∈ L, e.lba ≠ a := by
  unfold isO at h
  rw [Option.map_eq_none_iff, List.find?_eq_none] at h
  intro e he
  have := h _ (List.mem_map_of_mem (f := absE) he)
  exact fun h2 => this (decide_eq_true h2)
theorem JL.new (r : Int) (hr : 1 ≤ r ∧ r ≤ 256) (w : World) : Calls Try.prog 8 #[.int .i64 r] w fun e w' => e = .returned (.tuple #[.pointer (some ⟨w.heap.size + 1, 0, none⟩), .int .i64 0]) ∧ Aside0 (JL r 0 0 [] [] (w.heap.size + 1) w.heap.size (.slice none 0 0) [] w w') := by
  refine (new_calls r hr w).mono ?_
  rintro e w' ⟨rfl, hA, hb⟩
  exact ⟨rfl, ⟨⟨⟨_, hA⟩, Kd.R_nil _ _ _ _ _, (fun q hq => absurd hq (by simp)), (fun q hq => absurd hq (by simp)), (fun q hq => absurd hq (by simp)), hb⟩⟩⟩
end
end Go.Proofs.Ytilephiplfigpaa.PQ
