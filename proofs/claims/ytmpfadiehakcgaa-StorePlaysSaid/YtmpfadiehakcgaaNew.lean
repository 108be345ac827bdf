/- New, walked. -/
import Derived.Test.YtmpfadiehakcgaaText
import Derived.Test.YtmpfadiehakcgaaOps
import Derived.Test.YtmpfadiehakcgaaPQx2
namespace Go.Proofs.Ytmpfadiehakcgaa.PQ
open Go.RowKit Go.Proofs.YtmpfadiehakcgaaW.PrintWords Go.Proofs.YtmpfadiehakcgaaW.PrintLast Go.Proofs.YtmpfadiehakcgaaW.PrintMore
set_option linter.unusedVariables false
set_option linter.unusedSimpArgs false
theorem info63 : (Try.prog.info? 63).map (fun i => (i.zero, i.size, i.bytes)) = some (some (.agg #[(.string ⟨#[]⟩), .map none]), 2, 24) := by kernel_rfl
def k63 : Kd (ByteArray × Nat) := Kd.pair Kd.string (Kd.scalar (fun n : Nat => Value.map (some n)) (fun _ => rfl))
theorem k63_mkM (w : World) (base : Nat) (ok : Nat → Prop) (x : ByteArray × Nat) : k63.M w base ok x [.string x.1, .map (some x.2)] := ⟨[.string x.1], [.map (some x.2)], rfl, rfl, rfl⟩
theorem k63_open {w : World} {x : ByteArray × Nat} {cs : List Value} (h : k63.K w x cs) : cs = [.string x.1, .map (some x.2)] := by
  obtain ⟨_, _, rfl, rfl, rfl⟩ := h
  exact rfl
/-- A store that is being made. -/
structure NAt (lo : Nat) (g : G6) (s : ByteArray) (k P : Nat) (v : Value) (xs : List (ByteArray × Nat)) (w0 w : World) : Prop where
  st : w.heap[P]? = some (.cells #[.int .i64 g.f0, .int .i64 g.f1, .int .i64 g.f2, .int .i64 g.f3, .int .i64 g.f4, .int .i64 g.f5, v] 59 (0, 0))
  row : Kd.R k63 63 w lo (fun _ => True) v xs
  len : xs.length = k
  txt : ∀ x ∈ xs, x.1 = s
  map : ∀ x ∈ xs, ∃ D, MapS Try.prog 9 (mOf (onlyS s)) 1 x.2 D w
  nd : (xs.map (·.2)).Nodup
  ge : ∀ x ∈ xs, lo ≤ x.2
  lP : lo ≤ P
  lz : lo = w0.heap.size
  bel : Below lo w0 w
section
variable {lo : Nat} {g : G6} {s : ByteArray} {k P : Nat} {v v' : Value} {xs : List (ByteArray × Nat)} {w0 w w' W : World}
theorem NAt.rowNe (h : NAt lo g s k P v xs w0 w) : some P ≠ v.ownBlock := Kd.R_ne h.row h.st (by decide)
theorem NAt.mapNe (h : NAt lo g s k P v xs w0 w) {b c : Nat} {m : ByteArray → Option Value} {D : DataW Value} (hM : MapS Try.prog 9 m c b D w) : some b ≠ v.ownBlock := by
  intro e
  obtain ⟨_, inner, ho, _⟩ := h.row
  obtain ⟨cells, hc⟩ := own_typed ho b e.symm
  obtain ⟨es, clock, hb, _⟩ := hM.own
  rw [hc] at hb
  injection hb with hb
  cases hb
/-- Behind the append, before the store. -/
theorem NAt.next (h : NAt lo g s k P v xs w0 w) {M : Nat} {D : DataW Value} (hM : M = w.heap.size) (hb : Below w.heap.size w W) (hMap : MapS Try.prog 9 (mOf (onlyS s)) 1 M D W)
    (ho : Kd.R k63 63 w' lo (fun _ => True) v' (xs ++ [(s, M)])) (hb2 : Below lo w0 w') (hg : W.grownBy w' v.ownBlock) : NAt lo g s (k + 1) P v' (xs ++ [(s, M)]) w0 (w'.setCell ⟨P, 6, none⟩ v') := by
  have hP : w'.heap[P]? = some (.cells #[.int .i64 g.f0, .int .i64 g.f1, .int .i64 g.f2, .int .i64 g.f3, .int .i64 g.f4, .int .i64 g.f5, v] 59 (0, 0)) := blk_grown (blk_below h.st hb) hg h.rowNe
  have hmap : ∀ x ∈ xs ++ [(s, M)], ∃ D, MapS Try.prog 9 (mOf (onlyS s)) 1 x.2 D w' := by
    intro x hx
    rcases List.mem_append.1 hx with hx | hx
    · obtain ⟨D1, hD1⟩ := h.map x hx
      have h1 : MapS Try.prog 9 (mOf (onlyS s)) 1 x.2 D1 W := hD1.same (hb.block _ hD1.lt)
      exact ⟨D1, h1.same (hg.block _ h1.lt (h.mapNe hD1))⟩
    · rw [List.mem_singleton.1 hx]
      refine ⟨D, hMap.same (hg.block _ hMap.lt (fun e => ?_))⟩
      obtain ⟨_, inner, ho', _⟩ := h.row
      have := own_lt ho' M e.symm
      omega
  refine ⟨blk_put hP 6 v' rfl, Kd.R_set (cells := _) ho hP (by decide) 6 v', by rw [List.length_append, h.len]; rfl, fun x hx => ?_, fun x hx => ?_, ?_, fun x hx => ?_, h.lP, h.lz, ?_⟩
  · rcases List.mem_append.1 hx with hx | hx
    · exact h.txt x hx
    · rw [List.mem_singleton.1 hx]
  · obtain ⟨D1, hD1⟩ := hmap x hx
    refine ⟨D1, hD1.same (Below.heap_setCell _ _ _ _ ?_)⟩
    rintro rfl
    obtain ⟨es, clock, hb, _⟩ := hD1.own
    rw [hP] at hb
    injection hb with hb
    cases hb
  · rw [List.map_append, List.nodup_append]
    refine ⟨h.nd, by simp, ?_⟩
    intro a ha b hb' e
    obtain ⟨x, hx, rfl⟩ := List.mem_map.1 ha
    obtain ⟨y, hy, rfl⟩ := List.mem_map.1 hb'
    rw [List.mem_singleton.1 hy] at e
    obtain ⟨D1, hD1⟩ := h.map x hx
    have h1 := hD1.lt
    have h2 : x.2 = M := e
    omega
  · rcases List.mem_append.1 hx with hx | hx
    · exact h.ge x hx
    · rw [List.mem_singleton.1 hx]
      have h1 : lo ≤ w.heap.size := by have := h.bel.size; have := h.lz; omega
      show lo ≤ M
      omega
  · exact hb2.setCell h.lP _
/-- What New hands back. -/
theorem NAt.done (h : NAt lo g s k P v xs w0 w) (hk : 0 < k) (hk2 : k ≤ 4096) : ∃ B cap mb, SAt lo w.heap.size g k 1 (fun _ => s) (fun _ => onlyS s) P B cap mb w := by
  obtain ⟨_, inner, ho, hr⟩ := h.row
  rcases ho.2 with ⟨h1, h2⟩ | ⟨B, cap, cur, h1, hB, hh, _⟩
  · have := h.len; omega
  · have hC := (Kd.R_reads' (h1 ▸ h.row)).2.2
    rw [h.len] at hC
    have hget : ∀ i (hi : i < k), ∃ x, xs[i]? = some x ∧ cur[i * 2]? = some (.string x.1) ∧ cur[i * 2 + 1]? = some (.map (some x.2)) := by
      intro i hi
      obtain ⟨ad, c, e, _, hK, hcc⟩ := Kd.C_get hC (s, 0) (i : Int) (by omega) (by omega)
      cases e
      rw [k63_open hK] at hcc
      have hx : xs[i]? = some (xs.getD (i : Int).toNat (s, 0)) := by
        rw [Int.toNat_natCast, List.getD_eq_getElem?_getD, List.getElem?_eq_getElem (by rw [h.len]; exact hi)]
        rfl
      refine ⟨_, hx, ?_, ?_⟩
      · have h3 := hcc 0 _ rfl
        rw [Int.toNat_natCast] at h3
        rw [← blk_cell hh (i * 2)]
        have h4 : (⟨B, 0, none⟩ : Addr).add (i * k63.sz + 0) = ⟨B, i * 2, none⟩ := by rw [add_plain]; rfl
        rw [h4] at h3
        exact h3
      · have h3 := hcc 1 _ rfl
        rw [Int.toNat_natCast] at h3
        rw [← blk_cell hh (i * 2 + 1)]
        have h4 : (⟨B, 0, none⟩ : Addr).add (i * k63.sz + 1) = ⟨B, i * 2 + 1, none⟩ := by rw [add_plain]; rfl
        rw [h4] at h3
        exact h3
    have hmb : ∀ i (hi : i < k), ∃ x, xs[i]? = some x := fun i hi => (hget i hi).elim fun x h => ⟨x, h.1⟩
    refine ⟨B, cap, fun i => ((xs[i]?).getD (s, 0)).2, ⟨by rw [h.st, h1, h.len], ⟨cur, hh, fun i hi => ?_⟩, fun i hi => ?_, fun i j hi hj e => ?_, ⟨h.lP, blk_lt h.st⟩, ⟨hB, blk_lt hh⟩, fun i hi => ?_, Nat.le_refl _, hk2⟩⟩
    · obtain ⟨x, hx, e0, e1⟩ := hget i hi
      rw [hx]
      rw [h.txt x (List.mem_of_getElem? hx)] at e0
      exact ⟨e0, e1⟩
    · obtain ⟨x, hx⟩ := hmb i hi
      rw [hx]
      obtain ⟨D, hD⟩ := h.map x (List.mem_of_getElem? hx)
      exact ⟨1, D, Nat.le_refl _, hD⟩
    · obtain ⟨x, hx⟩ := hmb i hi
      obtain ⟨y, hy⟩ := hmb j hj
      rw [hx, hy] at e
      obtain ⟨l1, e1⟩ := List.getElem?_eq_some_iff.1 hx
      obtain ⟨l2, e2⟩ := List.getElem?_eq_some_iff.1 hy
      exact (List.getElem_inj (xs := xs.map (·.2)) (i := i) (j := j) (h₀ := by rw [List.length_map]; exact l1) (h₁ := by rw [List.length_map]; exact l2) h.nd).1 (by rw [List.getElem_map, List.getElem_map, e1, e2]; exact e)
    · obtain ⟨x, hx⟩ := hmb i hi
      rw [hx]
      obtain ⟨D, hD⟩ := h.map x (List.mem_of_getElem? hx)
      exact ⟨h.ge x (List.mem_of_getElem? hx), hD.lt⟩
set_option maxHeartbeats 4000000 in
theorem new_no (g : G6) (K : Nat) (r : Int) (hr : r ≠ 0) (hch : geom_Check.f K g.f0 g.f1 g.f2 g.f3 g.f4 g.f5 = some r) (w : World) :
    Calls Try.prog 5 #[encG g] w fun e w' => e = .returned (.tuple #[.pointer none, .int .i64 r]) ∧ Below w.heap.size w w' := by
  have q := Lib.hid (geom_Check.calls K g.f0 g.f1 g.f2 g.f3 g.f4 g.f5 r (w.alloc (.cells #[.int .i64 g.f0, .int .i64 g.f1, .int .i64 g.f2, .int .i64 g.f3, .int .i64 g.f4, .int .i64 g.f5] 23)) hch)
  have z : (r != 0) = true := by rw [bne_iff_ne]; exact hr
  have hB := Aside0.mk ((Below.refl w.heap.size w).alloc (Nat.le_refl _) (.cells #[.int .i64 g.f0, .int .i64 g.f1, .int .i64 g.f2, .int .i64 g.f3, .int .i64 g.f4, .int .i64 g.f5] 23))
  have hu := Try.underlying23
  unfold encG
  clear hch hr
  go_enter Try.func5, Try.ntmps5
  go_wp2_with fail
  refine q.out.mono ?_
  rintro e w1 ⟨rfl, hb1⟩
  go_wp2
  go_ret2
  exact ⟨rfl, hB.out.trans (hb1.mono hB.out.size)⟩
set_option maxHeartbeats 8000000 in
theorem new_ok (g : G6) (K : Nat) (hch : geom_Check.f K g.f0 g.f1 g.f2 g.f3 g.f4 g.f5 = some 0) (hg : 0 ≤ g.f2 ∧ g.f2 ≤ 1000) (hn : 1 ≤ g.f3 ∧ g.f3 ≤ 4096) (w : World) :
    Calls Try.prog 5 #[encG g] w fun e w' => ∃ P B cap mb, e = .returned (.tuple #[.pointer (some ⟨P, 0, none⟩), .int .i64 0]) ∧ Below w.heap.size w w' ∧ Aside0 (SAt w.heap.size w'.heap.size g g.f3.toNat 1 (fun _ => repN 0 g.f2.toNat) (fun _ => onlyS (repN 0 g.f2.toNat)) P B cap mb w') := by
  obtain ⟨N, hN⟩ : ∃ N : Nat, g.f3 = N := ⟨g.f3.toNat, (Int.toNat_of_nonneg (by omega)).symm⟩
  have hN2 : g.f3.toNat = N := by omega
  rw [hN2]
  have q := Lib.hid (geom_Check.calls K g.f0 g.f1 g.f2 g.f3 g.f4 g.f5 0 (w.alloc (.cells #[.int .i64 g.f0, .int .i64 g.f1, .int .i64 g.f2, .int .i64 g.f3, .int .i64 g.f4, .int .i64 g.f5] 23)) hch)
  have hB := Aside0.mk ((Below.refl w.heap.size w).alloc (Nat.le_refl _) (.cells #[.int .i64 g.f0, .int .i64 g.f1, .int .i64 g.f2, .int .i64 g.f3, .int .i64 g.f4, .int .i64 g.f5] 23))
  have hx := heap_alloc_new w (.cells #[.int .i64 g.f0, .int .i64 g.f1, .int .i64 g.f2, .int .i64 g.f3, .int .i64 g.f4, .int .i64 g.f5] 23)
  have hu := Try.underlying23
  have hz := Lib.hid (show g.f3 = N ∧ 1 ≤ N ∧ N ≤ 4096 from ⟨hN, by omega, by omega⟩)
  have hg' := Lib.hid hg
  have qn := Lib.hid (fun (P : Nat) (w' : World) (hc : w'.cell? ⟨P, 2, none⟩ = some (.int .i64 g.f2)) => noughts_calls ⟨hc⟩ hg)
  have hs := Lib.hid (show (repN 0 g.f2.toNat).size ≤ maxLen from by rw [repN_size]; unfold maxLen; omega)
  generalize repN 0 g.f2.toNat = s at *
  clear hch hN hN2 hn hg hg'
  unfold encG
  go_enter Try.func5, Try.ntmps5
  go_wp2_with fail
  refine q.out.mono ?_
  rintro e w1 ⟨rfl, hb1⟩
  have hx1 := blk_below hx hb1
  have hB1 := Aside0.mk (hB.out.trans (hb1.mono hB.out.size))
  have c0 : w1.cell? ⟨w.heap.size, 0, none⟩ = some (.int .i64 g.f0) := blk_cell hx1 0
  have c1 : w1.cell? ⟨w.heap.size, 1, none⟩ = some (.int .i64 g.f1) := blk_cell hx1 1
  have c2 : w1.cell? ⟨w.heap.size, 2, none⟩ = some (.int .i64 g.f2) := blk_cell hx1 2
  have c3 : w1.cell? ⟨w.heap.size, 3, none⟩ = some (.int .i64 g.f3) := blk_cell hx1 3
  have c4 : w1.cell? ⟨w.heap.size, 4, none⟩ = some (.int .i64 g.f4) := blk_cell hx1 4
  have c5 : w1.cell? ⟨w.heap.size, 5, none⟩ = some (.int .i64 g.f5) := blk_cell hx1 5
  have hu59 := Try.underlying59
  clear q hb1 hx
  go_wp2_with fail
  have hp2 := heap_alloc_new w1 (.cells #[.int .i64 g.f0, .int .i64 g.f1, .int .i64 g.f2, .int .i64 g.f3, .int .i64 g.f4, .int .i64 g.f5, .slice none 0 0] 59)
  have hlo := Lib.hid (show w.heap.size ≤ w1.heap.size from hB1.out.size)
  have hB2 := Aside0.mk (hB1.out.alloc hlo.out (.cells #[.int .i64 g.f0, .int .i64 g.f1, .int .i64 g.f2, .int .i64 g.f3, .int .i64 g.f4, .int .i64 g.f5, .slice none 0 0] 59))
  have hx2 := blk_below hx1 ((Below.refl w1.heap.size w1).alloc (Nat.le_refl _) (.cells #[.int .i64 g.f0, .int .i64 g.f1, .int .i64 g.f2, .int .i64 g.f3, .int .i64 g.f4, .int .i64 g.f5, .slice none 0 0] 59))
  have q25 := Lib.hid (qn.out w1.heap.size (w1.alloc (.cells #[.int .i64 g.f0, .int .i64 g.f1, .int .i64 g.f2, .int .i64 g.f3, .int .i64 g.f4, .int .i64 g.f5, .slice none 0 0] 59)) (blk_cell hp2 2))
  generalize w1.alloc (.cells #[.int .i64 g.f0, .int .i64 g.f1, .int .i64 g.f2, .int .i64 g.f3, .int .i64 g.f4, .int .i64 g.f5, .slice none 0 0] 59) = W2 at *
  generalize w1.heap.size = P at *
  clear c0 c1 c2 c3 c4 c5 hx1 hB1 qn
  refine q25.out.mono ?_
  rintro e w3 ⟨rfl, hb3⟩
  have d3 : w3.cell? ⟨w.heap.size, 3, none⟩ = some (.int .i64 g.f3) := blk_cell (blk_below hx2 hb3) 3
  have HN := Aside0.mk (show NAt w.heap.size g s 0 P (.slice none 0 0) [] w w3 from ⟨blk_below hp2 hb3, Kd.R_nil _ _ _ _ _, rfl, fun x hx => absurd hx List.not_mem_nil, fun x hx => absurd hx List.not_mem_nil, List.nodup_nil, fun x hx => absurd hx List.not_mem_nil, hlo.out, rfl, hB2.out.trans (hb3.mono hB2.out.size)⟩)
  rw [hz.out.1] at d3
  clear hp2 hx2 hB2 q25 hb3 hB
  go_wp2
  go_loopw [19] (fun y wr => ∃ (k : Nat) (v : Value) (xs : List (ByteArray × Nat)), k ≤ N ∧ y = .int .i64 (k : Int) ∧ Aside0 (NAt w.heap.size g s k P v xs w wr)) (fun y _ => N - (intOf y).toNat)
  case atStart => exact ⟨0, _, _, Nat.zero_le _, rfl, HN⟩
  case round =>
    obtain ⟨k, v, xs, hk, rfl, HJ⟩ := hrel
    clear d3 HN
    by_cases hlt : k < N
    · have yk : decide ((k : Int) < (N : Int)) = true := decide_eq_true (by omega)
      have c6 : wr.cell? ⟨P, 6, none⟩ = some v := blk_cell HJ.out.st 6
      have hM1 : MapS Try.prog 9 (fun _ => none) 0 wr.heap.size (.map []) (wr.alloc (.map #[] 0)) := MapS.made wr
      obtain ⟨W4, D4, hrun4, hM4, ht4⟩ := hM1.store u9 u61 (by decide) s hs.out (.int .i64 1)
      rw [← mOf_none, mOf_upd] at hM4
      have hM5 : MapS Try.prog 9 (mOf (onlyS s)) 1 wr.heap.size D4 W4 := hM4
      have hb4 : Below wr.heap.size wr W4 := ((Ch.of_below (S := fun k => k = wr.heap.size) ((Below.refl wr.heap.size wr).alloc (Nat.le_refl _) (.map #[] 0))).trans (Ch.of_grown ht4.grown (fun k hk => (Option.some.inj hk).symm))).below (Nat.le_refl _) (fun k hk => by rw [hk]; exact Nat.le_refl _)
      have hst4 := blk_below HJ.out.st hb4
      have hrow4 := Kd.R_below HJ.out.row hb4
      have hbel4 := HJ.out.bel.trans (hb4.mono HJ.out.bel.size)
      have hlen := Lib.hid HJ.out.len
      have FA := Aside0.mk (And.intro hb4 (And.intro hM5 (And.intro hst4 (And.intro hrow4 hbel4))))
      clear hM1 hM4 hM5 ht4 hb4 hst4 hrow4 hbel4
      have hu63 := Try.underlying63
      have hmk := @run_makeMap Try.prog
      have hkk : k < 4096 := by have := hz.out; omega
      go_wp2_with (first | ((with_reducible refine gate_builtin (b := .append) (xs := #[.tmp 25, .tmp 31]) rfl ?_); at_builtin; refine Kd.R_append k63 (w0 := w) w.heap.size rfl (.tmp 25) (.tmp 31) 57 63 (.agg #[(.string ⟨#[]⟩), .map none]) 24 rfl Try.underlying57 info63 rfl (by decide) (by omega) v xs (s, wr.heap.size) [.string s, .map (some wr.heap.size)] (fun _ => True) (fun _ => False) rfl rfl ?aP (fun _ hk => hk.elim) ?aF ?aO ?aB ?aS ?aL ?_; (case aP => exact k63_mkM _ _ _ (s, wr.heap.size)); (case aF => exact (fun _ _ => trivial)); (case aO => exact FA.out.2.2.2.1); (case aB => exact FA.out.2.2.2.2); (case aS => exact FA.out.2.2.2.2.size); (case aL => have := hlen.out; have := hz.out; omega); intro v1 w8 ho hb hg hat; obtain ⟨A1, c1, he⟩ := Kd.R_slice ho; rw [List.length_append, List.length_singleton, hlen.out] at he; subst he; have hP8 := blk_grown FA.out.2.2.1 hg HJ.out.rowNe; have c8 : w8.cell? ⟨P, 6, none⟩ = some v := blk_cell hP8 6; have f8 : w8.frozen? ⟨P, 6, none⟩ = false := blk_frozen hP8 6; have F := Aside0.mk (HJ.out.next rfl FA.out.1 FA.out.2.1 ho hb hg); clear ho hb hg hat hP8 c6 hrun4) | fail)

      go_roundw
      case rel => exact ⟨k + 1, _, _, by omega, rfl, F⟩
      case measure => (simp [intOf]; omega)
    · obtain rfl : k = N := by omega
      have yk : decide ((k : Int) < (k : Int)) = false := decide_eq_false (by omega)
      obtain ⟨B, cap, mb, hS⟩ := HJ.out.done (by have := hz.out; omega) hz.out.2.2
      replace hS := Aside0.mk hS
      have hbel := Lib.hid HJ.out.bel
      clear HJ
      go_wp2
      go_ret2
      exact ⟨P, B, cap, mb, rfl, hbel.out, hS⟩
end
end Go.Proofs.Ytmpfadiehakcgaa.PQ
