/- Collect and Take, walked. -/
import Derived.Test.YtkamgpjpnjikgaaSeq
namespace Go.Proofs.Ytkamgpjpnjikgaa.PQ
open Go.RowKit Go.Proofs.YtkamgpjpnjikgaaW.PrintWords Go.Proofs.YtkamgpjpnjikgaaW.PrintLast Go.Proofs.YtkamgpjpnjikgaaW.PrintMore Go.Shelf
set_option linter.unusedVariables false
set_option linter.unusedSimpArgs false
theorem mapL_nil (a : Int) : mapL [] a = none := rfl
theorem mapL_cons (x : S27) (L : List S27) (a : Int) : mapL (x :: L) a = if a = x.f1 then some (encR x) else mapL L a := by
  unfold mapL
  by_cases e : a = x.f1
  · rw [if_pos e, List.find?_cons_of_pos (by simpa using e.symm)]; rfl
  · rw [if_neg e, List.find?_cons_of_neg (by simpa using fun h => e h.symm)]
theorem mapL_none {L : List S27} {a : Int} (h : ∀ x ∈ L, x.f1 ≠ a) : mapL L a = none := by
  unfold mapL
  rw [List.find?_eq_none.2 (fun x hx => by simpa using h x hx)]
  rfl
theorem mapL_drop {L : List S27} (hn : (L.map (·.f1)).Nodup) {k : Nat} (hk : k < L.length) : updZ (mapL (L.drop k)) (L[k]).f1 none = mapL (L.drop (k + 1)) := by
  funext a
  have hd : L.drop k = L[k] :: L.drop (k + 1) := List.drop_eq_getElem_cons hk
  unfold updZ
  rw [hd, mapL_cons]
  by_cases e : a = (L[k]).f1
  · subst e
    rw [if_pos rfl]
    refine (mapL_none fun x hx => ?_).symm
    have h2 : ((L.drop k).map (·.f1)).Nodup := by rw [List.map_drop]; exact hn.sublist (List.drop_sublist _ _)
    rw [hd, List.map_cons, List.nodup_cons] at h2
    intro e2
    exact h2.1 (by rw [← e2]; exact List.mem_map_of_mem hx)
  · rw [if_neg e, if_neg e]
theorem collect_calls (b0 : Nat) (L : List S27) (P M : Nat) (ov : Value) (D : DataW Value) (X : Nat) (w : World) (hL : L.length ≤ 100000) (hX : Aside0 (Boxed w X 23 (.pointer (some ⟨P, 0, none⟩)))) (H : Aside0 (PAt b0 L P M ov D w)) :
    Calls Try.prog 20 #[.func (.func 24) #[] #[.pointer (some ⟨X, 0, none⟩)]] w fun e w' => Aside0 (∃ v, e = .returned v ∧ Kd.R k27 27 w' w.heap.size (fun _ => True) v L ∧ Below w.heap.size w w') := by
  have hc := Lib.hid (appendSeq_calls b0 L P M ov D X w hL hX H)
  go_enter Try.func20, Try.ntmps20
  go_wp2_with fail
  refine hc.out.mono ?_
  rintro e w1 ⟨v, rfl, hR, hb⟩
  replace hR := Aside0.mk hR
  replace hb := Aside0.mk hb
  go_wp2
  go_ret
  exact ⟨⟨_, rfl, hR.out, hb.out⟩⟩
set_option maxHeartbeats 4000000 in
theorem take_calls (b0 : Nat) (L : List S27) (P M : Nat) (ov : Value) (D : DataW Value) (w : World) (hL : L.length ≤ 100000) (H : Aside0 (PAt b0 L P M ov D w)) :
    Calls Try.prog 8 #[.pointer (some ⟨P, 0, none⟩)] w fun e w' => Aside0 (∃ v D', e = .returned v ∧ Kd.R k27 27 w' w.heap.size (fun _ => True) v L ∧ PAt b0 [] P M (.slice none 0 0) D' w' ∧ Ch (PB P M ov) w w') := by
  have hall := Lib.hid (all_calls P w)
  go_enter Try.func8, Try.ntmps8
  go_wp2_with fail
  refine hall.out.mono ?_
  rintro e w1 ⟨rfl, rfl⟩
  have hb1 : Below w.heap.size w (w.alloc (.cells #[.pointer (some ⟨P, 0, none⟩)] 23)) := (Below.refl _ w).alloc (Nat.le_refl _) _
  have hc := Lib.hid (collect_calls b0 L P M ov D w.heap.size (w.alloc (.cells #[.pointer (some ⟨P, 0, none⟩)] 23)) hL ⟨Boxed.new w 23 _⟩ ⟨H.out.below hb1⟩)
  replace hb1 := Aside0.mk hb1
  clear hall
  go_wp2_with fail
  refine hc.out.mono ?_
  rintro e w2 ⟨v, rfl, hR, hb⟩
  clear hc
  have hb2 := hb1.out.trans (hb.mono hb1.out.size)
  have H2 := H.out.below hb2
  obtain ⟨A, c, hov⟩ := Kd.R_slice H2.row
  rw [List.length_map] at hov
  subst hov
  have d0 := H2.cells.1
  have d1 := H2.cells.2
  replace hR := Aside0.mk (Kd.R_lower hR hb1.out.size)
  replace hb2 := Aside0.mk hb2
  replace H2 := Aside0.mk H2
  clear hb hb1
  generalize w.alloc (.cells #[.pointer (some ⟨P, 0, none⟩)] 23) = w9 at *
  go_wp2
  go_loopw [14] (fun i wr => ∃ k : Nat, k ≤ L.length ∧ i = .int .i64 k ∧ Aside0 (∃ Dk, MapZ Try.prog 3 (mapL (L.drop k)) (L.length - k) M Dk wr ∧ w2.grownBy wr (some M))) (fun i _ => L.length - (intOf i).toNat)
  case atStart => exact ⟨0, Nat.zero_le _, rfl, ⟨D, H2.out.map, World.grownBy.refl _ _⟩⟩
  case round =>
    obtain ⟨k, hk, rfl, ⟨Dk, HM, hg⟩⟩ := hrel
    clear d0 d1
    by_cases hlt : k < L.length
    · have z2 : decide ((k : Int) < L.length) = true := decide_eq_true (by omega)
      have HRw := Kd.R_grown H2.out.row hg (fun q hq e => hq.2 (Option.some.inj e))
      obtain ⟨g, c', hf⟩ := R_form HRw (by rw [List.length_map]; omega)
      rw [List.length_map] at hf
      cases hf
      have hcl := Kd.R_celln (n := L.length) 0 HRw (k : Int) (by omega) (by omega)
      rw [Int.toNat_natCast] at hcl
      have hr9 : rdOf (0 : Int) (L.map (·.f1)) (k : Int) = (L[k]).f1 := by
        unfold rdOf
        rw [Int.toNat_natCast, List.getD_eq_getElem?_getD, List.getElem?_eq_getElem (by rw [List.length_map]; exact hlt), List.getElem_map]
        rfl
      rw [hr9] at hcl
      have c0 := hcl.1
      have d0 : wr.cell? ⟨P, 0, none⟩ = some (.map (some M)) := blk_cell (blk_grown H2.out.head hg (fun e => H2.out.ne (Option.some.inj e))) 0
      obtain ⟨w4, D4, hrun, HM4, ht⟩ := HM.drop (t := 45) u3 u45 (L[k]).f1 (H2.out.wf _ (List.getElem_mem hlt)) 0
      rw [mapL_drop H2.out.nd hlt] at HM4
      have hs : (mapL (L.drop k) (L[k]).f1).isSome = true := by
        rw [List.drop_eq_getElem_cons hlt, mapL_cons, if_pos rfl]
        rfl
      rw [if_pos hs] at HM4
      have hn := Aside0.mk (show ∃ Dk, MapZ Try.prog 3 (mapL (L.drop (k + 1))) (L.length - (k + 1)) M Dk w4 ∧ w2.grownBy w4 (some M) from ⟨D4, HM4, hg.trans ht.grown⟩)
      clear HM HM4 hs ht hcl hr9 hg HRw
      generalize (L[k]).f1 = y at *
      go_wp2
      go_roundw
      case rel => exact ⟨k + 1, by omega, by go_num, hn⟩
      case measure => simp [intOf]; omega
    · obtain rfl : k = L.length := by omega
      have z2 : decide ((L.length : Int) < L.length) = false := decide_eq_false (by omega)
      have hP : wr.heap[P]? = some (.cells #[.map (some M), .slice A L.length c] 48 (0, 0)) := blk_grown H2.out.head hg (fun e => H2.out.ne (Option.some.inj e))
      have d1 : wr.cell? ⟨P, 1, none⟩ = some (.slice A L.length c) := blk_cell hP 1
      have f1 := blk_frozen hP 1
      rw [List.drop_length, Nat.sub_self] at HM
      replace hP := Aside0.mk hP
      replace HM := Aside0.mk HM
      replace hg := Aside0.mk hg
      go_wp2
      go_ret
      have hgs := grown_set wr P 1 (.slice none 0 0)
      refine ⟨⟨v, Dk, rfl, ?_, ⟨blk_put hP.out 1 _ rfl, Kd.R_nil _ _ _ _ _, ?_, List.nodup_nil, H.out.ne, H.out.lp, H.out.lm, fun r hr => by cases hr⟩, ?_⟩⟩
      · have h1 : Kd.R k27 27 (wr.setCell ⟨P, 1, none⟩ (.slice none 0 0)) w.heap.size (fun k => w.heap.size ≤ k) v L := by
          refine Kd.R_grown (Kd.R_grown (Kd.R_mono (Kd.R_bound hR.out) (fun k hk => hk.2.1)) hg.out (fun k hk e => ?_)) hgs (fun k hk e => ?_)
          · have := H.out.lt M (.inr (.inl rfl)); cases e; omega
          · have := H.out.lt P (.inl rfl); cases e; omega
        exact Kd.R_mono h1 (fun _ _ => trivial)
      · exact HM.out.kept hgs (fun e => H.out.ne (Option.some.inj e).symm)
      · exact ((Ch.of_below hb2.out).trans (Ch.of_grown hg.out (fun k e => .inr (.inl (Option.some.inj e).symm)))).trans (Ch.of_grown hgs (fun k e => .inl (Option.some.inj e).symm))
end Go.Proofs.Ytkamgpjpnjikgaa.PQ
