/- A cache is asked, a node forgotten, walked. -/
import Derived.Test.YtilephiplfigpaaState
namespace Go.Proofs.Ytilephiplfigpaa.PQ
open Go.RowKit Go.Proofs.YtilephiplfigpaaW.PrintWords Go.Proofs.YtilephiplfigpaaW.PrintLast Go.Proofs.YtilephiplfigpaaW.PrintMore
set_option linter.unusedVariables false
set_option linter.unusedSimpArgs false
section
variable {b0 : Nat} {room hits misses : Int} {L : List EL} {P M : Nat} {D : DataW Value} {w w' : World}
theorem mapE_drop (hn : (L.map (·.lba)).Nodup) {i : Nat} {e : EL} (he : L[i]? = some e) : updZ (mapE L) e.lba none = mapE (L.eraseIdx i) := by
  have hn' := nodup_erase (i := i) (·.lba) hn
  funext a
  unfold updZ
  by_cases h : a = e.lba
  · rw [if_pos h, mapE_none]
    intro x hx
    rw [h]
    exact erase_ne hn he x hx
  · rw [if_neg h]
    rcases mapE_cases L a with ⟨j, x, hj, rfl⟩ | h1
    · have hx := List.mem_of_getElem? hj
      rw [mapE_mem hn hx]
      rcases (mem_erase he x).1 hx with rfl | hx2
      · exact absurd rfl h
      · rw [mapE_mem hn' hx2]
    · rw [mapE_none h1, mapE_none (fun x hx => h1 x ((mem_erase he x).2 (.inr hx)))]
set_option maxHeartbeats 4000000 in
theorem forget_calls {i : Nat} {e : EL} (H : Aside0 (LAt b0 room hits misses L P M D w)) (he : L[i]? = some e) :
    Calls Try.prog 20 #[.pointer (some ⟨P, 0, none⟩), .pointer (some ⟨e.b, 0, none⟩)] w fun e' w' => e' = .returned (.tuple #[]) ∧ Aside0 ((∃ D', LAt b0 room hits misses (L.eraseIdx i) P M D' w') ∧ w'.heap[e.b]? = some (.cells #[.int .i64 e.lba, .string e.data, .pointer none, .pointer none] 49 (0, 0)) ∧ Ch (LB P M L) w w') := by
  have hm := List.mem_of_getElem? he
  have hu := Lib.hid (Ring.unlink ⟨H.out.ring⟩ he)
  obtain ⟨hi, _⟩ := List.getElem?_eq_some_iff.1 he
  go_enter Try.func20, Try.ntmps20
  go_wp2_with fail
  refine hu.out.mono ?_
  rintro e' w1 ⟨rfl, hR, hb, hC⟩
  have hM : ¬ RB P L M := by
    rintro (h | h)
    · exact H.out.mp h
    · obtain ⟨x, hx, h2⟩ := List.mem_map.1 h
      exact H.out.mb x hx h2
  have h1 := H.out.map.same (hC.block M H.out.map.lt hM)
  obtain ⟨w4, D4, hrun, HM4, ht⟩ := (h1.same (w' := w1.drew) rfl).drop (t := 46) u3 u46 e.lba (H.out.wf e hm) 0
  rw [mapE_drop H.out.nd he, mapE_mem H.out.nd hm] at HM4
  have hlen : L.length - 1 = (L.eraseIdx i).length := by rw [List.length_eraseIdx_of_lt hi]
  rw [show (if (some (ptrE e)).isSome = true then L.length - 1 else L.length) = L.length - 1 from rfl, hlen] at HM4
  have d0 : w1.cell? ⟨P, 5, none⟩ = some (.map (some M)) := blk_cell hR.root 5
  have b0' : w1.cell? ⟨e.b, 0, none⟩ = some (.int .i64 e.lba) := blk_cell hb 0
  have hg : w1.grownBy w4 (some M) := World.grownBy.trans (⟨rfl, rfl, rfl, Nat.le_refl _, fun _ _ _ => rfl⟩ : w1.grownBy w1.drew (some M)) ht.grown
  have hR4 : Ring P M room hits misses (L.eraseIdx i) w4 := RingV.same hR (fun k hk => by
    have hk2 : RB P L k := hk.elim .inl (fun h => by
      obtain ⟨x, hx, rfl⟩ := List.mem_map.1 h
      exact .inr (List.mem_map_of_mem (List.mem_of_mem_eraseIdx hx)))
    refine hg.block k ?_ (fun e => hM ((Option.some.inj e) ▸ hk2))
    rcases hk with rfl | h
    · exact blk_lt hR.root
    · obtain ⟨x, hx, rfl⟩ := List.mem_map.1 h
      obtain ⟨j, hj⟩ := List.mem_iff_getElem?.1 hx
      exact blk_lt (hR.node j x hj))
  have hb4 := blk_grown hb hg (fun h => H.out.mb e hm (Option.some.inj h))
  have hC4 : Ch (LB P M L) w w4 := (hC.mono (fun k hk _ => hk.elim .inl (fun h => .inr (.inr h)))).trans (Ch.of_grown hg (fun k h => .inr (.inl (Option.some.inj h).symm)))
  have F := Aside0.mk (And.intro hR4 (And.intro HM4 (And.intro hb4 hC4)))
  clear hu hR hb hC HM4 ht hg hR4 hb4 hC4 h1
  obtain ⟨B, lb, dt⟩ := e
  dsimp only at *
  go_wp2_with fail
  go_region
  go_wp2
  go_end0
  obtain ⟨f1, f2, f3, f4⟩ := F.out
  exact ⟨rfl, ⟨⟨D4, ⟨f1, f2, nodup_erase _ H.out.nd, fun x hx => H.out.wf x (List.mem_of_mem_eraseIdx hx), H.out.mp, fun x hx => H.out.mb x (List.mem_of_mem_eraseIdx hx), H.out.lp, H.out.lm, fun x hx => H.out.lb x (List.mem_of_mem_eraseIdx hx)⟩⟩, f3, f4⟩⟩
theorem len_calls (H : Aside0 (LAt b0 room hits misses L P M D w)) : Calls Try.prog 12 #[.pointer (some ⟨P, 0, none⟩)] w fun e w' => e = .returned (.int .i64 L.length) ∧ w' = w := by
  have d5 := H.out.cells.2.2.2.1
  have hl := H.out.map.len u46 3
  have hl2 := fun ty => H.out.map.len u46 ty
  go_enter Try.func12, Try.ntmps12
  go_wp2
  go_ret
  exact ⟨rfl, rfl⟩
theorem hits_calls (H : Aside0 (LAt b0 room hits misses L P M D w)) : Calls Try.prog 27 #[.pointer (some ⟨P, 0, none⟩)] w fun e w' => e = .returned (.tuple #[.int .i64 hits, .int .i64 misses]) ∧ Below w.heap.size w w' := by
  obtain ⟨_, _, _, _, d6, d7⟩ := H.out.cells
  go_enter Try.func27, Try.ntmps27
  go_wp2
  go_quiet (fail)
  go_wp2
  go_ret2
  exact ⟨rfl, pw_below_drewN (Below.refl _ _) _⟩
theorem peek_calls (H : Aside0 (LAt b0 room hits misses L P M D w)) (a : Int) (ha : (Lit.int .i64 a).wf = true) (s : ByteArray) (ok : Bool)
    (hs : (∃ (i : Nat) (e : EL), L[i]? = some e ∧ e.lba = a ∧ s = e.data ∧ ok = true) ∨ ((∀ e ∈ L, e.lba ≠ a) ∧ s = ByteArray.empty ∧ ok = false)) :
    Calls Try.prog 10 #[.pointer (some ⟨P, 0, none⟩), .int .i64 a] w fun e w' => e = .returned (.tuple #[.string s, .bool ok]) ∧ Below w.heap.size w w' := by
  have d5 := H.out.cells.2.2.2.1
  rcases hs with ⟨i, e, he, rfl, rfl, rfl⟩ | ⟨hn, rfl, rfl⟩
  · have hl := H.out.found he
    have hd : w.cell? ⟨e.b, 1, none⟩ = some (.string e.data) := blk_cell (H.out.ring.node i e he) 1
    clear H he
    obtain ⟨B, lb, dt⟩ := e
    dsimp only at *
    go_enter Try.func10, Try.ntmps10
    go_wp2
    go_ret2
    exact ⟨rfl, Below.refl _ _⟩
  · have hl := H.out.missed ha hn
    clear H hn
    go_enter Try.func10, Try.ntmps10
    go_wp2
    go_ret2
    exact ⟨rfl, Below.refl _ _⟩
end
end Go.Proofs.Ytilephiplfigpaa.PQ
