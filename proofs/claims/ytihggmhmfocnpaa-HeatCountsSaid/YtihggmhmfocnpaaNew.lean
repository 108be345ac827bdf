/- A heat is made, walked. -/
import Derived.Test.YtihggmhmfocnpaaTouch
namespace Go.Proofs.Ytihggmhmfocnpaa.PQ
open Go.RowKit Go.Proofs.YtihggmhmfocnpaaW.PrintWords Go.Proofs.YtihggmhmfocnpaaW.PrintLast Go.Proofs.YtihggmhmfocnpaaW.PrintMore
set_option linter.unusedVariables false
set_option linter.unusedSimpArgs false
theorem info5h : (Try.prog.info? 5).map (fun i => (i.zero, i.size, i.bytes)) = some (some (.int .u8 0), 1, 1) := by kernel_rfl
/-- A heat that was made since w0. -/
structure Own (cs : List Int) (t : Int) (P B c : Nat) (w0 w : World) : Prop where
  at_ : HAt cs t P B c w
  ok : OkC cs t
  bel : Below w0.heap.size w0 w
  ge : w0.heap.size ≤ P ∧ w0.heap.size ≤ B
section
variable {cs : List Int} {t : Int} {P B c : Nat} {w0 w w' : World}
theorem Own.below (h : Own cs t P B c w0 w) (hb : Below w.heap.size w w') : Own cs t P B c w0 w' := ⟨h.at_.below hb, h.ok, h.bel.trans (hb.mono h.bel.size), h.ge⟩
theorem Own.touch (h : Own cs t P B c w0 w) (i : Nat) (hi : i < cs.length) : Calls Try.prog 8 #[.pointer (some ⟨P, 0, none⟩), .int .i64 (i : Int)] w fun e w' => e = .returned (.int .i64 0) ∧ Aside0 (Own (touchC cs t i).1 (touchC cs t i).2 P B c w0 w' ∧ Ch (fun k => k = P ∨ k = B) w w') := by
  refine (touch_calls cs t P B c w i hi ⟨h.at_⟩ ⟨h.ok⟩).mono ?_
  rintro e w' ⟨rfl, ⟨h1, h2⟩⟩
  exact ⟨rfl, ⟨⟨h1, h.ok.touch i, h.bel.trans (h2.below h.bel.size (fun k e => by have := h.ge; omega)), h.ge⟩, h2⟩⟩
end
theorem OkC.zero (n : Nat) (h1 : 1 ≤ n) (h2 : n ≤ 4096) : OkC (List.replicate n 0) 0 := by
  refine ⟨fun x hx => ?_, ?_, ?_⟩
  · rw [List.eq_of_mem_replicate hx]; omega
  · rw [List.length_replicate]; exact ⟨h1, h2⟩
  · rw [List.length_replicate]; omega
set_option maxHeartbeats 4000000 in
set_option maxRecDepth 100000 in
theorem new_no (n : Int) (w : World) (h : ¬ (1 ≤ n ∧ n ≤ 4096)) : Calls Try.prog 6 #[.int .i64 n] w fun e w' => e = .returned (.tuple #[.pointer none, .int .i64 1]) ∧ w' = w := by
  by_cases h1 : n < 1
  · have z : decide (n < 1) = true := decide_eq_true h1
    go_enter Try.func6, Try.ntmps6
    go_wp2
    go_ret2
    exact ⟨rfl, rfl⟩
  · have z : decide (n < 1) = false := decide_eq_false h1
    have z2 : decide (4096 < n) = true := decide_eq_true (by omega)
    go_enter Try.func6, Try.ntmps6
    go_wp2
    go_ret2
    exact ⟨rfl, rfl⟩
theorem own_new (n : Nat) (h1 : 1 ≤ n) (h2 : n ≤ 4096) (w w1 : World) (v : Value) (hR : Kd.R (Kd.int .u8) 5 w1 w.heap.size (fun _ => True) v (List.replicate n 0)) (hb : Below w.heap.size w w1) :
    ∃ B c, v = .slice (some ⟨B, 0, none⟩) n c ∧ Own (List.replicate n 0) 0 w1.heap.size B c w (w1.alloc (.cells #[v, .int .i64 0] 48)) := by
  obtain ⟨B, c, rfl, hB, hlt, _⟩ := Kd.R_form hR (by rw [List.length_replicate]; omega)
  have hl : (List.replicate n (0 : Int)).length = n := List.length_replicate
  refine ⟨B, c, by rw [hl], ⟨⟨heap_alloc_new w1 _, ?_⟩, OkC.zero n h1 h2, hb.alloc hb.size _, hb.size, hB⟩⟩
  have hR2 := Kd.R_alloc hR (.cells #[.slice (some ⟨B, 0, none⟩) (List.replicate n (0 : Int)).length c, .int .i64 0] 48)
  obtain ⟨q1, inner, q2, q3⟩ := hR2
  refine ⟨fun k hk => by cases hk; rfl, inner, ?_, q3.imp_ (fun _ _ hp => hp)⟩
  obtain ⟨r1, r2⟩ := q2
  refine ⟨r1, ?_⟩
  rcases r2 with r2 | ⟨g, cap, cur, hv, r⟩
  · exact .inl r2
  · refine .inr ⟨g, cap, cur, hv, ?_⟩
    injection hv with hg _ _
    injection hg with hg
    injection hg with hg _ _
    subst hg
    exact ⟨Nat.le_refl _, r.2⟩
set_option maxHeartbeats 4000000 in
set_option maxRecDepth 100000 in
theorem new_calls (n : Nat) (w : World) (h1 : 1 ≤ n) (h2 : n ≤ 4096) : Calls Try.prog 6 #[.int .i64 (n : Int)] w fun e w' => Aside0 (∃ P B c, e = .returned (.tuple #[.pointer (some ⟨P, 0, none⟩), .int .i64 0]) ∧ Own (List.replicate n 0) 0 P B c w w') := by
  have z : decide ((n : Int) < 1) = false := decide_eq_false (by omega)
  have z2 : decide (4096 < (n : Int)) = false := decide_eq_false (by omega)
  go_enter Try.func6, Try.ntmps6
  go_wp2_with ((with_reducible refine gate_dst (N := 11) rfl ?_); refine Kd.R_make (Kd.int .u8) w.heap.size 5 rfl (N := 11) rfl 46 _ _ rfl (n : Int) rfl rfl Try.underlying46 (.int .u8 0) 1 info5h rfl (by decide) (by omega) 0 (ok := fun _ => True) (okp := fun _ => True) rfl (fun _ hk => hk) trivial (by omega) (by omega) (Below.refl _ _) (Nat.le_refl _) ?_; intro v1 w3 ho hb hg hn; clear hg hn; rw [Int.toNat_natCast] at ho; (obtain ⟨B, c, rfl, HO⟩ := own_new n h1 h2 w w3 v1 ho hb); have HO1 := Aside0.mk HO; clear HO ho hb)
  go_ret2
  exact ⟨⟨_, B, c, rfl, HO1.out⟩⟩
end Go.Proofs.Ytihggmhmfocnpaa.PQ
