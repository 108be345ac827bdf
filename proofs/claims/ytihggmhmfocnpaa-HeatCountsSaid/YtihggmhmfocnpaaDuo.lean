/- The code's heat and the document's, side by side. -/
import Derived.Test.YtihggmhmfocnpaaRef
namespace Go.Proofs.Ytihggmhmfocnpaa.PQ
open Go.RowKit Go.Proofs.YtihggmhmfocnpaaW.PrintWords Go.Proofs.YtihggmhmfocnpaaW.PrintLast Go.Proofs.YtihggmhmfocnpaaW.PrintMore
set_option linter.unusedVariables false
set_option linter.unusedSimpArgs false
/-- The code's heat (cs, t) and the document's (ds, u, in the box X, its row in A), side by side. -/
structure Duo (cs : List Int) (t : Int) (ds : List Int) (u : Int) (P B c X A cap : Nat) (w0 w : World) : Prop where
  own : Own cs t P B c w0 w
  box : w.heap[X]? = some (.cells #[.slice (some ⟨A, 0, none⟩) ds.length cap, .int .i64 u] 29 (0, 0))
  row : Kd.R (Kd.int .i64) 3 w 0 (fun k => k = A) (.slice (some ⟨A, 0, none⟩) ds.length cap) ds
  ne : A ≠ P ∧ A ≠ B ∧ A ≠ X ∧ X ≠ P ∧ X ≠ B
  lt : A < w.heap.size ∧ B < w.heap.size
  ge : w0.heap.size ≤ X
section
variable {cs ds ds' cs' : List Int} {t u t' u' : Int} {P B c X A cap : Nat} {w0 w w' : World}
theorem Duo.below (h : Duo cs t ds u P B c X A cap w0 w) (hb : Below w.heap.size w w') : Duo cs t ds u P B c X A cap w0 w' :=
  ⟨h.own.below hb, blk_below h.box hb, Kd.R_below h.row hb, h.ne, ⟨Nat.lt_of_lt_of_le h.lt.1 hb.size, Nat.lt_of_lt_of_le h.lt.2 hb.size⟩, h.ge⟩
theorem Duo.alloc (h : Duo cs t ds u P B c X A cap w0 w) (o : Obj) : Duo cs t ds u P B c X A cap w0 (w.alloc o) := h.below ((Below.refl _ _).alloc (Nat.le_refl _) _)
theorem Duo.drew (h : Duo cs t ds u P B c X A cap w0 w) : Duo cs t ds u P B c X A cap w0 w.drew := h.below (drawn_any ⟨⟨1, rfl⟩⟩)
theorem Duo.drewN (h : Duo cs t ds u P B c X A cap w0 w) (n : Nat) : Duo cs t ds u P B c X A cap w0 (w.drewN n) := h.below (drawn_any ⟨⟨n, rfl⟩⟩)
theorem Duo.drawn (h : Duo cs t ds u P B c X A cap w0 w) (hd : Drawn0 w w') : Duo cs t ds u P B c X A cap w0 w' := h.below (drawn_any hd)
theorem Duo.ch (h : Duo cs t ds u P B c X A cap w0 w) (o : Own cs' t' P B c w0 w') (hc : Ch (fun k => k = P ∨ k = B) w w') : Duo cs' t' ds u P B c X A cap w0 w' := by
  have hn := h.ne
  refine ⟨o, (hc.block X (blk_lt h.box) (by omega)).trans h.box, Kd.R_step h.row (fun k hk hlt => hc.block k hlt (by omega)), hn, ⟨Nat.lt_of_lt_of_le h.lt.1 hc.size, Nat.lt_of_lt_of_le h.lt.2 hc.size⟩, h.ge⟩
theorem Duo.grown (h : Duo cs t ds u P B c X A cap w0 w) {g : Nat} (hg : w.grownBy w' (some g)) (h0 : w0.heap.size ≤ g) (hA : A ≠ g) (hB : B ≠ g) (hP : P ≠ g) (hX : X ≠ g) : Duo cs t ds u P B c X A cap w0 w' := by
  have hs : w.heap.size ≤ w'.heap.size := hg.size
  refine ⟨⟨⟨blk_grown h.own.at_.head hg (fun e => hP (Option.some.inj e)), Kd.R_grown h.own.at_.row hg (fun k hk e => hB (hk.symm.trans (Option.some.inj e)))⟩, h.own.ok, h.own.bel.grown hg h.own.bel.size (fun j hj => by cases hj; exact h0), h.own.ge⟩, blk_grown h.box hg (fun e => hX (Option.some.inj e)), Kd.R_grown h.row hg (fun k hk e => hA (hk.symm.trans (Option.some.inj e))), h.ne, ⟨Nat.lt_of_lt_of_le h.lt.1 hs, Nat.lt_of_lt_of_le h.lt.2 hs⟩, h.ge⟩
theorem Duo.plt (h : Duo cs t ds u P B c X A cap w0 w) : P < w.heap.size ∧ X < w.heap.size := ⟨blk_lt h.own.at_.head, blk_lt h.box⟩
theorem Duo.readC (h : Duo cs t ds u P B c X A cap w0 w) : Kd.C (Kd.int .i64) w (some ⟨A, 0, none⟩) ds.length ds ∧ ds.length ≤ cap := ⟨(Kd.R_reads' h.row).2.2, (Kd.R_reads' h.row).2.1⟩
theorem Duo.cells (h : Duo cs t ds u P B c X A cap w0 w) : w.cell? ⟨X, 0, none⟩ = some (.slice (some ⟨A, 0, none⟩) ds.length cap) ∧ w.cell? ⟨X, 1, none⟩ = some (.int .i64 u) := ⟨blk_cell h.box 0, blk_cell h.box 1⟩
theorem Duo.elem (h : Duo cs t ds u P B c X A cap w0 w) (i : Nat) (hi : i < ds.length) : w.cell? ⟨A, i, none⟩ = some (.int .i64 (rd ds i)) := by
  have := Kd.R_celln 0 h.row (i : Int) (by omega) (by omega)
  rw [Int.toNat_natCast] at this
  exact this.1
theorem getDuo {p q r : Prop} (h : p ∧ q ∧ r ∧ Aside0 (Duo cs t ds u P B c X A cap w0 w)) : Duo cs t ds u P B c X A cap w0 w := h.2.2.2.out
theorem Duo.renew (h : Duo cs t ds u P B c X A cap w0 w) (hb : Below w.heap.size w w') {v : Value} (hR : Kd.R (Kd.int .i64) 3 w' w.heap.size (fun _ => True) v ds') (hl : 0 < ds'.length) (u' : Int) :
    ∃ A' cap', v = .slice (some ⟨A', 0, none⟩) ds'.length cap' ∧ Duo cs t ds' u' P B c X A' cap' w0 ((w'.setCell ⟨X, 0, none⟩ v).setCell ⟨X, 1, none⟩ (.int .i64 u')) := by
  obtain ⟨A', cap', rfl, hA, hlt, _⟩ := Kd.R_form hR hl
  have hn := h.ne
  have hp := h.plt
  have hl2 := h.lt
  have hk := h.below hb
  have e1 : ∀ k, k ≠ X → ((w'.setCell ⟨X, 0, none⟩ (.slice (some ⟨A', 0, none⟩) ds'.length cap')).setCell ⟨X, 1, none⟩ (.int .i64 u')).heap[k]? = w'.heap[k]? := fun k hk => by
    rw [Below.heap_setCell _ _ _ _ hk, Below.heap_setCell _ _ _ _ hk]
  have es : ((w'.setCell ⟨X, 0, none⟩ (.slice (some ⟨A', 0, none⟩) ds'.length cap')).setCell ⟨X, 1, none⟩ (.int .i64 u')).heap.size = w'.heap.size := by simp [World.setCell]
  refine ⟨A', cap', rfl, ⟨⟨⟨(e1 P (by omega)).trans hk.own.at_.head, Kd.R_step hk.own.at_.row (fun k hk _ => e1 k (by omega))⟩, hk.own.ok, ?_, hk.own.ge⟩, ?_, ?_, by omega, by rw [es]; exact ⟨hlt, by have := hb.size; omega⟩, h.ge⟩⟩
  · exact (hk.own.bel.setCell h.ge _).setCell h.ge _
  · exact blk_set (blk_set hk.box 0 _) 1 _
  · refine Kd.R_step (Kd.R_lower (Kd.R_reok rfl hR (ok := fun k => k = A') (fun k hk => (Option.some.inj hk).symm)) (Nat.zero_le _)) (fun k hk _ => e1 k (by omega))
end
set_option maxHeartbeats 4000000 in
set_option maxRecDepth 100000 in
theorem spoil_some (g n : Nat) (cur : Array Value) (w : World) (hn : n ≤ 4096) (h : w.heap[g]? = some (.cells cur 3 (0, 0))) (hc : n ≤ cur.size) :
    Calls Try.prog 19 #[.slice (some ⟨g, 0, none⟩) n n] w fun e w' => e = .returned (.tuple #[]) ∧ w.grownBy w' (some g) := by
  have H0 := Aside0.mk h
  clear h
  go_enter Try.func19, Try.ntmps19
  go_wp2
  go_loopw [5] (fun i wr => ∃ (k : Nat) (cu : Array Value), k ≤ n ∧ i = .int .i64 k ∧ Aside0 (n ≤ cu.size ∧ wr.heap[g]? = some (.cells cu 3 (0, 0))) ∧ Aside0 (w.grownBy wr (some g))) (fun i _ => n - (intOf i).toNat)
  case atStart => exact ⟨0, cur, Nat.zero_le _, rfl, ⟨hc, H0.out⟩, ⟨World.grownBy.refl _ _⟩⟩
  case round =>
    clear H0
    obtain ⟨k, cu, hk, rfl, HO, HG⟩ := hrel
    by_cases hlt : k < n
    · have hx : ∃ x, wr.cell? ⟨g, k, none⟩ = some x := ⟨_, (blk_cell HO.out.2 k).trans (Array.getElem?_eq_getElem (by have := HO.out.1; omega))⟩
      obtain ⟨x, hx⟩ := hx
      have hf := blk_frozen HO.out.2 k
      have hP1 : Aside0 (n ≤ (cu.setIfInBounds k (.int .i64 1099511627776)).size ∧ (wr.setCell ⟨g, k, none⟩ (.int .i64 1099511627776)).heap[g]? = some (.cells (cu.setIfInBounds k (.int .i64 1099511627776)) 3 (0, 0))) := ⟨by rw [Array.size_setIfInBounds]; exact HO.out.1, blk_set HO.out.2 k _⟩
      have hP2 : Aside0 (w.grownBy (wr.setCell ⟨g, k, none⟩ (.int .i64 1099511627776)) (some g)) := ⟨HG.out.trans ⟨rfl, rfl, rfl, by simp [World.setCell], fun k _ hk => Below.heap_setCell _ _ _ k (fun e => hk (by rw [e]))⟩⟩
      clear HO HG
      go_wp2
      go_roundw
      case rel => exact ⟨k + 1, _, by omega, by go_num, hP1, hP2⟩
      case measure => simp [intOf]; omega
    · obtain rfl : k = n := by omega
      go_wp2
      go_end0
      exact ⟨rfl, HG.out⟩
set_option maxHeartbeats 1000000 in
set_option maxRecDepth 100000 in
theorem spoil_none (A : Option Addr) (c : Nat) (w : World) :
    Calls Try.prog 19 #[.slice A 0 c] w fun e w' => e = .returned (.tuple #[]) ∧ w' = w := by
  go_enter Try.func19, Try.ntmps19
  go_wp2
  go_loopw [5] (fun i wr => i = .int .i64 0 ∧ wr = w) (fun _ _ => 0)
  case atStart => exact ⟨rfl, rfl⟩
  case round =>
    obtain ⟨rfl, rfl⟩ := hrel
    go_wp2
    go_end0
    exact ⟨rfl, rfl⟩
/-- What a rank returned is spoilt: both heats stay. -/
theorem spoil_duo {cs ds : List Int} {t u : Int} {P B c X A cap : Nat} {w0 w w1 w2 : World} {l : List Int} {v : Value} (h : Duo cs t ds u P B c X A cap w0 w) (hl : l.length ≤ 4096) (hR : Ranked l w v w1) (hb : Below w1.heap.size w1 w2) :
    Calls Try.prog 19 #[v] w2 fun e w' => e = .returned (.tuple #[]) ∧ Aside0 (Duo cs t ds u P B c X A cap w0 w') := by
  obtain ⟨A1, rfl, hC, hB⟩ := hR.read
  have hd := (h.below hR.bel).below hb
  by_cases hn : 0 < l.length
  · obtain ⟨g, cur, rfl, hg, hblk, hcur⟩ := hB 0 hn
    have h1 := h.plt
    have h2 := h.lt
    have h3 := h.own.bel.size
    exact (spoil_some g l.length cur w2 hl (blk_below hblk hb) hcur).mono fun e w' h' => ⟨h'.1, ⟨hd.grown h'.2 (by omega) (by omega) (by omega) (by omega) (by omega)⟩⟩
  · rw [show l.length = 0 by omega]
    exact (spoil_none A1 0 w2).mono fun e w' h' => ⟨h'.1, by rw [h'.2]; exact ⟨hd⟩⟩
theorem info3h : (Try.prog.info? 3).map (fun i => (i.zero, i.size, i.bytes)) = some (some (.int .i64 0), 1, 8) := by kernel_rfl
theorem duo_new {n : Nat} {P B c : Nat} {w0 w w1 : World} {v : Value} (h : Own (List.replicate n 0) 0 P B c w0 w) (hR : Kd.R (Kd.int .i64) 3 w1 w.heap.size (fun _ => True) v (List.replicate n 0)) (hb : Below w.heap.size w w1) :
    ∃ A cap, v = .slice (some ⟨A, 0, none⟩) n cap ∧ Duo (List.replicate n 0) 0 (List.replicate n 0) 0 P B c w1.heap.size A cap w0 (w1.alloc (.cells #[v, .int .i64 0] 29)) := by
  have hl : (List.replicate n (0 : Int)).length = n := List.length_replicate
  obtain ⟨A, cap, rfl, hA, hlt, _⟩ := Kd.R_form hR (by have := h.ok.len; omega)
  have hP := blk_lt h.at_.head
  have hB : B < w.heap.size := by
    obtain ⟨q1, inner, q2, q3⟩ := h.at_.row
    exact own_lt q2 B rfl
  have hs := hb.size
  refine ⟨A, cap, by rw [hl], ⟨(h.below hb).below ((Below.refl _ _).alloc (Nat.le_refl _) _), by rw [hl]; exact heap_alloc_new w1 _, ?_, by omega, ?_, ?_⟩⟩
  · exact Kd.R_alloc (Kd.R_lower (Kd.R_reok rfl hR (ok := fun k => k = A) (fun k hk => (Option.some.inj hk).symm)) (Nat.zero_le _)) _
  · show A < (w1.alloc _).heap.size ∧ B < (w1.alloc _).heap.size
    have : (w1.alloc (.cells #[.slice (some ⟨A, 0, none⟩) (List.replicate n (0 : Int)).length cap, .int .i64 0] 29)).heap.size = w1.heap.size + 1 := by simp
    omega
  · have := h.bel.size; omega
/-- .. and nothing below has been written since v. -/
structure Duo2 (cs : List Int) (t : Int) (P B c X A cap : Nat) (w0 v w : World) : Prop where
  duo : Duo cs t cs t P B c X A cap w0 w
  bel : Below v.heap.size v w
section
variable {cs : List Int} {t : Int} {P B c X A cap : Nat} {w0 v w w' : World}
theorem Duo2.below (h : Duo2 cs t P B c X A cap w0 v w) (hb : Below w.heap.size w w') : Duo2 cs t P B c X A cap w0 v w' := ⟨h.duo.below hb, h.bel.trans (hb.mono h.bel.size)⟩
theorem Duo2.alloc (h : Duo2 cs t P B c X A cap w0 v w) (o : Obj) : Duo2 cs t P B c X A cap w0 v (w.alloc o) := h.below ((Below.refl _ _).alloc (Nat.le_refl _) _)
theorem Duo2.drew (h : Duo2 cs t P B c X A cap w0 v w) : Duo2 cs t P B c X A cap w0 v w.drew := h.below (drawn_any ⟨⟨1, rfl⟩⟩)
theorem Duo2.drewN (h : Duo2 cs t P B c X A cap w0 v w) (n : Nat) : Duo2 cs t P B c X A cap w0 v (w.drewN n) := h.below (drawn_any ⟨⟨n, rfl⟩⟩)
theorem Duo2.drawn (h : Duo2 cs t P B c X A cap w0 v w) (hd : Drawn0 w w') : Duo2 cs t P B c X A cap w0 v w' := h.below (drawn_any hd)
theorem getDuo2 {p q : Prop} (h : p ∧ q ∧ Aside0 (Duo2 cs t P B c X A cap w0 v w)) : Duo2 cs t P B c X A cap w0 v w := h.2.2.out
end
end Go.Proofs.Ytihggmhmfocnpaa.PQ
