/- SpoilRecs, walked. -/
import Derived.Test.YtkamgpjpnjikgaaNote
namespace Go.Proofs.Ytkamgpjpnjikgaa.PQ
open Go.RowKit Go.Proofs.YtkamgpjpnjikgaaW.PrintWords Go.Proofs.YtkamgpjpnjikgaaW.PrintLast Go.Proofs.YtkamgpjpnjikgaaW.PrintMore
set_option linter.unusedVariables false
set_option linter.unusedSimpArgs false
set_option maxHeartbeats 4000000 in
set_option maxRecDepth 100000 in
theorem spoil_some (g c n : Nat) (w : World) (hn : n ≤ c) (hm : c ≤ maxLen) (h : Aside0 (∃ cs : Array Value, w.heap[g]? = some (.cells cs 27 (0, 0)) ∧ cs.size = c * 3)) :
    Calls Try.prog 10 #[.slice (some ⟨g, 0, none⟩) n c] w fun e w' => e = .returned (.tuple #[]) ∧ w.grownBy w' (some g) := by
  unfold maxLen at hm
  go_enter Try.func10, Try.ntmps10
  go_wp2
  go_loopw [5] (fun i wr => ∃ (k : Nat), k ≤ n ∧ i = .int .i64 k ∧ Aside0 (∃ cs : Array Value, wr.heap[g]? = some (.cells cs 27 (0, 0)) ∧ cs.size = c * 3) ∧ Aside0 (w.grownBy wr (some g))) (fun i _ => n - (intOf i).toNat)
  case atStart => exact ⟨0, Nat.zero_le _, rfl, h, ⟨World.grownBy.refl _ _⟩⟩
  case round =>
    clear h
    obtain ⟨k, hk, rfl, HO, HG⟩ := hrel
    by_cases hlt : k < n
    · obtain ⟨cs, hcs, hsz⟩ := HO.out
      have z : decide ((k : Int) < (n : Int)) = true := decide_eq_true (by omega)
      have z0 : decide ((0 : Int) ≤ (k : Int)) = true := decide_eq_true (by omega)
      obtain ⟨v0, e0⟩ : ∃ v, cs[k * 3]? = some v := ⟨_, Array.getElem?_eq_getElem (by omega)⟩
      obtain ⟨v1, e1⟩ : ∃ v, cs[k * 3 + 1]? = some v := ⟨_, Array.getElem?_eq_getElem (by omega)⟩
      obtain ⟨v2, e2⟩ : ∃ v, cs[k * 3 + 2]? = some v := ⟨_, Array.getElem?_eq_getElem (by omega)⟩
      have c0 := (blk_cell hcs (k * 3)).trans e0
      have c1 := (blk_cell hcs (k * 3 + 1)).trans e1
      have c2 := (blk_cell hcs (k * 3 + 2)).trans e2
      have f0 := blk_frozen hcs (k * 3)
      have f1 := blk_frozen hcs (k * 3 + 1)
      have f2 := blk_frozen hcs (k * 3 + 2)
      replace hcs := Aside0.mk hcs
      replace hsz := Lib.hid hsz
      clear e0 e1 e2 HO
      go_wp2
      go_roundw
      case rel => exact ⟨k + 1, by omega, by go_num, ⟨_, blk_set (blk_set (blk_set hcs.out _ _) _ _) _ _, by simp [hsz.out]⟩, ⟨((HG.out.trans (grown_set _ _ _ _)).trans (grown_set _ _ _ _)).trans (grown_set _ _ _ _)⟩⟩
      case measure => simp [intOf]; omega
    · obtain rfl : k = n := by omega
      go_wp2
      go_end0
      exact ⟨rfl, HG.out⟩
set_option maxHeartbeats 1000000 in
set_option maxRecDepth 100000 in
theorem spoil_none (A : Option Addr) (c : Nat) (w : World) :
    Calls Try.prog 10 #[.slice A 0 c] w fun e w' => e = .returned (.tuple #[]) ∧ w' = w := by
  go_enter Try.func10, Try.ntmps10
  go_wp2
  go_loopw [5] (fun i wr => i = .int .i64 0 ∧ wr = w) (fun _ _ => 0)
  case atStart => exact ⟨rfl, rfl⟩
  case round =>
    obtain ⟨rfl, rfl⟩ := hrel
    go_wp2
    go_end0
    exact ⟨rfl, rfl⟩
/-- A fresh list is spoilt: all else stays. -/
theorem spoil_calls (v : Value) (xs : List S27) (base : Nat) (ok : Nat → Prop) (w : World) (hl : xs.length ≤ 100000) (h : Aside0 (Kd.R k27 27 w base ok v xs)) :
    Calls Try.prog 10 #[v] w fun e w' => e = .returned (.tuple #[]) ∧ w.grownBy w' v.ownBlock := by
  by_cases hn : 0 < xs.length
  · obtain ⟨g, cap, rfl⟩ := R_form h.out hn
    obtain ⟨_, inner, ho, _⟩ := h.out
    rcases ho.2 with ⟨h1, _⟩ | ⟨g', cap', cur, h1, _, hh, hm, hx, hs, _⟩
    · cases h1
    · cases h1
      exact (spoil_some g cap xs.length w hm hx ⟨cur, hh, hs⟩).mono fun e w' h => h
  · obtain ⟨A, c, rfl⟩ := Kd.R_slice h.out
    rw [show xs.length = 0 by omega]
    exact (spoil_none A c w).mono fun e w' ⟨h1, h2⟩ => ⟨h1, by rw [h2]; exact World.grownBy.refl _ _⟩
end Go.Proofs.Ytkamgpjpnjikgaa.PQ
