/- What SpoilInts leaves, walked. -/
import Derived.Test.YtoiofemekcnlbaaDoorWorks
import Derived.Outline
namespace Go.Proofs.YtoiofemekcnlbaaDoor.PQ
open Go.RowKit Go.Proofs.YtoiofemekcnlbaaDoorW.PrintWords Go.Proofs.YtoiofemekcnlbaaDoorW.PrintLast Go.Proofs.YtoiofemekcnlbaaDoorW.PrintMore
set_option linter.unusedVariables false
set_option linter.unusedSimpArgs false
set_option maxHeartbeats 4000000 in
set_option maxRecDepth 100000 in
theorem spoil_some (g c : Nat) (xs : List Int) (base : Nat) (ok : Nat → Prop) (w : World) (h : Aside0 (Kd.R (Kd.int .i64) 3 w base ok (.slice (some ⟨g, 0, none⟩) xs.length c) xs)) :
    Calls Tryd.prog 21 #[.slice (some ⟨g, 0, none⟩) xs.length c] w fun e w' => e = .returned (.tuple #[]) ∧ w.grownBy w' (some g) := by
  have hmax := Kd.C_max (Kd.R_reads' h.out).2.2
  generalize hn : xs.length = n at *
  have hn' := Lib.hid hn
  clear hn
  go_enter Tryd.func21, Tryd.ntmps21
  go_wp2
  go_loopw [5] (fun i wr => ∃ (k : Nat) (ys : List Int), k ≤ n ∧ i = .int .i64 k ∧ Aside0 (ys.length = n ∧ Kd.R (Kd.int .i64) 3 wr base ok (.slice (some ⟨g, 0, none⟩) n c) ys) ∧ Aside0 (w.grownBy wr (some g))) (fun i _ => n - (intOf i).toNat)
  case atStart => exact ⟨0, xs, Nat.zero_le _, rfl, ⟨hn'.out, h.out⟩, ⟨World.grownBy.refl _ _⟩⟩
  case round =>
    clear h
    obtain ⟨k, ys, hk, rfl, HO, HG⟩ := hrel
    by_cases hlt : k < n
    · obtain ⟨hx, hf⟩ := Kd.R_celln 0 HO.out.2 (k : Int) (by omega) (by omega)
      have hP := Kd.R_putg HO.out.2 (k : Int) 1099511627776
      rw [Int.toNat_natCast] at hx hf hP
      have hP1 : Aside0 ((ys.set k 1099511627776).length = n ∧ Kd.R (Kd.int .i64) 3 (wr.setCell ⟨g, k, none⟩ (.int .i64 1099511627776)) base ok (.slice (some ⟨g, 0, none⟩) n c) (ys.set k 1099511627776)) := ⟨by rw [List.length_set]; exact HO.out.1, hP.1⟩
      have hP2 := Aside0.mk (HG.out.trans hP.2)
      clear hP HO HG
      go_wp2
      go_roundw
      case rel => exact ⟨k + 1, _, by omega, by go_num, hP1, hP2⟩
      case measure => simp [intOf]; omega
    · obtain rfl : k = n := by omega
      go_wp2
      go_end0
      exact ⟨rfl, HG.out⟩
set_option maxHeartbeats 1000000 in
set_option maxRecDepth 100000 in
theorem spoil_none (A : Option Addr) (c : Nat) (w : World) :
    Calls Tryd.prog 21 #[.slice A 0 c] w fun e w' => e = .returned (.tuple #[]) ∧ w' = w := by
  go_enter Tryd.func21, Tryd.ntmps21
  go_wp2
  go_loopw [5] (fun i wr => i = .int .i64 0 ∧ wr = w) (fun _ _ => 0)
  case atStart => exact ⟨rfl, rfl⟩
  case round =>
    obtain ⟨rfl, rfl⟩ := hrel
    go_wp2
    go_end0
    exact ⟨rfl, rfl⟩
theorem spoil (v : Value) (xs : List Int) (base : Nat) (ok : Nat → Prop) (w : World) (h : Kd.R (Kd.int .i64) 3 w base ok v xs) :
    Calls Tryd.prog 21 #[v] w fun e w' => e = .returned (.tuple #[]) ∧ w.grownBy w' v.ownBlock := by
  by_cases hn : 0 < xs.length
  · obtain ⟨g, cap, rfl, _, _, _⟩ := Kd.R_form h hn
    exact spoil_some g cap xs base ok w ⟨h⟩
  · obtain ⟨A, c, rfl⟩ := Kd.R_slice h
    rw [show xs.length = 0 by omega]
    exact (spoil_none A c w).mono fun e w' ⟨h1, h2⟩ => ⟨h1, by rw [h2]; exact World.grownBy.refl _ _⟩
end Go.Proofs.YtoiofemekcnlbaaDoor.PQ
