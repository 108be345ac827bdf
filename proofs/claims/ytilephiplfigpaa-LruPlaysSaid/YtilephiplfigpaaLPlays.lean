/- LruPlays, the whole. -/
import Derived.Test.YtilephiplfigpaaPlays
namespace Go.Proofs.Ytilephiplfigpaa.PQ
open Go.RowKit Go.Proofs.YtilephiplfigpaaW.PrintWords Go.Proofs.YtilephiplfigpaaW.PrintLast Go.Proofs.YtilephiplfigpaaW.PrintMore
set_option linter.unusedVariables false
set_option linter.unusedSimpArgs false
theorem new_bad (r : Int) (hr : r < 1 ∨ 256 < r) (w : World) : Calls Try.prog 8 #[.int .i64 r] w fun e w' => e = .returned (.tuple #[.pointer none, .int .i64 1]) ∧ w' = w := by
  by_cases h1 : r < 1
  · have z1 : decide (r < 1) = true := decide_eq_true h1
    clear hr
    go_enter Try.func8, Try.ntmps8
    go_wp2
    go_ret2
    exact ⟨rfl, rfl⟩
  · have z1 : decide (r < 1) = false := decide_eq_false h1
    have h2 : 256 < r := hr.resolve_left h1
    have z2 : decide (256 < r) = true := decide_eq_true h2
    have z3 : decide (r > 256) = true := decide_eq_true h2
    clear hr
    go_enter Try.func8, Try.ntmps8
    go_wp2
    go_ret2
    exact ⟨rfl, rfl⟩
set_option maxHeartbeats 8000000 in
theorem lplays_core (room : Int) (a0 : Option Addr) (c0 : Nat) (zs : List S30) (w : World) (hr : Aside0 (Kd.C k30 w a0 zs.length zs)) (hwf : Aside0 (∀ z ∈ zs, (Lit.int .i64 z.f1).wf = true)) :
    Calls Try.prog 5 #[.int .i64 room, .slice a0 zs.length c0] w fun e w' => e = .returned (.bool true) ∧ Below w.heap.size w w' := by
  by_cases hb : room < 1 ∨ 256 < room
  · have q := Lib.hid (new_bad room hb w)
    have qw := Lib.hid (works_calls w)
    rcases hb with h | h
    · have z1 : decide (room ≥ 1) = false := decide_eq_false (by omega)
      have z2 : decide (1 ≤ room) = false := decide_eq_false (by omega)
      go_enter Try.func5, Try.ntmps5
      go_wp2_with fail
      refine q.out.mono ?_
      rintro e w1 ⟨rfl, rfl⟩
      go_wp2_with fail
      refine qw.out.mono ?_
      rintro e w2 ⟨rfl, hb2⟩
      go_wp2
      go_ret
      exact ⟨rfl, hb2⟩
    · have z1 : decide (room ≥ 1) = true := decide_eq_true (by omega)
      have z2 : decide (1 ≤ room) = true := decide_eq_true (by omega)
      have z3 : decide (room ≤ 256) = false := decide_eq_false (by omega)
      go_enter Try.func5, Try.ntmps5
      go_wp2_with fail
      refine q.out.mono ?_
      rintro e w1 ⟨rfl, rfl⟩
      go_wp2_with fail
      refine qw.out.mono ?_
      rintro e w2 ⟨rfl, hb2⟩
      go_wp2
      go_ret
      exact ⟨rfl, hb2⟩
  · have hrr : 1 ≤ room ∧ room ≤ 256 := by omega
    have q := Lib.hid (JL.new room hrr w)
    have qw := Lib.hid fun w' => works_calls w'
    have z1 : decide (room ≥ 1) = true := decide_eq_true (by omega)
    have z2 : decide (1 ≤ room) = true := decide_eq_true (by omega)
    have z3 : decide (room ≤ 256) = true := decide_eq_true (by omega)
    by_cases h60 : room ≤ 60
    · have z4 : decide (room > 60) = false := decide_eq_false (by omega)
      have z5 : decide (60 < room) = false := decide_eq_false (by omega)
      go_enter Try.func5, Try.ntmps5
      go_wp2_with fail
      refine q.out.mono ?_
      rintro e w1 ⟨rfl, J1⟩
      have qp := Lib.hid (plays_core room ⟨hrr.1, h60⟩ _ _ a0 c0 zs w w1 J1 hr hwf)
      clear q hb h60 hrr
      go_wp2_with fail
      refine qp.out.mono ?_
      rintro e w2 ⟨rfl, hb2⟩
      replace hb2 := Aside0.mk hb2
      clear qp J1
      go_wp2_with fail
      refine (qw.out _).mono ?_
      rintro e w3 ⟨rfl, hb3⟩
      have fin := Aside0.mk (hb2.out.trans (hb3.mono hb2.out.size))
      go_wp2
      go_ret
      exact ⟨rfl, fin.out⟩
    · have z4 : decide (room > 60) = true := decide_eq_true (by omega)
      have z5 : decide (60 < room) = true := decide_eq_true (by omega)
      go_enter Try.func5, Try.ntmps5
      go_wp2_with fail
      refine q.out.mono ?_
      rintro e w1 ⟨rfl, J1⟩
      clear q hb h60 hrr
      go_wp2_with fail
      refine (qw.out _).mono ?_
      rintro e w3 ⟨rfl, hb3⟩
      have fin := Aside0.mk (J1.out.bel.trans (hb3.mono J1.out.bel.size))
      go_wp2
      go_ret
      exact ⟨rfl, fin.out⟩
end Go.Proofs.Ytilephiplfigpaa.PQ
