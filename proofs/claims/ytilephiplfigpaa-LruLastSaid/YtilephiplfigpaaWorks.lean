/- The example, walked. -/
import Derived.Test.YtilephiplfigpaaJl
namespace Go.Proofs.Ytilephiplfigpaa.PQ
open Go.RowKit Go.Proofs.YtilephiplfigpaaW.PrintWords Go.Proofs.YtilephiplfigpaaW.PrintLast Go.Proofs.YtilephiplfigpaaW.PrintMore Go.Shelf
set_option linter.unusedVariables false
set_option linter.unusedSimpArgs false
set_option maxHeartbeats 8000000 in
theorem works_calls (w : World) : Calls Try.prog 6 #[] w fun e w' => e = .returned (.bool true) ∧ Below w.heap.size w w' := by
  have hn := Lib.hid (JL.new 2 (by decide) w)
  go_enter Try.func6, Try.ntmps6
  go_wp2_with fail
  refine hn.out.mono ?_
  rintro e w1 ⟨rfl, J1⟩
  clear hn
  obtain ⟨M, hM⟩ : ∃ M, Aside0 (w.heap.size = M) := ⟨_, ⟨rfl⟩⟩
  replace J1 : Aside0 (JL 2 0 0 [] [] (w.heap.size + 1) M (.slice none 0 0) [] w w1) := by rw [← hM.out]; exact J1
  generalize w.heap.size + 1 = P at *
  have q := JL.put J1 1 ⟨#[97]⟩ (by decide) (by decide)
  rw [show putO (absL []) 2 ⟨1, ⟨#[97]⟩⟩ = ([⟨1, ⟨#[97]⟩⟩], 0, false) by simp [putO, firstO, outO, absL]] at q
  replace q := Lib.hid q
  go_wp2_with fail
  refine q.out.mono ?_
  rintro e w2 ⟨rfl, ⟨L2, e2, r2, J2⟩⟩
  clear q J1
  replace J2 := Aside0.mk J2
  have q := JL.put J2 2 ⟨#[98]⟩ (by decide) ⟨r2, by omega⟩
  rw [e2, show putO [⟨1, ⟨#[97]⟩⟩] 2 ⟨2, ⟨#[98]⟩⟩ = ([⟨2, ⟨#[98]⟩⟩, ⟨1, ⟨#[97]⟩⟩], 0, false) by simp [putO, firstO, outO]] at q
  replace q := Lib.hid q
  clear e2 r2
  go_wp2_with fail
  refine q.out.mono ?_
  rintro e w3 ⟨rfl, ⟨L3, e3, r3, J3⟩⟩
  clear q J2
  replace J3 := Aside0.mk J3
  obtain ⟨D3, hD3⟩ := J3.out.lat
  obtain ⟨i, e1, he, ha, hs⟩ := isO_at (a := 1) (s := ⟨#[97]⟩) hD3 (by rw [e3]; rfl)
  have q := JL.get_at J3 he (by decide)
  rw [ha, hs, e3, show firstO [⟨2, ⟨#[98]⟩⟩, ⟨1, ⟨#[97]⟩⟩] ⟨1, ⟨#[97]⟩⟩ = [⟨1, ⟨#[97]⟩⟩, ⟨2, ⟨#[98]⟩⟩] by simp [firstO, outO]] at q
  replace q := Lib.hid q
  clear ha hs he e3 hD3
  go_wp2_with fail
  refine q.out.mono ?_
  rintro e w4 ⟨rfl, ⟨L4, e4, r4, J4⟩⟩
  rw [← r4] at r3
  clear q J3 r4
  replace J4 := Aside0.mk J4
  have q := JL.put J4 3 ⟨#[99]⟩ (by decide) ⟨r3, by omega⟩
  rw [e4, show putO [⟨1, ⟨#[97]⟩⟩, ⟨2, ⟨#[98]⟩⟩] 2 ⟨3, ⟨#[99]⟩⟩ = ([⟨3, ⟨#[99]⟩⟩, ⟨1, ⟨#[97]⟩⟩], 2, true) by simp [putO, firstO, outO]] at q
  replace q := Lib.hid q
  clear e4 r3
  go_wp2_with fail
  refine q.out.mono ?_
  rintro e w5 ⟨rfl, ⟨L5, e5, r5, J5⟩⟩
  clear q J4
  replace J5 := Aside0.mk J5
  have hl5 : L5.length = 2 := by rw [← absL_len, e5]; rfl
  have q := Lib.hid (JL.get_no (a := 2) J5 (by decide) (isO_no (by rw [e5]; rfl)) (by decide))
  replace hl5 := Lib.hid hl5
  clear e5 r5
  go_wp2_with fail
  refine q.out.mono ?_
  rintro e w6 ⟨rfl, J6⟩
  clear q J5
  have q := JL.len J6
  rw [hl5.out] at q
  replace q := Lib.hid q
  go_wp2_with fail
  refine q.out.mono ?_
  rintro e w7 ⟨rfl, rfl⟩
  go_wp2
  go_ret
  exact ⟨rfl, J6.out.bel⟩
end Go.Proofs.Ytilephiplfigpaa.PQ
