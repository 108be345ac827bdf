/- The example, walked. -/
import Derived.Test.YtkamgpjpnjikgaaPure
namespace Go.Proofs.Ytkamgpjpnjikgaa.PQ
open Go.RowKit Go.Proofs.YtkamgpjpnjikgaaW.PrintWords Go.Proofs.YtkamgpjpnjikgaaW.PrintLast Go.Proofs.YtkamgpjpnjikgaaW.PrintMore
set_option linter.unusedVariables false
set_option linter.unusedSimpArgs false
set_option maxHeartbeats 8000000 in
theorem works_calls (w : World) : Calls Try.prog 17 #[] w fun e w' => e = .returned (.bool true) ∧ Below w.heap.size w w' := by
  have hn := Lib.hid (new_calls w)
  go_enter Try.func17, Try.ntmps17
  go_wp2_with fail
  refine hn.out.mono ?_
  rintro e w1 ⟨rfl, hw1⟩
  have J1 := Aside0.mk (JJ.new w)
  rw [← hw1] at J1
  clear hw1 hn
  generalize w.heap.size + 1 = P at *
  have q := JJ.note J1 ⟨2, 1, 0⟩ (by decide) (by decide)
  rw [show codeL ⟨2, 1, 0⟩ = 0 by decide, show noteL [] ⟨2, 1, 0⟩ = [⟨2, 1, 0⟩] by simp [noteL, outL]] at q
  replace q := Lib.hid q
  go_wp2_with fail
  refine q.out.mono ?_
  rintro e w2 ⟨rfl, ⟨ov2, J2⟩⟩
  clear q J1
  replace J2 := Aside0.mk J2
  have q := JJ.note J2 ⟨1, 2, 0⟩ (by decide) (by decide)
  rw [show codeL ⟨1, 2, 0⟩ = 0 by decide, show noteL [⟨2, 1, 0⟩] ⟨1, 2, 0⟩ = [⟨2, 1, 0⟩, ⟨1, 2, 0⟩] by simp [noteL, outL]] at q
  replace q := Lib.hid q
  go_wp2_with fail
  refine q.out.mono ?_
  rintro e w3 ⟨rfl, ⟨ov3, J3⟩⟩
  clear q J2
  replace J3 := Aside0.mk J3
  have q := JJ.note J3 ⟨1, 1, 0⟩ (by decide) (by decide)
  rw [show codeL ⟨1, 1, 0⟩ = 0 by decide, show noteL [⟨2, 1, 0⟩, ⟨1, 2, 0⟩] ⟨1, 1, 0⟩ = [⟨1, 2, 0⟩, ⟨1, 1, 0⟩] by simp [noteL, outL]] at q
  replace q := Lib.hid q
  go_wp2_with fail
  refine q.out.mono ?_
  rintro e w4 ⟨rfl, ⟨ov4, J4⟩⟩
  clear q J3
  replace J4 := Aside0.mk J4
  have q := JJ.trims J4
  rw [show trL [⟨1, 2, 0⟩, ⟨1, 1, 0⟩] = 2 by decide] at q
  replace q := Lib.hid q
  go_wp2_with fail
  refine q.out.mono ?_
  rintro e w5 ⟨rfl, hb⟩
  have J5 := Aside0.mk (J4.out.below hb)
  clear q J4 hb
  have q := Lib.hid (JJ.take J5)
  go_wp2_with fail
  refine q.out.mono ?_
  rintro e w6 ⟨u, rfl, J6, hu⟩
  clear q J5
  obtain ⟨g, c, rfl⟩ := R_form hu (by decide)
  have hC := (Kd.R_reads' hu).2.2
  obtain ⟨ad, e1, _, y1, _⟩ := at_T27 hC 0 (by decide) (by decide)
  cases e1
  obtain ⟨ad', e', _, z1, _⟩ := at_T27 hC 1 (by decide) (by decide)
  cases e'
  clear hC hu
  have y2 : w6.cell? ⟨g, 1, none⟩ = some (.int .i64 2) := y1
  have z2 : w6.cell? ⟨g, 4, none⟩ = some (.int .i64 1) := z1
  clear y1 z1
  replace J6 := Aside0.mk J6
  have q := Lib.hid (JJ.len J6)
  go_wp2_with fail
  refine q.out.mono ?_
  rintro e w7 ⟨rfl, rfl⟩
  go_wp2
  go_ret
  exact ⟨rfl, J6.out.bel⟩
end Go.Proofs.Ytkamgpjpnjikgaa.PQ
