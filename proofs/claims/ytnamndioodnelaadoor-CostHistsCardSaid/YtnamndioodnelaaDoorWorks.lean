/- The law's own test of the rest, walked. -/
import Derived.Test.YtnamndioodnelaaDoorMerge
import Derived.Test.YtnamndioodnelaaDoorFold
namespace Go.Proofs.YtnamndioodnelaaDoor.PQ
open Go.RowKit Go.Proofs.YtnamndioodnelaaDoorW.PrintWords Go.Proofs.YtnamndioodnelaaDoorW.PrintLast Go.Proofs.YtnamndioodnelaaDoorW.PrintMore
set_option linter.unusedVariables false
set_option linter.unusedSimpArgs false
def wks : List Int := [100, 1, 3, 2]
def wseq (k : Nat) : List Int := (wks.take k).foldl addH (List.replicate 67 0)
theorem wseq_succ (k : Nat) (h : k < 4) : addH (wseq k) (wks.getD k 0) = wseq (k + 1) := by
  have : ∀ k < 4, addH (wseq k) (wks.getD k 0) = wseq (k + 1) := by decide +kernel
  exact this k h
theorem wseq_sum (k : Nat) (h : k < 4) : 0 ≤ (wseq k).getD 65 0 ∧ (wseq k).getD 65 0 ≤ 9223372036854775807 := by
  have : ∀ k < 4, 0 ≤ (wseq k).getD 65 0 ∧ (wseq k).getD 65 0 ≤ 9223372036854775807 := by decide +kernel
  exact this k h
theorem wks_in (k : Nat) (h : k < 4) : 0 ≤ wks.getD k 0 ∧ wks.getD k 0 ≤ 9223372036854775807 := by
  have : ∀ k < 4, 0 ≤ wks.getD k 0 ∧ wks.getD k 0 ≤ 9223372036854775807 := by decide
  exact this k h
theorem wend : ∃ V, V = wseq 4 ∧ rankI V 500 = 3 ∧ rankI V 1000 = 127 ∧ V.getD 64 0 = 4 ∧ V.getD 65 0 = 106 := ⟨_, rfl, by decide +kernel⟩
set_option maxHeartbeats 4000000 in
set_option maxRecDepth 100000 in
theorem works_spec (w : World) : Calls Tryd.prog 6 #[] w fun e w' => e = .returned (.bool true) ∧ Below w.heap.size w w' := by
  obtain ⟨V, eV0, r1, r2, r3, r4⟩ := wend
  have eV := Aside0.mk eV0
  replace r1 := Lib.hid r1
  replace r2 := Lib.hid r2
  replace r3 := Lib.hid r3
  replace r4 := Lib.hid r4
  clear eV0
  go_enter Tryd.func6, Tryd.ntmps6
  go_wp2_with fail
  refine (hist_new w).mono ?_
  rintro e w1 ⟨rfl, H0, hb1⟩
  have H0' : Aside0 (HistAt (wseq 0) w.heap.size w1) := ⟨H0⟩
  have hb1' := Aside0.mk hb1
  have hlt := H0.lt
  clear H0 hb1
  generalize hB : w.heap.size = B at *
  go_wp2_with fail
  have H2 : Aside0 (HistAt (wseq 0) B (w1.alloc (.cells #[.int .i64 100, .int .i64 1, .int .i64 3, .int .i64 2] 3))) := ⟨H0'.out.block (((Below.refl _ w1).alloc (Nat.le_refl _) _).block B hlt)⟩
  have hb2 : Aside0 (Below B w (w1.alloc (.cells #[.int .i64 100, .int .i64 1, .int .i64 3, .int .i64 2] 3))) := ⟨hb1'.out.alloc (Nat.le_of_lt hlt) _⟩
  have hrow := Aside0.mk (heap_alloc_new w1 (.cells #[.int .i64 100, .int .i64 1, .int .i64 3, .int .i64 2] 3))
  have hC : Hid (w1.heap.size ≠ B) := Lib.hid (by omega)
  clear H0' hb1' hlt
  revert H2 hb2 hrow hC
  generalize w1.alloc (.cells #[.int .i64 100, .int .i64 1, .int .i64 3, .int .i64 2] 3) = w2
  generalize w1.heap.size = C
  intro H2 hb2 hrow hC
  go_loopw [11] (fun i wr => ∃ k : Nat, k ≤ 4 ∧ i = .int .i64 k ∧ Aside0 (HistAt (wseq k) B wr) ∧ Aside0 (Below B w wr) ∧ Aside0 (wr.heap[C]? = some (.cells #[.int .i64 100, .int .i64 1, .int .i64 3, .int .i64 2] 3 (0, 0)))) (fun i _ => 4 - (intOf i).toNat)
  case atStart => exact ⟨0, by omega, rfl, H2, hb2, hrow⟩
  case round =>
    obtain ⟨k, hk, rfl, HK, HB, HR⟩ := hrel
    by_cases hlt : k < 4
    · have yk : decide ((k : Int) < 4) = true := decide_eq_true (by omega)
      have cx : wr.cell? ⟨C, k, none⟩ = some (.int .i64 (wks.getD k 0)) := by
        rw [blk_cell HR.out k]
        have : ∀ k < 4, (#[Value.int .i64 100, .int .i64 1, .int .i64 3, .int .i64 2] : Array Value)[k]? = some (.int .i64 (wks.getD k 0)) := by
          intro k hk
          rcases (by omega : k = 0 ∨ k = 1 ∨ k = 2 ∨ k = 3) with rfl | rfl | rfl | rfl <;> rfl
        exact this k hlt
      obtain ⟨x, hx⟩ : ∃ x, x = wks.getD k 0 := ⟨_, rfl⟩
      have hA := hist_add B (wseq k) (wks.getD k 0) wr HK.out (wseq_sum k hlt) (wks_in k hlt).1 (wks_in k hlt).2
      rw [wseq_succ k hlt, ← hx] at hA
      rw [← hx] at cx
      have hBs : Hid (B ≤ wr.heap.size) := Lib.hid (Nat.le_of_lt HK.out.lt)
      clear hx HK
      go_wp2_with fail
      refine hA.mono ?_
      rintro e w3 ⟨rfl, H3, g3⟩
      have HK3 : Aside0 (HistAt (wseq (k + 1)) B w3) := ⟨H3⟩
      have HB3 : Aside0 (Below B w w3) := ⟨HB.out.grown g3 hBs.out (fun j hj => by cases hj; exact Nat.le_refl _)⟩
      have HR3 : Aside0 (w3.heap[C]? = some (.cells #[.int .i64 100, .int .i64 1, .int .i64 3, .int .i64 2] 3 (0, 0))) := ⟨(g3.block C (Array.getElem?_eq_some_iff.1 HR.out).1 (fun e => hC.out (Option.some.inj e))).trans HR.out⟩
      clear H3 g3 HB HR
      go_wp2
      go_roundw
      case rel => exact ⟨k + 1, by omega, by go_num, HK3, HB3, HR3⟩
      case measure => simp [intOf]; omega
    · obtain rfl : k = 4 := by omega
      have HV : Aside0 (HistAt V B wr) := ⟨by rw [eV.out]; exact HK.out⟩
      have hBs : Hid (B ≤ wr.heap.size) := Lib.hid (Nat.le_of_lt HK.out.lt)
      have y4 : decide (((4 : Nat) : Int) < 4) = false := by decide
      have c4 : 0 ≤ V.getD 64 0 ∧ V.getD 64 0 ≤ 1000000 := by rw [r3.out]; omega
      have c4' := Aside0.mk c4
      clear c4 HK eV HR hrow H2 hb2
      go_wp2_with fail
      refine (of_tlc _).mono ?_
      rintro e w3 ⟨rfl, hd3⟩
      have H3 := Aside0.mk (HV.out.drawn hd3)
      have hb3 : Aside0 (Below B w w3) := ⟨HB.out.trans ((Drawn0.below hd3).mono hBs.out)⟩
      have hs3 := Lib.hid (Nat.le_of_lt H3.out.lt)
      clear hd3 HV HB hBs
      go_wp2_with fail
      refine (hist_rank B V 500 w3 H3.out c4'.out).mono ?_
      rw [r1.out]
      rintro e w4 ⟨rfl, hd4⟩
      have H4 := Aside0.mk (H3.out.drawn hd4)
      have hb4 : Aside0 (Below B w w4) := ⟨hb3.out.trans ((Drawn0.below hd4).mono hs3.out)⟩
      have hs4 := Lib.hid (Nat.le_of_lt H4.out.lt)
      clear hd4 H3 hb3 hs3
      go_wp2_with fail
      refine (hist_rank B V 1000 w4 H4.out c4'.out).mono ?_
      rw [r2.out]
      rintro e w5 ⟨rfl, hd5⟩
      have H5 := Aside0.mk (H4.out.drawn hd5)
      have hb5 : Aside0 (Below B w w5) := ⟨hb4.out.trans ((Drawn0.below hd5).mono hs4.out)⟩
      clear hd5 H4 hb4 hs4
      go_wp2_with fail
      refine (hist_count B V w5 H5.out).mono ?_
      rw [r3.out]
      rintro e w6 ⟨rfl, rfl⟩
      go_wp2_with fail
      refine (hist_sum B V _ H5.out).mono ?_
      rw [r4.out]
      rintro e w6 ⟨rfl, rfl⟩
      go_wp2
      go_ret
      exact ⟨rfl, hB ▸ hb5.out⟩
end Go.Proofs.YtnamndioodnelaaDoor.PQ
