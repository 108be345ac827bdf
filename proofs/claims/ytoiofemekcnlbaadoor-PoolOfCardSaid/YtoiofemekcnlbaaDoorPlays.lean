/- PoolPlays walked. -/
import Derived.Test.YtoiofemekcnlbaaDoorPlaysC
import Derived.Test.YtoiofemekcnlbaaDoorOf
namespace Go.Proofs.YtoiofemekcnlbaaDoor.PQ
open Go.RowKit Go.Proofs.YtoiofemekcnlbaaDoorW.PrintWords Go.Proofs.YtoiofemekcnlbaaDoorW.PrintLast Go.Proofs.YtoiofemekcnlbaaDoorW.PrintMore
set_option linter.unusedVariables false
set_option linter.unusedSimpArgs false
set_option maxHeartbeats 4000000 in
set_option maxRecDepth 100000 in
theorem poolPlays_no (n : Int) (A1 : Option Addr) (c1 : Nat) (xs : List S30) (A2 : Option Addr) (c2 : Nat) (ys : List Int) (w : World) (hT : Aside0 (Tabs w)) (h : ¬ (1 ≤ n ∧ n ≤ 64)) :
    Calls Tryd.prog 4 #[.int .i64 n, .slice A1 xs.length c1, .slice A2 ys.length c2] w fun e w' => e = .returned (.bool true) ∧ Below w.heap.size w w' := by
  have hN := Lib.hid (new_no n w h)
  have hN2 := Lib.hid (deckleref21_New.calls n [] [] 1 w (refNew_no n h))
  clear h
  go_enter Tryd.func4, Tryd.ntmps4
  go_wp2_with fail
  refine hN.out.mono ?_
  rintro e w1 ⟨rfl, rfl⟩
  go_wp2_with fail
  refine hN2.out.mono ?_
  rintro e w2 ⟨v0, v1, rfl, h0, h1, hb⟩
  obtain ⟨a0, b0, rfl⟩ := Kd.R_slice h0
  obtain ⟨a1, b1, rfl⟩ := Kd.R_slice h1
  have HB := Aside0.mk hb
  clear h0 h1 hb hN hN2
  have hW := Lib.hid fun (w' : World) (hb : Below w1.heap.size w1 w') => works_spec w' ⟨tabs_below hT.out hb hT.out.lt⟩
  by_cases hy : 50 < ys.length
  · have z := decide_eq_true (show (50 : Int) < (ys.length : Int) by omega)
    go_wp2_with (go_at_call 7; refine (hW.out _ ?wb).mono ?_; (case wb => exact HB.out.alloc HB.out.size _); rintro e w' ⟨rfl, hb⟩; have HB2 := Aside0.mk ((HB.out.alloc HB.out.size _).trans (hb.mono (by have := HB.out.size; simp; omega))))
    go_ret
    exact ⟨rfl, HB2.out⟩
  · have z := decide_eq_false (show ¬ (50 : Int) < (ys.length : Int) by omega)
    go_wp2_with (go_at_call 7; refine (hW.out _ ?wb).mono ?_; (case wb => exact HB.out.alloc HB.out.size _); rintro e w' ⟨rfl, hb⟩; have HB2 := Aside0.mk ((HB.out.alloc HB.out.size _).trans (hb.mono (by have := HB.out.size; simp; omega))))
    go_ret
    exact ⟨rfl, HB2.out⟩
set_option maxHeartbeats 4000000 in
set_option maxRecDepth 100000 in
theorem poolPlays_long (n : Nat) (A1 : Option Addr) (c1 : Nat) (xs : List S30) (A2 : Option Addr) (c2 : Nat) (ys : List Int) (w : World) (hT : Aside0 (Tabs w)) (h1 : 1 ≤ n) (h2 : n ≤ 64) (hy : 50 < ys.length) :
    Calls Tryd.prog 4 #[.int .i64 n, .slice A1 xs.length c1, .slice A2 ys.length c2] w fun e w' => e = .returned (.bool true) ∧ Below w.heap.size w w' := by
  have hN := Lib.hid (inv_new n w h1 h2)
  have hN2 := Lib.hid fun w => (deckleref21_New.calls n _ _ 0 w (refNew n h1 h2))
  have z := decide_eq_true (show (50 : Int) < (ys.length : Int) by omega)
  have hW := Lib.hid fun (w' : World) (hb : Below w.heap.size w w') => works_spec w' ⟨tabs_below hT.out hb hT.out.lt⟩
  go_enter Tryd.func4, Tryd.ntmps4
  go_wp2_with fail
  refine hN.out.mono ?_
  rintro e w1 ⟨⟨P, B, rfl, hI⟩⟩
  have HB1 := Aside0.mk hI.below
  clear hI
  go_wp2_with fail
  refine (hN2.out _).mono ?_
  rintro e w2 ⟨v0, v1, rfl, h0, h1, hb⟩
  obtain ⟨a0, b0, rfl⟩ := Kd.R_slice h0
  obtain ⟨a1, b1, rfl⟩ := Kd.R_slice h1
  have HB := Aside0.mk (HB1.out.trans (hb.mono HB1.out.size))
  clear h0 h1 hb hN hN2 HB1
  go_wp2_with (go_at_call 7; refine (hW.out _ ?wb).mono ?_; (case wb => exact HB.out.alloc HB.out.size _); rintro e w' ⟨rfl, hb⟩; have HB2 := Aside0.mk ((HB.out.alloc HB.out.size _).trans (hb.mono (by have := HB.out.size; simp; omega))))
  go_ret
  exact ⟨rfl, HB2.out⟩
set_option maxHeartbeats 4000000 in
set_option maxRecDepth 100000 in
theorem poolPlays_yes (n : Nat) (A1 : Option Addr) (c1 : Nat) (xs : List S30) (A2 : Option Addr) (c2 : Nat) (ys : List Int) (w : World) (hr1 : Aside0 (Kd.C k30 w A1 xs.length xs)) (hr2 : Aside0 (Kd.C (Kd.int .i64) w A2 ys.length ys)) (hT : Aside0 (Tabs w)) (h1 : 1 ≤ n) (h2 : n ≤ 64) (hc : Hid (ys.length ≤ c2 ∧ ys.length ≤ 50)) :
    Calls Tryd.prog 4 #[.int .i64 n, .slice A1 xs.length c1, .slice A2 ys.length c2] w fun e w' => e = .returned (.bool true) ∧ Below w.heap.size w w' := by
  have hN := Lib.hid (inv_new n w h1 h2)
  have hN2 := Lib.hid fun w => (deckleref21_New.calls n _ _ 0 w (refNew n h1 h2))
  have z := decide_eq_false (show ¬ (50 : Int) < (ys.length : Int) by have := hc.out.2; omega)
  have hW := Lib.hid fun (w' : World) (hb : Below w.heap.size w w') => works_spec w' ⟨tabs_below hT.out hb hT.out.lt⟩
  go_enter Tryd.func4, Tryd.ntmps4
  go_wp2_with fail
  refine hN.out.mono ?_
  rintro e w1 ⟨⟨P, B, rfl, hI⟩⟩
  have HI1 := Aside0.mk hI
  clear hI
  go_wp2_with fail
  refine (hN2.out _).mono ?_
  rintro e w2 ⟨v0, v1, rfl, h0, h1, hb⟩
  obtain ⟨a0, b0, rfl⟩ := Kd.R_slice h0
  obtain ⟨a1, b1, rfl⟩ := Kd.R_slice h1
  have HI2 := Aside0.mk ((HI1.out.belowW hb).alloc (.cells #[.slice a0 (fstL (List.replicate n (0, false))).length b0, .slice a1 (sndL (List.replicate n (0, false))).length b1] 41))
  have H0 := Aside0.mk (ownI (Kd.R_alloc (Kd.R_lower h0 HI1.out.below.size) (.cells #[.slice a0 (fstL (List.replicate n (0, false))).length b0, .slice a1 (sndL (List.replicate n (0, false))).length b1] 41)))
  have H1 := Aside0.mk (ownB (Kd.R_alloc (Kd.R_lower h1 HI1.out.below.size) (.cells #[.slice a0 (fstL (List.replicate n (0, false))).length b0, .slice a1 (sndL (List.replicate n (0, false))).length b1] 41)))
  clear h0 h1 hb hN hN2 HI1
  have hP := Lib.hid (plays_core _ P B _ _ A1 c1 xs A2 c2 ys w _ HI2 H0 H1 hr1 hr2 hc hT)
  clear HI2 H0 H1
  generalize (fstL (List.replicate n (0, false))).length = m0 at *
  generalize (sndL (List.replicate n (0, false))).length = m1 at *
  go_wp2_with fail
  refine hP.out.mono ?_
  rintro e w3 ⟨rfl, hb⟩
  have HB := Aside0.mk hb
  clear hP hb
  go_wp2_with fail
  refine (hW.out _ HB.out).mono ?_
  rintro e w4 ⟨rfl, hb⟩
  have HB2 := Aside0.mk (HB.out.trans (hb.mono HB.out.size))
  clear hW hb HB
  go_wp2
  go_ret
  exact ⟨rfl, HB2.out⟩
end Go.Proofs.YtoiofemekcnlbaaDoor.PQ
