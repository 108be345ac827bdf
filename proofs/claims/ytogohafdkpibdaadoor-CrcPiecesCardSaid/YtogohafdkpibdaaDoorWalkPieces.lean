/- The crc law Pieces: the walk of the law's function over the contracts of package crc, their answers being premises; the table lies as laid. -/
import Derived.Test.YtogohafdkpibdaaDoorPQx1
import Derived.Lib.Hide
namespace Go.Proofs.YtogohafdkpibdaaDoor.PQ
open Go.RowKit Go.Proofs.YtogohafdkpibdaaDoor.PQ Go.Proofs.YtogohafdkpibdaaDoorW.PrintWords Go.Proofs.YtogohafdkpibdaaDoorW.PrintLast Go.Proofs.YtogohafdkpibdaaDoorW.PrintMore
set_option linter.unusedVariables false
set_option linter.unusedSimpArgs false
set_option maxRecDepth 100000 in
set_option maxHeartbeats 1000000 in
theorem crcPieces_core (a0 a1 t u : ByteArray) (s T1 T2 T3 T4 T5 : Int) (w : World) (hT : Aside0 (Tabs w)) (h0 : a0.size ≤ 1000) (h1 : a1.size ≤ 1000) (c0 : Hid (decklelaw02_works.f = some true))
    (c1 : Hid (crc_More.f s (a0 ++ a1) = some T2)) (c2 : Hid (crc_More.f s a0 = some T1)) (c3 : Hid (crc_More.f T1 a1 = some T2)) (c4 : Hid (crc_More.f 4294967295 a0 = some T3)) (c5 : Hid (crc_Sum.f a0 = some T4))
    (c6 : Hid (crc_Seal.f a0 = some t)) (c7 : Hid (crc_Whole.f t = some true)) (c8 : Hid (crc_Sum.f t = some T5)) (c9 : Hid (crc_Seal.f (⟨#[]⟩ : ByteArray) = some u)) (c10 : Hid (crc_Sum.f u = some T5))
    (y1 : (bits BinOp.xor IntKind.u32 IntKind.u32.max T3 == T4) = true) :
    Calls Tryd.prog 4 #[.string a0, .string a1, .int .u32 s] w fun e w' => e = .returned (.bool true) ∧ Below w.heap.size w w' := by
  have k0 : (a0.size + a1.size ≤ 9223372036854775807) = True := eq_true (by omega)
  have k1 : decide (a0.size + a1.size ≤ 9223372036854775807) = true := decide_eq_true (by omega)
  have k2 : (9223372036854775807 < a0.size + a1.size) = False := eq_false (by omega)
  have g0 : decide (1000 < (a0.size : Int)) = false := decide_eq_false (by omega)
  have g1 : decide (1000 < (a1.size : Int)) = false := decide_eq_false (by omega)
  have g2 : decide (1000 < a0.size) = false := decide_eq_false (by omega)
  have g3 : decide (1000 < a1.size) = false := decide_eq_false (by omega)
  go_enter Tryd.func4, Tryd.ntmps4
  go_wp2_with fail
  refine (decklelaw02_works.calls true _ hT c0.out).mono ?_
  rintro e w1 ⟨rfl, b1⟩
  have hT1 : Aside0 (Tabs w1) := ⟨tabs_below hT.out b1⟩
  go_wp2_with fail
  refine (crc_More.calls _ _ T2 _ hT1 c1.out).mono ?_
  rintro e w2 ⟨rfl, d2⟩
  have hT2 : Aside0 (Tabs w2) := ⟨tabs_below hT1.out d2.below⟩
  go_wp2_with fail
  refine (crc_More.calls _ _ T1 _ hT2 c2.out).mono ?_
  rintro e w3 ⟨rfl, d3⟩
  have hT3 : Aside0 (Tabs w3) := ⟨tabs_below hT2.out d3.below⟩
  go_wp2_with fail
  refine (crc_More.calls _ _ T2 _ hT3 c3.out).mono ?_
  rintro e w4 ⟨rfl, d4⟩
  have hT4 : Aside0 (Tabs w4) := ⟨tabs_below hT3.out d4.below⟩
  go_wp2_with fail
  refine (crc_More.calls _ _ T3 _ hT4 c4.out).mono ?_
  rintro e w5 ⟨rfl, d5⟩
  have hT5 : Aside0 (Tabs w5) := ⟨tabs_below hT4.out d5.below⟩
  go_wp2_with fail
  refine (crc_Sum.calls _ T4 _ hT5 c5.out).mono ?_
  rintro e w6 ⟨rfl, d6⟩
  have hT6 : Aside0 (Tabs w6) := ⟨tabs_below hT5.out d6.below⟩
  go_wp2_with fail
  refine (crc_Seal.calls _ t _ hT6 c6.out).mono ?_
  rintro e w7 ⟨rfl, d7⟩
  have hT7 : Aside0 (Tabs w7) := ⟨tabs_below hT6.out d7⟩
  go_wp2_with fail
  refine (crc_Whole.calls _ true _ hT7 c7.out).mono ?_
  rintro e w8 ⟨rfl, d8⟩
  have hT8 : Aside0 (Tabs w8) := ⟨tabs_below hT7.out d8⟩
  go_wp2_with fail
  refine (crc_Seal.calls _ t _ hT8 c6.out).mono ?_
  rintro e w9 ⟨rfl, d9⟩
  have hT9 : Aside0 (Tabs w9) := ⟨tabs_below hT8.out d9⟩
  go_wp2_with fail
  refine (crc_Sum.calls _ T5 _ hT9 c8.out).mono ?_
  rintro e w10 ⟨rfl, d10⟩
  have hT10 : Aside0 (Tabs w10) := ⟨tabs_below hT9.out d10.below⟩
  go_wp2_with fail
  refine (crc_Seal.calls _ u _ hT10 c9.out).mono ?_
  rintro e w11 ⟨rfl, d11⟩
  have hT11 : Aside0 (Tabs w11) := ⟨tabs_below hT10.out d11⟩
  go_wp2_with fail
  refine (crc_Sum.calls _ T5 _ hT11 c10.out).mono ?_
  rintro e w12 ⟨rfl, d12⟩
  go_wp2
  go_ret
  exact ⟨rfl, below_step (below_step (below_step (below_step (below_step (below_step (below_step (below_step (below_step (below_step (below_step b1 d2.below) d3.below) d4.below) d5.below) d6.below) d7) d8) d9) d10.below) d11) d12.below⟩

set_option maxRecDepth 100000 in
set_option maxHeartbeats 1000000 in
theorem crcPieces_long (a0 a1 : ByteArray) (s : Int) (w : World) (hT : Aside0 (Tabs w)) (h : a0.size > 1000 ∨ a0.size ≤ 1000 ∧ a1.size > 1000) (c0 : Hid (decklelaw02_works.f = some true)) :
    Calls Tryd.prog 4 #[.string a0, .string a1, .int .u32 s] w fun e w' => e = .returned (.bool true) ∧ Below w.heap.size w w' := by
  rcases h with h | ⟨h, h1⟩
  · have g0 : decide (1000 < (a0.size : Int)) = true := decide_eq_true (by omega)
    have g2 : decide (1000 < a0.size) = true := decide_eq_true (by omega)
    go_enter Tryd.func4, Tryd.ntmps4
    go_wp2_with fail
    refine (decklelaw02_works.calls true _ hT c0.out).mono ?_
    rintro e w1 ⟨rfl, b1⟩
    go_wp2
    go_ret
    exact ⟨rfl, b1⟩
  · have g0 : decide (1000 < (a0.size : Int)) = false := decide_eq_false (by omega)
    have g1 : decide (1000 < (a1.size : Int)) = true := decide_eq_true (by omega)
    have g2 : decide (1000 < a0.size) = false := decide_eq_false (by omega)
    have g3 : decide (1000 < a1.size) = true := decide_eq_true (by omega)
    go_enter Tryd.func4, Tryd.ntmps4
    go_wp2_with fail
    refine (decklelaw02_works.calls true _ hT c0.out).mono ?_
    rintro e w1 ⟨rfl, b1⟩
    go_wp2
    go_ret
    exact ⟨rfl, b1⟩
end Go.Proofs.YtogohafdkpibdaaDoor.PQ
