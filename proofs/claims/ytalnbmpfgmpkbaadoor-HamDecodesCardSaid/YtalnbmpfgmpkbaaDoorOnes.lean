/- The contracts of math/bits' OnesCount8 and TrailingZeros8 over their tables; no condition beyond a byte. -/
import Derived.Test.YtalnbmpfgmpkbaaDoorPQx0
import Derived.WalkSpells
import Derived.Lib.Hide
namespace Go.Proofs.YtalnbmpfgmpkbaaDoor.PQ
open Go.RowKit Go.Proofs.YtalnbmpfgmpkbaaDoorW.PrintWords
set_option linter.unusedVariables false
/-- How many bits are 1. -/
def onesN (x : Nat) : Nat := ((List.range 8).filter fun k => x.testBit k).length
/-- The lowest bit that is 1; of none 8. -/
def lowN (x : Nat) : Nat := ((List.range 8).find? fun k => x.testBit k).getD 8
set_option maxHeartbeats 1000000 in
set_option maxRecDepth 100000 in
theorem ones_core (x : Nat) (w : World) (hx : x < 256) :
    Calls Tryd.prog 17 #[.int .u8 (x : Int)] w fun e w' => e = .returned (.int .i64 (onesN x : Int)) ∧ Drawn0 w w' := by
  go_enter Tryd.func17, Tryd.ntmps17
  go_wp2
  go_ret
  refine ⟨congrArg (fun z => Ending.returned (Value.int .i64 z)) ?_, Drawn0.refl _⟩
  clear w
  revert x
  decide +kernel
set_option maxHeartbeats 1000000 in
set_option maxRecDepth 100000 in
theorem low_core (x : Nat) (w : World) (hx : x < 256) :
    Calls Tryd.prog 24 #[.int .u8 (x : Int)] w fun e w' => e = .returned (.int .i64 (lowN x : Int)) ∧ Drawn0 w w' := by
  go_enter Tryd.func24, Tryd.ntmps24
  go_wp2
  go_ret
  refine ⟨congrArg (fun z => Ending.returned (Value.int .i64 z)) ?_, Drawn0.refl _⟩
  clear w
  revert x
  decide +kernel
def bits_OnesCount8.f (a0 : Int) : Option Int := if 0 ≤ a0 ∧ a0 < 256 then some (onesN a0.toNat : Int) else none
def bits_TrailingZeros8.f (a0 : Int) : Option Int := if 0 ≤ a0 ∧ a0 < 256 then some (lowN a0.toNat : Int) else none
theorem bits_OnesCount8.calls (a0 : Int) (r : Int) (w : World) (h : bits_OnesCount8.f a0 = some r) :
    Calls Tryd.prog 17 #[.int .u8 a0] w fun e w' => e = .returned (.int .i64 r) ∧ Drawn0 w w' := by
  unfold bits_OnesCount8.f at h
  split at h
  · rename_i hr
    obtain ⟨x, rfl⟩ := Int.eq_ofNat_of_zero_le hr.1
    obtain rfl := Option.some.inj h
    exact ones_core x w (by omega)
  · cases h
theorem bits_TrailingZeros8.calls (a0 : Int) (r : Int) (w : World) (h : bits_TrailingZeros8.f a0 = some r) :
    Calls Tryd.prog 24 #[.int .u8 a0] w fun e w' => e = .returned (.int .i64 r) ∧ Drawn0 w w' := by
  unfold bits_TrailingZeros8.f at h
  split at h
  · rename_i hr
    obtain ⟨x, rfl⟩ := Int.eq_ofNat_of_zero_le hr.1
    obtain rfl := Option.some.inj h
    exact low_core x w (by omega)
  · cases h
end Go.Proofs.YtalnbmpfgmpkbaaDoor.PQ
