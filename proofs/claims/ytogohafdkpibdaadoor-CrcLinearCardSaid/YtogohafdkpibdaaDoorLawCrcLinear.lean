/- The law CrcLinear: for every input its Go function answers true and leaves its arguments as they were; no condition; the package-level tables lie as the program's text lays them. -/
import Derived.Test.YtogohafdkpibdaaDoorRows
import Derived.Test.YtogohafdkpibdaaDoorLinear
import Derived.WalkKit
import Derived.ProofKit
import Derived.OpenShut
import Derived.ShutString
import Derived.ChangeOld
import Derived.Below
import Derived.SizedLaws
import Derived.Test.YtogohafdkpibdaaDoorTie
import Derived.Test.YtogohafdkpibdaaDoorCards
import Derived.Test.YtogohafdkpibdaaDoorLaid
import Derived.LaidMore
import Derived.SevenTiedAt
import Derived.Test.YtogohafdkpibdaaDoorArr
namespace Go.Proofs.YtogohafdkpibdaaDoor.crcLinear
open Go Go.ChangeShapes Go.WideShapes Go.ChangeAt Go.RowKit
open Go.ChangeMaps (open_string shut_string)
set_option linter.unusedVariables false
theorem own : ownKnob Tryd.prog.godebug = none := by kernel_rfl
theorem laidOut : laidOutB Tryd.prog = true := by kernel_rfl
set_option maxRecDepth 100000 in
theorem lifted (os : Os) (started : os.Started) (H : Type) (enc : TypeId × Value → H) :
    ReturnsInHanded {} Tryd.checked os 5 .any (fun w args => (Rows.crcLinearSpec.pre enc Tryd.prog Tryd.f5 [] false w args ∧ laidMetH Tryd.prog PQ.laidL w) ∧ sizedMet enc Tryd.prog Tryd.f5 (OpenSpec.ofChange Rows.crcLinearSpec) false w args) (Rows.crcLinearSpec.post enc Tryd.prog Tryd.f5 false true false false) := by
  refine returnsInHanded_of_change_and (C := Tryd.checked) (X := fun w _ => laidMetH Tryd.prog PQ.laidL w) (fun _ _ _ hh h => h.of_heap hh) own started (by kernel_rfl) Tryd.func5
    (ChangeSpec.witness_shaped (enc := enc) (C := Tryd.checked) (os := os) (X := fun w _ => laidMetH Tryd.prog PQ.laidL w) false (World.doorLaid Tryd.prog 400 os) #[.agg #[.string ByteArray.empty, .string ByteArray.empty, .string ByteArray.empty]] 8 rfl (World.shaped_of_RefB (by kernel_rfl) (by kernel_rfl)) (by kernel_rfl) (by kernel_rfl) (by kernel_rfl) (PQ.door_met os _)) ?_
  intro W base args ds gs before hval0 hW hcnd hsz0 hL _
  have hsz : (DataW.weightsEach Tryd.prog (Tryd.f5.params.toList ++ Rows.crcLinearSpec.plain.varTypes Tryd.prog) (ds ++ gs)).all (· ≤ reachBytes) = true := hsz0
  have hval : ∀ (j : Nat) t v, Tryd.f5.params[j]? = some t → args[j]? = some v → Value.okWide Tryd.prog W .any base t v := hval0
  have hW' := hW
  obtain ⟨p, q, hA0, hV, rfl, hfz, hnd⟩ := hW
  have hA : DataW.TrodAll enc Tryd.prog W 0 (fun _ => true) true Tryd.f5.params.toList args.toList ds p := hA0
  rw [Tryd.params5] at hA hval hsz
  obtain ⟨v0, vs0, d0, ds0, p0, q0, hargs, rfl, rfl, h0, r0⟩ := trodAll_cons hA
  obtain ⟨rfl, rfl, rfl⟩ := trodAll_nil r0
  obtain rfl : args = #[v0] := by cases args; simp_all
  obtain ⟨rfl, rfl⟩ := trodVars_none hV
  have k0 := h0
  have lt0 : ∀ x ∈ p0, x.block < W.heap.size := by obtain ⟨m, hm⟩ := k0; exact DataW.trod_lt m _ _ _ hm
  obtain ⟨cs0, xs0, m0, rfl, hl0, rfl, rfl, hn0, hel0⟩ := Go.Proofs.YtogohafdkpibdaaDoor.Arr.open_arr Tryd.underlying30 (by kernel_rfl) (by kernel_rfl) (hval 0 30 v0 rfl rfl) h0 (fun _ => rfl)
  obtain ⟨c0_0, c0_1, c0_2, rfl⟩ := Go.Proofs.YtogohafdkpibdaaDoor.Arr.list3 hl0
  obtain ⟨y0_0, hx0_0, hy0_0⟩ := hel0 0 _ rfl
  obtain ⟨a0_0, e0_0, f0_0⟩ := DataW.trod_string Tryd.underlying9 hy0_0
  obtain rfl := List.cons.inj e0_0 |>.1
  obtain ⟨y0_1, hx0_1, hy0_1⟩ := hel0 1 _ rfl
  obtain ⟨a0_1, e0_1, f0_1⟩ := DataW.trod_string Tryd.underlying9 hy0_1
  obtain rfl := List.cons.inj e0_1 |>.1
  obtain ⟨y0_2, hx0_2, hy0_2⟩ := hel0 2 _ rfl
  obtain ⟨a0_2, e0_2, f0_2⟩ := DataW.trod_string Tryd.underlying9 hy0_2
  obtain rfl := List.cons.inj e0_2 |>.1
  have hT : Go.Proofs.YtogohafdkpibdaaDoorW.PrintWords.Aside0 (PQ.Tabs W) := ⟨PQ.tabs_of_laid hL⟩
  clear hA0 hval0 hsz0 hsz
  refine (Pure.crcLinear_walk a0_0 a0_1 a0_2 W  hT).mono fun e W' ⟨he, bel⟩ => ?_
  subst he
  exact ⟨_, rfl, _, _, _, [], _, [], hW', trodAll_mk1 (shut_bool Tryd.underlying4 _), (trodAll_cons_mk (Below.trod laidOut (by kernel_rfl) (of_decide_eq_true (by kernel_rfl)) k0 bel lt0) trodAll_mk0), rfl, bel.frame _, fun h => by cases h⟩
theorem over : Rows.crcLinearRow.holds Tryd.pinned (OpenSpec.ofChange Rows.crcLinearSpec) :=
  OpenClaim.holds_of_wide 5 Tryd.f5 rfl rfl rfl rfl rfl rfl rfl ⟨rfl, rfl, rfl, rfl, rfl⟩ rfl rfl rfl rfl rfl (by kernel_rfl) Tryd.func5 (by kernel_rfl)
    (of_decide_eq_true (by kernel_rfl)) (by unfold Func.isWrapper; first | (rw [if_pos (by decide +kernel)]; kernel_rfl) | (rw [if_neg (by decide +kernel)]; exact ⟨rfl, rfl⟩))
    (fun os started H enc _ => lifted os started H enc)
theorem card : Rows.CrcLinearCardSaid :=
  Claim7.holds_tied_plain_at .later [] [.data] true (true, "7bafe6986c27fabd550b4d0c7f2d80a44c4fca9341e7a8dea0d1d6746dac25ee") false
    over (fun _ h => by cases h) (by kernel_rfl) (fun _ h => by cases h) crcLinear_row_tie rfl ⟨rfl, rfl⟩ (by kernel_rfl) rfl
    (fun f fn hf hfn => by
      obtain rfl : f = 5 := Option.some.inj ((show Tryd.prog.funcNamed "deckle/decklelaw02.CrcLinear" = some 5 by kernel_rfl).symm.trans hf) |>.symm
      obtain rfl : fn = Tryd.f5 := (Option.some.inj (Tryd.func5.symm.trans hfn)).symm
      exact ⟨by kernel_rfl, fun j t ht => by
        rw [Tryd.params5] at ht
        rcases j with _ | j
        · obtain rfl : 30 = t := by simpa using ht
          kernel_rfl
        simp at ht⟩)
    (by kernel_rfl)
end Go.Proofs.YtogohafdkpibdaaDoor.crcLinear
namespace Go.Proofs.YtogohafdkpibdaaDoor
/-- The law, under a short name, for the claim. -/
theorem crcLinear_holds : Rows.CrcLinearCardSaid := crcLinear.card
#print axioms crcLinear_holds
end Go.Proofs.YtogohafdkpibdaaDoor
