/- What some of the Go functions of this law compute, each as a Lean function with a proof that the machine does just that; no condition beyond those stated. Written by a program of this session. -/
import Derived.Test.YtalnbmpfgmpkbaaDoorPQx0
import Derived.Test.YtalnbmpfgmpkbaaDoorPQx1
import Derived.Test.YtalnbmpfgmpkbaaDoorTabs
namespace Go.Proofs.YtalnbmpfgmpkbaaDoor.PQ
open Go.RowKit Go.Proofs.YtalnbmpfgmpkbaaDoorW.PrintWords Go.Proofs.YtalnbmpfgmpkbaaDoorW.PrintLast Go.Proofs.YtalnbmpfgmpkbaaDoorW.PrintMore
attribute [local go_sem] max2_int min2_int max_two min_two max_three min_three max_four min_four   -- for this text's walks alone
set_option linter.unusedVariables false
set_option linter.unusedSimpArgs false

/-! ### decklelaw03_works: function 9 -/
def decklelaw03_works.f (k : Nat)  : Option (Bool) := (ham_Encode.f (⟨#[0, 0, 0, 0, 0, 0, 0, 0]⟩ : ByteArray)).bind fun bt114 => ((ham_Encode.f (⟨#[1, 0, 0, 0, 0, 0, 0, 0]⟩ : ByteArray)).bind fun bt116 => ((ham_Decode.f k bt116.1).bind fun bt118 => (if bt114.2 = 0 then (if bt114.1.toList = ([0, 0, 0, 0, 0, 0, 0, 0, 0] : List UInt8) then (if bt116.1.toList = ([1, 0, 0, 0, 0, 0, 0, 0, 131] : List UInt8) then (if bt118.2.2 = 0 then (if bt118.2.1 = 2 then (if 0 ≤ 8 then (if 8 ≤ (bt116.1.size : Int) then (some (bt118.1.toList == (bt116.1.extract 0 8).toList)) else (none)) else (none)) else (some false)) else (some false)) else (some false)) else (some false)) else (some false))))
theorem decklelaw03_works.mono : ∀ k, LeO (decklelaw03_works.f k ) (decklelaw03_works.f (k + 1) ) := by
  intro  k
  unfold decklelaw03_works.f
  repeat' first
      | (with_reducible exact ham_Decode.mono _ _)
      | (with_reducible exact LeO.refl _)
      | (with_reducible exact LeO.none _)
      | (with_reducible refine LeO.ite ?_ ?_)
      | (with_reducible refine LeO.bind ?_ (fun _ => ?_))
      | exact ham_Decode.mono _ _
      | exact LeO.none _
      | refine LeO.ite ?_ ?_
      | refine LeO.bind ?_ (fun _ => ?_)
set_option maxHeartbeats 8000000 in
set_option maxRecDepth 100000 in
theorem decklelaw03_works.calls (k : Nat)  (r : Bool) (w : World) (hT : Aside0 (Tabs w)) (h : decklelaw03_works.f k  = some r) :
    Calls Tryd.prog 9 #[] w fun e w' => e = .returned (.bool r) ∧ Below w.heap.size w w' := by
  have HB := Aside0.mk (Below.refl w.heap.size w)
  have H : ((ham_Encode.f (⟨#[0, 0, 0, 0, 0, 0, 0, 0]⟩ : ByteArray)).bind fun bt114 => ((ham_Encode.f (⟨#[1, 0, 0, 0, 0, 0, 0, 0]⟩ : ByteArray)).bind fun bt116 => ((ham_Decode.f k bt116.1).bind fun bt118 => (if bt114.2 = 0 then (if bt114.1.toList = ([0, 0, 0, 0, 0, 0, 0, 0, 0] : List UInt8) then (if bt116.1.toList = ([1, 0, 0, 0, 0, 0, 0, 0, 131] : List UInt8) then (if bt118.2.2 = 0 then (if bt118.2.1 = 2 then (if 0 ≤ 8 then (if 8 ≤ (bt116.1.size : Int) then (some (bt118.1.toList == (bt116.1.extract 0 8).toList)) else (none)) else (none)) else (some false)) else (some false)) else (some false)) else (some false)) else (some false))))) = some r := h
  clear h
  replace H := Option.bind_eq_some_iff.mp H
  obtain ⟨⟨t114, t115⟩, A10, H⟩ := H
  replace H : ((ham_Encode.f (⟨#[1, 0, 0, 0, 0, 0, 0, 0]⟩ : ByteArray)).bind fun bt116 => ((ham_Decode.f k bt116.1).bind fun bt118 => (if t115 = 0 then (if t114.toList = ([0, 0, 0, 0, 0, 0, 0, 0, 0] : List UInt8) then (if bt116.1.toList = ([1, 0, 0, 0, 0, 0, 0, 0, 131] : List UInt8) then (if bt118.2.2 = 0 then (if bt118.2.1 = 2 then (if 0 ≤ 8 then (if 8 ≤ (bt116.1.size : Int) then (some (bt118.1.toList == (bt116.1.extract 0 8).toList)) else (none)) else (none)) else (some false)) else (some false)) else (some false)) else (some false)) else (some false)))) = some r := H
  have A1 := Aside0.mk A10
  clear A10
  replace H := Option.bind_eq_some_iff.mp H
  obtain ⟨⟨t116, t117⟩, A20, H⟩ := H
  replace H : ((ham_Decode.f k t116).bind fun bt118 => (if t115 = 0 then (if t114.toList = ([0, 0, 0, 0, 0, 0, 0, 0, 0] : List UInt8) then (if t116.toList = ([1, 0, 0, 0, 0, 0, 0, 0, 131] : List UInt8) then (if bt118.2.2 = 0 then (if bt118.2.1 = 2 then (if 0 ≤ 8 then (if 8 ≤ (t116.size : Int) then (some (bt118.1.toList == (t116.extract 0 8).toList)) else (none)) else (none)) else (some false)) else (some false)) else (some false)) else (some false)) else (some false))) = some r := H
  have A2 := Aside0.mk A20
  clear A20
  replace H := Option.bind_eq_some_iff.mp H
  obtain ⟨⟨t118, t119, t120⟩, A30, H⟩ := H
  replace H : (if t115 = 0 then (if t114.toList = ([0, 0, 0, 0, 0, 0, 0, 0, 0] : List UInt8) then (if t116.toList = ([1, 0, 0, 0, 0, 0, 0, 0, 131] : List UInt8) then (if t120 = 0 then (if t119 = 2 then (if 0 ≤ 8 then (if 8 ≤ (t116.size : Int) then (some (t118.toList == (t116.extract 0 8).toList)) else (none)) else (none)) else (some false)) else (some false)) else (some false)) else (some false)) else (some false)) = some r := H
  have A3 := Aside0.mk A30
  clear A30
  by_cases c4 : t115 = 0
  · rw [if_pos c4] at H
    have c4b0 : (t115 == 0) = true := beq_iff_eq.mpr c4
    have c4b1 : (t115 != 0) = false := bne_eq_false_iff_eq.mpr c4
    clear c4
    by_cases c5 : t114.toList = ([0, 0, 0, 0, 0, 0, 0, 0, 0] : List UInt8)
    · rw [if_pos c5] at H
      have c5b0 : (t114.toList == ([0, 0, 0, 0, 0, 0, 0, 0, 0] : List UInt8)) = true := beq_iff_eq.mpr c5
      have c5b1 : (t114.toList != ([0, 0, 0, 0, 0, 0, 0, 0, 0] : List UInt8)) = false := bne_eq_false_iff_eq.mpr c5
      clear c5
      by_cases c6 : t116.toList = ([1, 0, 0, 0, 0, 0, 0, 0, 131] : List UInt8)
      · rw [if_pos c6] at H
        have c6b0 : (t116.toList == ([1, 0, 0, 0, 0, 0, 0, 0, 131] : List UInt8)) = true := beq_iff_eq.mpr c6
        have c6b1 : (t116.toList != ([1, 0, 0, 0, 0, 0, 0, 0, 131] : List UInt8)) = false := bne_eq_false_iff_eq.mpr c6
        clear c6
        by_cases c7 : t120 = 0
        · rw [if_pos c7] at H
          have c7b0 : (t120 == 0) = true := beq_iff_eq.mpr c7
          have c7b1 : (t120 != 0) = false := bne_eq_false_iff_eq.mpr c7
          clear c7
          by_cases c8 : t119 = 2
          · rw [if_pos c8] at H
            have c8b0 : (t119 == 2) = true := beq_iff_eq.mpr c8
            have c8b1 : (t119 != 2) = false := bne_eq_false_iff_eq.mpr c8
            clear c8
            by_cases c9 : 0 ≤ 8
            · rw [if_pos c9] at H
              have c9b0 := eq_true c9
              have c9b1 : decide (0 ≤ 8) = true := decide_eq_true c9
              clear c9
              by_cases c10 : 8 ≤ (t116.size : Int)
              · rw [if_pos c10] at H
                have c10b0 := eq_true c10
                have c10b1 : decide (8 ≤ (t116.size : Int)) = true := decide_eq_true c10
                clear c10
                obtain rfl := Option.some.inj H
                go_enter Tryd.func9, Tryd.ntmps9
                go_wp2_with (first | ((with_reducible refine gate_callee (f := 10) rfl ?_); refine goesL_ (some 9) rfl rfl Tryd.func10 (by kernel_rfl) rfl #[.string (⟨#[0, 0, 0, 0, 0, 0, 0, 0]⟩ : ByteArray)] rfl (by (try simp only [List.map_toArray, List.map_cons, List.map_nil]); first | done | rfl | (simp only [List.length_drop, List.length_take]; rfl)) ?_; (with_reducible refine (ham_Encode.calls (⟨#[0, 0, 0, 0, 0, 0, 0, 0]⟩ : ByteArray) t114 t115 _ ?side1 A1.out).mono ?_); (case side1 => first | exact hT | exact ⟨tabs_below hT.out (by repeat (first | (with_reducible first | exact HB.out | apply below_alloc | apply pw_below_drewN | apply below_drew1) | exact HB.out))⟩ | (refine ⟨?_⟩; repeat (first | exact hT.out | refine tabs_drewN ?_ _ | refine tabs_drew ?_ | refine tabs_alloc ?_ _))); rintro e w11 ⟨rfl, hb⟩; refine ⟨_, rfl, ?_⟩; have n0_ := Aside0.mk (below_step (by repeat (first | (with_reducible first | exact HB.out | apply below_alloc | apply pw_below_drewN | apply below_drew1) | exact HB.out)) hb); clear HB; have HB := n0_; clear n0_; (try clear hb); (try clear hb2); (try clear hk); (try clear hi)) | ((with_reducible refine gate_callee (f := 10) rfl ?_); refine goesL_ (some 13) rfl rfl Tryd.func10 (by kernel_rfl) rfl #[.string (⟨#[1, 0, 0, 0, 0, 0, 0, 0]⟩ : ByteArray)] rfl (by (try simp only [List.map_toArray, List.map_cons, List.map_nil]); first | done | rfl | (simp only [List.length_drop, List.length_take]; rfl)) ?_; (with_reducible refine (ham_Encode.calls (⟨#[1, 0, 0, 0, 0, 0, 0, 0]⟩ : ByteArray) t116 t117 _ ?side1 A2.out).mono ?_); (case side1 => first | exact hT | exact ⟨tabs_below hT.out (by repeat (first | (with_reducible first | exact HB.out | apply below_alloc | apply pw_below_drewN | apply below_drew1) | exact HB.out))⟩ | (refine ⟨?_⟩; repeat (first | exact hT.out | refine tabs_drewN ?_ _ | refine tabs_drew ?_ | refine tabs_alloc ?_ _))); rintro e w12 ⟨rfl, hb⟩; refine ⟨_, rfl, ?_⟩; have n0_ := Aside0.mk (below_step (by repeat (first | (with_reducible first | exact HB.out | apply below_alloc | apply pw_below_drewN | apply below_drew1) | exact HB.out)) hb); clear HB; have HB := n0_; clear n0_; (try clear hb); (try clear hb2); (try clear hk); (try clear hi)) | ((with_reducible refine gate_callee (f := 12) rfl ?_); refine goesL_ (some 18) rfl rfl Tryd.func12 (by kernel_rfl) rfl #[.string t116] rfl (by (try simp only [List.map_toArray, List.map_cons, List.map_nil]); first | done | rfl | (simp only [List.length_drop, List.length_take]; rfl)) ?_; (with_reducible refine (ham_Decode.calls k t116 t118 t119 t120 _ ?side1 A3.out).mono ?_); (case side1 => first | exact hT | exact ⟨tabs_below hT.out (by repeat (first | (with_reducible first | exact HB.out | apply below_alloc | apply pw_below_drewN | apply below_drew1) | exact HB.out))⟩ | (refine ⟨?_⟩; repeat (first | exact hT.out | refine tabs_drewN ?_ _ | refine tabs_drew ?_ | refine tabs_alloc ?_ _))); rintro e w13 ⟨rfl, hb⟩; refine ⟨_, rfl, ?_⟩; have n0_ := Aside0.mk (below_step (by repeat (first | (with_reducible first | exact HB.out | apply below_alloc | apply pw_below_drewN | apply below_drew1) | exact HB.out)) hb); clear HB; have HB := n0_; clear n0_; (try clear hb); (try clear hb2); (try clear hk); (try clear hi)))
                go_ret
                exact ⟨by first | rfl | (simp [errW_none, errW_some] <;> rfl) | (simp [*, errW_none, errW_some] <;> rfl), by repeat (first | (with_reducible first | exact HB.out | apply below_alloc | apply pw_below_drewN | apply below_drew1) | exact HB.out)⟩
              · rw [if_neg c10] at H
                exact absurd H (by simp)
            · rw [if_neg c9] at H
              exact absurd H (by simp)
          · rw [if_neg c8] at H
            have c8b0 : (t119 == 2) = false := beq_eq_false_iff_ne.mpr c8
            have c8b1 : (t119 != 2) = true := bne_iff_ne.mpr c8
            obtain rfl := Option.some.inj H
            go_enter Tryd.func9, Tryd.ntmps9
            go_wp2_with (first | ((with_reducible refine gate_callee (f := 10) rfl ?_); refine goesL_ (some 9) rfl rfl Tryd.func10 (by kernel_rfl) rfl #[.string (⟨#[0, 0, 0, 0, 0, 0, 0, 0]⟩ : ByteArray)] rfl (by (try simp only [List.map_toArray, List.map_cons, List.map_nil]); first | done | rfl | (simp only [List.length_drop, List.length_take]; rfl)) ?_; (with_reducible refine (ham_Encode.calls (⟨#[0, 0, 0, 0, 0, 0, 0, 0]⟩ : ByteArray) t114 t115 _ ?side1 A1.out).mono ?_); (case side1 => first | exact hT | exact ⟨tabs_below hT.out (by repeat (first | (with_reducible first | exact HB.out | apply below_alloc | apply pw_below_drewN | apply below_drew1) | exact HB.out))⟩ | (refine ⟨?_⟩; repeat (first | exact hT.out | refine tabs_drewN ?_ _ | refine tabs_drew ?_ | refine tabs_alloc ?_ _))); rintro e w14 ⟨rfl, hb⟩; refine ⟨_, rfl, ?_⟩; have n0_ := Aside0.mk (below_step (by repeat (first | (with_reducible first | exact HB.out | apply below_alloc | apply pw_below_drewN | apply below_drew1) | exact HB.out)) hb); clear HB; have HB := n0_; clear n0_; (try clear hb); (try clear hb2); (try clear hk); (try clear hi)) | ((with_reducible refine gate_callee (f := 10) rfl ?_); refine goesL_ (some 13) rfl rfl Tryd.func10 (by kernel_rfl) rfl #[.string (⟨#[1, 0, 0, 0, 0, 0, 0, 0]⟩ : ByteArray)] rfl (by (try simp only [List.map_toArray, List.map_cons, List.map_nil]); first | done | rfl | (simp only [List.length_drop, List.length_take]; rfl)) ?_; (with_reducible refine (ham_Encode.calls (⟨#[1, 0, 0, 0, 0, 0, 0, 0]⟩ : ByteArray) t116 t117 _ ?side1 A2.out).mono ?_); (case side1 => first | exact hT | exact ⟨tabs_below hT.out (by repeat (first | (with_reducible first | exact HB.out | apply below_alloc | apply pw_below_drewN | apply below_drew1) | exact HB.out))⟩ | (refine ⟨?_⟩; repeat (first | exact hT.out | refine tabs_drewN ?_ _ | refine tabs_drew ?_ | refine tabs_alloc ?_ _))); rintro e w15 ⟨rfl, hb⟩; refine ⟨_, rfl, ?_⟩; have n0_ := Aside0.mk (below_step (by repeat (first | (with_reducible first | exact HB.out | apply below_alloc | apply pw_below_drewN | apply below_drew1) | exact HB.out)) hb); clear HB; have HB := n0_; clear n0_; (try clear hb); (try clear hb2); (try clear hk); (try clear hi)) | ((with_reducible refine gate_callee (f := 12) rfl ?_); refine goesL_ (some 18) rfl rfl Tryd.func12 (by kernel_rfl) rfl #[.string t116] rfl (by (try simp only [List.map_toArray, List.map_cons, List.map_nil]); first | done | rfl | (simp only [List.length_drop, List.length_take]; rfl)) ?_; (with_reducible refine (ham_Decode.calls k t116 t118 t119 t120 _ ?side1 A3.out).mono ?_); (case side1 => first | exact hT | exact ⟨tabs_below hT.out (by repeat (first | (with_reducible first | exact HB.out | apply below_alloc | apply pw_below_drewN | apply below_drew1) | exact HB.out))⟩ | (refine ⟨?_⟩; repeat (first | exact hT.out | refine tabs_drewN ?_ _ | refine tabs_drew ?_ | refine tabs_alloc ?_ _))); rintro e w16 ⟨rfl, hb⟩; refine ⟨_, rfl, ?_⟩; have n0_ := Aside0.mk (below_step (by repeat (first | (with_reducible first | exact HB.out | apply below_alloc | apply pw_below_drewN | apply below_drew1) | exact HB.out)) hb); clear HB; have HB := n0_; clear n0_; (try clear hb); (try clear hb2); (try clear hk); (try clear hi)))
            go_ret
            exact ⟨by first | rfl | (simp [errW_none, errW_some] <;> rfl) | (simp [*, errW_none, errW_some] <;> rfl), by repeat (first | (with_reducible first | exact HB.out | apply below_alloc | apply pw_below_drewN | apply below_drew1) | exact HB.out)⟩
        · rw [if_neg c7] at H
          have c7b0 : (t120 == 0) = false := beq_eq_false_iff_ne.mpr c7
          have c7b1 : (t120 != 0) = true := bne_iff_ne.mpr c7
          obtain rfl := Option.some.inj H
          go_enter Tryd.func9, Tryd.ntmps9
          go_wp2_with (first | ((with_reducible refine gate_callee (f := 10) rfl ?_); refine goesL_ (some 9) rfl rfl Tryd.func10 (by kernel_rfl) rfl #[.string (⟨#[0, 0, 0, 0, 0, 0, 0, 0]⟩ : ByteArray)] rfl (by (try simp only [List.map_toArray, List.map_cons, List.map_nil]); first | done | rfl | (simp only [List.length_drop, List.length_take]; rfl)) ?_; (with_reducible refine (ham_Encode.calls (⟨#[0, 0, 0, 0, 0, 0, 0, 0]⟩ : ByteArray) t114 t115 _ ?side1 A1.out).mono ?_); (case side1 => first | exact hT | exact ⟨tabs_below hT.out (by repeat (first | (with_reducible first | exact HB.out | apply below_alloc | apply pw_below_drewN | apply below_drew1) | exact HB.out))⟩ | (refine ⟨?_⟩; repeat (first | exact hT.out | refine tabs_drewN ?_ _ | refine tabs_drew ?_ | refine tabs_alloc ?_ _))); rintro e w17 ⟨rfl, hb⟩; refine ⟨_, rfl, ?_⟩; have n0_ := Aside0.mk (below_step (by repeat (first | (with_reducible first | exact HB.out | apply below_alloc | apply pw_below_drewN | apply below_drew1) | exact HB.out)) hb); clear HB; have HB := n0_; clear n0_; (try clear hb); (try clear hb2); (try clear hk); (try clear hi)) | ((with_reducible refine gate_callee (f := 10) rfl ?_); refine goesL_ (some 13) rfl rfl Tryd.func10 (by kernel_rfl) rfl #[.string (⟨#[1, 0, 0, 0, 0, 0, 0, 0]⟩ : ByteArray)] rfl (by (try simp only [List.map_toArray, List.map_cons, List.map_nil]); first | done | rfl | (simp only [List.length_drop, List.length_take]; rfl)) ?_; (with_reducible refine (ham_Encode.calls (⟨#[1, 0, 0, 0, 0, 0, 0, 0]⟩ : ByteArray) t116 t117 _ ?side1 A2.out).mono ?_); (case side1 => first | exact hT | exact ⟨tabs_below hT.out (by repeat (first | (with_reducible first | exact HB.out | apply below_alloc | apply pw_below_drewN | apply below_drew1) | exact HB.out))⟩ | (refine ⟨?_⟩; repeat (first | exact hT.out | refine tabs_drewN ?_ _ | refine tabs_drew ?_ | refine tabs_alloc ?_ _))); rintro e w18 ⟨rfl, hb⟩; refine ⟨_, rfl, ?_⟩; have n0_ := Aside0.mk (below_step (by repeat (first | (with_reducible first | exact HB.out | apply below_alloc | apply pw_below_drewN | apply below_drew1) | exact HB.out)) hb); clear HB; have HB := n0_; clear n0_; (try clear hb); (try clear hb2); (try clear hk); (try clear hi)) | ((with_reducible refine gate_callee (f := 12) rfl ?_); refine goesL_ (some 18) rfl rfl Tryd.func12 (by kernel_rfl) rfl #[.string t116] rfl (by (try simp only [List.map_toArray, List.map_cons, List.map_nil]); first | done | rfl | (simp only [List.length_drop, List.length_take]; rfl)) ?_; (with_reducible refine (ham_Decode.calls k t116 t118 t119 t120 _ ?side1 A3.out).mono ?_); (case side1 => first | exact hT | exact ⟨tabs_below hT.out (by repeat (first | (with_reducible first | exact HB.out | apply below_alloc | apply pw_below_drewN | apply below_drew1) | exact HB.out))⟩ | (refine ⟨?_⟩; repeat (first | exact hT.out | refine tabs_drewN ?_ _ | refine tabs_drew ?_ | refine tabs_alloc ?_ _))); rintro e w19 ⟨rfl, hb⟩; refine ⟨_, rfl, ?_⟩; have n0_ := Aside0.mk (below_step (by repeat (first | (with_reducible first | exact HB.out | apply below_alloc | apply pw_below_drewN | apply below_drew1) | exact HB.out)) hb); clear HB; have HB := n0_; clear n0_; (try clear hb); (try clear hb2); (try clear hk); (try clear hi)))
          go_ret
          exact ⟨by first | rfl | (simp [errW_none, errW_some] <;> rfl) | (simp [*, errW_none, errW_some] <;> rfl), by repeat (first | (with_reducible first | exact HB.out | apply below_alloc | apply pw_below_drewN | apply below_drew1) | exact HB.out)⟩
      · rw [if_neg c6] at H
        have c6b0 : (t116.toList == ([1, 0, 0, 0, 0, 0, 0, 0, 131] : List UInt8)) = false := beq_eq_false_iff_ne.mpr c6
        have c6b1 : (t116.toList != ([1, 0, 0, 0, 0, 0, 0, 0, 131] : List UInt8)) = true := bne_iff_ne.mpr c6
        obtain rfl := Option.some.inj H
        go_enter Tryd.func9, Tryd.ntmps9
        go_wp2_with (first | ((with_reducible refine gate_callee (f := 10) rfl ?_); refine goesL_ (some 9) rfl rfl Tryd.func10 (by kernel_rfl) rfl #[.string (⟨#[0, 0, 0, 0, 0, 0, 0, 0]⟩ : ByteArray)] rfl (by (try simp only [List.map_toArray, List.map_cons, List.map_nil]); first | done | rfl | (simp only [List.length_drop, List.length_take]; rfl)) ?_; (with_reducible refine (ham_Encode.calls (⟨#[0, 0, 0, 0, 0, 0, 0, 0]⟩ : ByteArray) t114 t115 _ ?side1 A1.out).mono ?_); (case side1 => first | exact hT | exact ⟨tabs_below hT.out (by repeat (first | (with_reducible first | exact HB.out | apply below_alloc | apply pw_below_drewN | apply below_drew1) | exact HB.out))⟩ | (refine ⟨?_⟩; repeat (first | exact hT.out | refine tabs_drewN ?_ _ | refine tabs_drew ?_ | refine tabs_alloc ?_ _))); rintro e w20 ⟨rfl, hb⟩; refine ⟨_, rfl, ?_⟩; have n0_ := Aside0.mk (below_step (by repeat (first | (with_reducible first | exact HB.out | apply below_alloc | apply pw_below_drewN | apply below_drew1) | exact HB.out)) hb); clear HB; have HB := n0_; clear n0_; (try clear hb); (try clear hb2); (try clear hk); (try clear hi)) | ((with_reducible refine gate_callee (f := 10) rfl ?_); refine goesL_ (some 13) rfl rfl Tryd.func10 (by kernel_rfl) rfl #[.string (⟨#[1, 0, 0, 0, 0, 0, 0, 0]⟩ : ByteArray)] rfl (by (try simp only [List.map_toArray, List.map_cons, List.map_nil]); first | done | rfl | (simp only [List.length_drop, List.length_take]; rfl)) ?_; (with_reducible refine (ham_Encode.calls (⟨#[1, 0, 0, 0, 0, 0, 0, 0]⟩ : ByteArray) t116 t117 _ ?side1 A2.out).mono ?_); (case side1 => first | exact hT | exact ⟨tabs_below hT.out (by repeat (first | (with_reducible first | exact HB.out | apply below_alloc | apply pw_below_drewN | apply below_drew1) | exact HB.out))⟩ | (refine ⟨?_⟩; repeat (first | exact hT.out | refine tabs_drewN ?_ _ | refine tabs_drew ?_ | refine tabs_alloc ?_ _))); rintro e w21 ⟨rfl, hb⟩; refine ⟨_, rfl, ?_⟩; have n0_ := Aside0.mk (below_step (by repeat (first | (with_reducible first | exact HB.out | apply below_alloc | apply pw_below_drewN | apply below_drew1) | exact HB.out)) hb); clear HB; have HB := n0_; clear n0_; (try clear hb); (try clear hb2); (try clear hk); (try clear hi)) | ((with_reducible refine gate_callee (f := 12) rfl ?_); refine goesL_ (some 18) rfl rfl Tryd.func12 (by kernel_rfl) rfl #[.string t116] rfl (by (try simp only [List.map_toArray, List.map_cons, List.map_nil]); first | done | rfl | (simp only [List.length_drop, List.length_take]; rfl)) ?_; (with_reducible refine (ham_Decode.calls k t116 t118 t119 t120 _ ?side1 A3.out).mono ?_); (case side1 => first | exact hT | exact ⟨tabs_below hT.out (by repeat (first | (with_reducible first | exact HB.out | apply below_alloc | apply pw_below_drewN | apply below_drew1) | exact HB.out))⟩ | (refine ⟨?_⟩; repeat (first | exact hT.out | refine tabs_drewN ?_ _ | refine tabs_drew ?_ | refine tabs_alloc ?_ _))); rintro e w22 ⟨rfl, hb⟩; refine ⟨_, rfl, ?_⟩; have n0_ := Aside0.mk (below_step (by repeat (first | (with_reducible first | exact HB.out | apply below_alloc | apply pw_below_drewN | apply below_drew1) | exact HB.out)) hb); clear HB; have HB := n0_; clear n0_; (try clear hb); (try clear hb2); (try clear hk); (try clear hi)))
        go_ret
        exact ⟨by first | rfl | (simp [errW_none, errW_some] <;> rfl) | (simp [*, errW_none, errW_some] <;> rfl), by repeat (first | (with_reducible first | exact HB.out | apply below_alloc | apply pw_below_drewN | apply below_drew1) | exact HB.out)⟩
    · rw [if_neg c5] at H
      have c5b0 : (t114.toList == ([0, 0, 0, 0, 0, 0, 0, 0, 0] : List UInt8)) = false := beq_eq_false_iff_ne.mpr c5
      have c5b1 : (t114.toList != ([0, 0, 0, 0, 0, 0, 0, 0, 0] : List UInt8)) = true := bne_iff_ne.mpr c5
      obtain rfl := Option.some.inj H
      go_enter Tryd.func9, Tryd.ntmps9
      go_wp2_with (first | ((with_reducible refine gate_callee (f := 10) rfl ?_); refine goesL_ (some 9) rfl rfl Tryd.func10 (by kernel_rfl) rfl #[.string (⟨#[0, 0, 0, 0, 0, 0, 0, 0]⟩ : ByteArray)] rfl (by (try simp only [List.map_toArray, List.map_cons, List.map_nil]); first | done | rfl | (simp only [List.length_drop, List.length_take]; rfl)) ?_; (with_reducible refine (ham_Encode.calls (⟨#[0, 0, 0, 0, 0, 0, 0, 0]⟩ : ByteArray) t114 t115 _ ?side1 A1.out).mono ?_); (case side1 => first | exact hT | exact ⟨tabs_below hT.out (by repeat (first | (with_reducible first | exact HB.out | apply below_alloc | apply pw_below_drewN | apply below_drew1) | exact HB.out))⟩ | (refine ⟨?_⟩; repeat (first | exact hT.out | refine tabs_drewN ?_ _ | refine tabs_drew ?_ | refine tabs_alloc ?_ _))); rintro e w23 ⟨rfl, hb⟩; refine ⟨_, rfl, ?_⟩; have n0_ := Aside0.mk (below_step (by repeat (first | (with_reducible first | exact HB.out | apply below_alloc | apply pw_below_drewN | apply below_drew1) | exact HB.out)) hb); clear HB; have HB := n0_; clear n0_; (try clear hb); (try clear hb2); (try clear hk); (try clear hi)) | ((with_reducible refine gate_callee (f := 10) rfl ?_); refine goesL_ (some 13) rfl rfl Tryd.func10 (by kernel_rfl) rfl #[.string (⟨#[1, 0, 0, 0, 0, 0, 0, 0]⟩ : ByteArray)] rfl (by (try simp only [List.map_toArray, List.map_cons, List.map_nil]); first | done | rfl | (simp only [List.length_drop, List.length_take]; rfl)) ?_; (with_reducible refine (ham_Encode.calls (⟨#[1, 0, 0, 0, 0, 0, 0, 0]⟩ : ByteArray) t116 t117 _ ?side1 A2.out).mono ?_); (case side1 => first | exact hT | exact ⟨tabs_below hT.out (by repeat (first | (with_reducible first | exact HB.out | apply below_alloc | apply pw_below_drewN | apply below_drew1) | exact HB.out))⟩ | (refine ⟨?_⟩; repeat (first | exact hT.out | refine tabs_drewN ?_ _ | refine tabs_drew ?_ | refine tabs_alloc ?_ _))); rintro e w24 ⟨rfl, hb⟩; refine ⟨_, rfl, ?_⟩; have n0_ := Aside0.mk (below_step (by repeat (first | (with_reducible first | exact HB.out | apply below_alloc | apply pw_below_drewN | apply below_drew1) | exact HB.out)) hb); clear HB; have HB := n0_; clear n0_; (try clear hb); (try clear hb2); (try clear hk); (try clear hi)) | ((with_reducible refine gate_callee (f := 12) rfl ?_); refine goesL_ (some 18) rfl rfl Tryd.func12 (by kernel_rfl) rfl #[.string t116] rfl (by (try simp only [List.map_toArray, List.map_cons, List.map_nil]); first | done | rfl | (simp only [List.length_drop, List.length_take]; rfl)) ?_; (with_reducible refine (ham_Decode.calls k t116 t118 t119 t120 _ ?side1 A3.out).mono ?_); (case side1 => first | exact hT | exact ⟨tabs_below hT.out (by repeat (first | (with_reducible first | exact HB.out | apply below_alloc | apply pw_below_drewN | apply below_drew1) | exact HB.out))⟩ | (refine ⟨?_⟩; repeat (first | exact hT.out | refine tabs_drewN ?_ _ | refine tabs_drew ?_ | refine tabs_alloc ?_ _))); rintro e w25 ⟨rfl, hb⟩; refine ⟨_, rfl, ?_⟩; have n0_ := Aside0.mk (below_step (by repeat (first | (with_reducible first | exact HB.out | apply below_alloc | apply pw_below_drewN | apply below_drew1) | exact HB.out)) hb); clear HB; have HB := n0_; clear n0_; (try clear hb); (try clear hb2); (try clear hk); (try clear hi)))
      go_ret
      exact ⟨by first | rfl | (simp [errW_none, errW_some] <;> rfl) | (simp [*, errW_none, errW_some] <;> rfl), by repeat (first | (with_reducible first | exact HB.out | apply below_alloc | apply pw_below_drewN | apply below_drew1) | exact HB.out)⟩
  · rw [if_neg c4] at H
    have c4b0 : (t115 == 0) = false := beq_eq_false_iff_ne.mpr c4
    have c4b1 : (t115 != 0) = true := bne_iff_ne.mpr c4
    obtain rfl := Option.some.inj H
    go_enter Tryd.func9, Tryd.ntmps9
    go_wp2_with (first | ((with_reducible refine gate_callee (f := 10) rfl ?_); refine goesL_ (some 9) rfl rfl Tryd.func10 (by kernel_rfl) rfl #[.string (⟨#[0, 0, 0, 0, 0, 0, 0, 0]⟩ : ByteArray)] rfl (by (try simp only [List.map_toArray, List.map_cons, List.map_nil]); first | done | rfl | (simp only [List.length_drop, List.length_take]; rfl)) ?_; (with_reducible refine (ham_Encode.calls (⟨#[0, 0, 0, 0, 0, 0, 0, 0]⟩ : ByteArray) t114 t115 _ ?side1 A1.out).mono ?_); (case side1 => first | exact hT | exact ⟨tabs_below hT.out (by repeat (first | (with_reducible first | exact HB.out | apply below_alloc | apply pw_below_drewN | apply below_drew1) | exact HB.out))⟩ | (refine ⟨?_⟩; repeat (first | exact hT.out | refine tabs_drewN ?_ _ | refine tabs_drew ?_ | refine tabs_alloc ?_ _))); rintro e w26 ⟨rfl, hb⟩; refine ⟨_, rfl, ?_⟩; have n0_ := Aside0.mk (below_step (by repeat (first | (with_reducible first | exact HB.out | apply below_alloc | apply pw_below_drewN | apply below_drew1) | exact HB.out)) hb); clear HB; have HB := n0_; clear n0_; (try clear hb); (try clear hb2); (try clear hk); (try clear hi)) | ((with_reducible refine gate_callee (f := 10) rfl ?_); refine goesL_ (some 13) rfl rfl Tryd.func10 (by kernel_rfl) rfl #[.string (⟨#[1, 0, 0, 0, 0, 0, 0, 0]⟩ : ByteArray)] rfl (by (try simp only [List.map_toArray, List.map_cons, List.map_nil]); first | done | rfl | (simp only [List.length_drop, List.length_take]; rfl)) ?_; (with_reducible refine (ham_Encode.calls (⟨#[1, 0, 0, 0, 0, 0, 0, 0]⟩ : ByteArray) t116 t117 _ ?side1 A2.out).mono ?_); (case side1 => first | exact hT | exact ⟨tabs_below hT.out (by repeat (first | (with_reducible first | exact HB.out | apply below_alloc | apply pw_below_drewN | apply below_drew1) | exact HB.out))⟩ | (refine ⟨?_⟩; repeat (first | exact hT.out | refine tabs_drewN ?_ _ | refine tabs_drew ?_ | refine tabs_alloc ?_ _))); rintro e w27 ⟨rfl, hb⟩; refine ⟨_, rfl, ?_⟩; have n0_ := Aside0.mk (below_step (by repeat (first | (with_reducible first | exact HB.out | apply below_alloc | apply pw_below_drewN | apply below_drew1) | exact HB.out)) hb); clear HB; have HB := n0_; clear n0_; (try clear hb); (try clear hb2); (try clear hk); (try clear hi)) | ((with_reducible refine gate_callee (f := 12) rfl ?_); refine goesL_ (some 18) rfl rfl Tryd.func12 (by kernel_rfl) rfl #[.string t116] rfl (by (try simp only [List.map_toArray, List.map_cons, List.map_nil]); first | done | rfl | (simp only [List.length_drop, List.length_take]; rfl)) ?_; (with_reducible refine (ham_Decode.calls k t116 t118 t119 t120 _ ?side1 A3.out).mono ?_); (case side1 => first | exact hT | exact ⟨tabs_below hT.out (by repeat (first | (with_reducible first | exact HB.out | apply below_alloc | apply pw_below_drewN | apply below_drew1) | exact HB.out))⟩ | (refine ⟨?_⟩; repeat (first | exact hT.out | refine tabs_drewN ?_ _ | refine tabs_drew ?_ | refine tabs_alloc ?_ _))); rintro e w28 ⟨rfl, hb⟩; refine ⟨_, rfl, ?_⟩; have n0_ := Aside0.mk (below_step (by repeat (first | (with_reducible first | exact HB.out | apply below_alloc | apply pw_below_drewN | apply below_drew1) | exact HB.out)) hb); clear HB; have HB := n0_; clear n0_; (try clear hb); (try clear hb2); (try clear hk); (try clear hi)))
    go_ret
    exact ⟨by first | rfl | (simp [errW_none, errW_some] <;> rfl) | (simp [*, errW_none, errW_some] <;> rfl), by repeat (first | (with_reducible first | exact HB.out | apply below_alloc | apply pw_below_drewN | apply below_drew1) | exact HB.out)⟩

/-! ### deckleref01_Power: function 26 -/
def deckleref01_Power.l0 : Nat → Int → Int → Int → Option (Int)
  | 0, _, _, _ => none
  | k + 1, x0, x3, x4 => if x4 < x0 then (deckleref01_Power.l0 k x0 (IntKind.u64.wrap (x3 * 2)) (wrap64 (x4 + 1))) else (some x3)
def deckleref01_Power.f (k : Nat) (a0 : Int) : Option (Int) := deckleref01_Power.l0 k a0 1 0
theorem deckleref01_Power.mono_l : ∀ k, (∀ y0 y1 y2, LeO (deckleref01_Power.l0 k y0 y1 y2) (deckleref01_Power.l0 (k + 1) y0 y1 y2))
  | 0 => fun _ _ _ r h => by simp [deckleref01_Power.l0] at h
  | k + 1 => by
    have ih0 := deckleref01_Power.mono_l k
    · intro y0 y1 y2
      unfold deckleref01_Power.l0
      repeat' first
      | (with_reducible exact ih0 _ _ _)
      | (with_reducible exact LeO.refl _)
      | (with_reducible exact LeO.none _)
      | (with_reducible refine LeO.ite ?_ ?_)
      | (with_reducible refine LeO.bind ?_ (fun _ => ?_))
      | exact ih0 _ _ _
      | exact LeO.none _
      | refine LeO.ite ?_ ?_
      | refine LeO.bind ?_ (fun _ => ?_)
theorem deckleref01_Power.mono : ∀ a0 k, LeO (deckleref01_Power.f k a0) (deckleref01_Power.f (k + 1) a0) := by
  intro a0 k
  have ih0 := deckleref01_Power.mono_l k
  unfold deckleref01_Power.f
  repeat' first
      | (with_reducible exact ih0 _ _ _)
      | (with_reducible exact LeO.refl _)
      | (with_reducible exact LeO.none _)
      | (with_reducible refine LeO.ite ?_ ?_)
      | (with_reducible refine LeO.bind ?_ (fun _ => ?_))
      | exact ih0 _ _ _
      | exact LeO.none _
      | refine LeO.ite ?_ ?_
      | refine LeO.bind ?_ (fun _ => ?_)
set_option maxHeartbeats 8000000 in
set_option maxRecDepth 100000 in
theorem deckleref01_Power.calls (k : Nat) (a0 : Int) (r : Int) (w : World) (h : deckleref01_Power.f k a0 = some r) :
    Calls Tryd.prog 26 #[.int .i64 a0] w fun e w' => e = .returned (.int .u64 r) ∧ Drawn0 w w' := by
  have H : (deckleref01_Power.l0 k a0 1 0) = some r := h
  clear h
  have H' := Aside0.mk H
  clear H
  go_enter Tryd.func26, Tryd.ntmps26
  go_wp2
  go_loopg [3, 4] k (fun kq v3 v4 w' => ∃ (x3_1 : Int) (x4_1 : Int), v3 = .int .u64 x3_1 ∧ v4 = .int .i64 x4_1 ∧ Aside0 (deckleref01_Power.l0 kq a0 x3_1 x4_1 = some r) ∧ Aside0 (kq ≤ k) ∧ Drawn0 w w')
  case atStart => exact ⟨(1), (0), (by first | rfl | (simp; done) | (simp [*]; done)), (by first | rfl | (simp; done) | (simp [*]; done)), H', ⟨Nat.le_refl _⟩, by repeat (first | exact Drawn0.refl _ | apply Drawn0.step)⟩
  case round =>
    clear H'
    obtain ⟨x3_1, x4_1, rfl, rfl, HA, HK1, ⟨m1, rfl⟩⟩ := hrel
    cases gk with
    | zero => exact absurd HA.out (by simp [deckleref01_Power.l0])
    | succ k1 =>
      have H := HA.out
      clear HA
      simp only [deckleref01_Power.l0] at H
      by_cases c2 : x4_1 < a0
      · rw [if_pos c2] at H
        have c2b0 : decide (x4_1 < a0) = true := decide_eq_true c2
        clear c2
        have H' := Aside0.mk H
        clear H
        go_wp2
        refine Handed.intro k1 ?measure ?_
        rotate_left
        go_step
        (repeat apply Exists.intro)
        refine ⟨?rel, (by first | rfl | (simp only [add_plain]; rfl))⟩
        case measure => have := HK1.out; omega
        case rel => exact ⟨(IntKind.u64.wrap (x3_1 * 2)), (wrap64 (x4_1 + 1)), (by first | rfl | (simp; done) | (simp [*]; done)), (by first | rfl | (simp; done) | (simp [*]; done)), H', ⟨by have := HK1.out; omega⟩, by repeat (first | exact Drawn0.refl _ | apply Drawn0.step)⟩
      · rw [if_neg c2] at H
        have c2b0 : decide (x4_1 < a0) = false := decide_eq_false c2
        clear c2
        obtain rfl := Option.some.inj H
        go_wp2
        go_ret
        exact ⟨by first | rfl | (simp; done) | (simp [*]; done), by repeat (first | exact Drawn0.refl _ | apply Drawn0.step)⟩

/-! ### deckleref01_Bit: function 20 -/
def deckleref01_Bit.f (k : Nat) (a0 : Int) (a1 : Int) : Option (Int) := (deckleref01_Power.f k a1).bind fun t121 => (if t121 = 0 then (none) else (some (Int.tmod (IntKind.u64.wrap (Int.tdiv a0 t121)) 2)))
theorem deckleref01_Bit.mono : ∀ a0 a1 k, LeO (deckleref01_Bit.f k a0 a1) (deckleref01_Bit.f (k + 1) a0 a1) := by
  intro a0 a1 k
  unfold deckleref01_Bit.f
  repeat' first
      | (with_reducible exact deckleref01_Power.mono _ _)
      | (with_reducible exact LeO.refl _)
      | (with_reducible exact LeO.none _)
      | (with_reducible refine LeO.ite ?_ ?_)
      | (with_reducible refine LeO.bind ?_ (fun _ => ?_))
      | exact deckleref01_Power.mono _ _
      | exact LeO.none _
      | refine LeO.ite ?_ ?_
      | refine LeO.bind ?_ (fun _ => ?_)
set_option maxHeartbeats 8000000 in
set_option maxRecDepth 100000 in
theorem deckleref01_Bit.calls (k : Nat) (a0 : Int) (a1 : Int) (r : Int) (w : World) (h : deckleref01_Bit.f k a0 a1 = some r) :
    Calls Tryd.prog 20 #[.int .u64 a0, .int .i64 a1] w fun e w' => e = .returned (.int .u64 r) ∧ Drawn0 w w' := by
  have H : ((deckleref01_Power.f k a1).bind fun t121 => (if t121 = 0 then (none) else (some (Int.tmod (IntKind.u64.wrap (Int.tdiv a0 t121)) 2)))) = some r := h
  clear h
  replace H := Option.bind_eq_some_iff.mp H
  obtain ⟨t121, A30, H⟩ := H
  replace H : (if t121 = 0 then (none) else (some (Int.tmod (IntKind.u64.wrap (Int.tdiv a0 t121)) 2))) = some r := H
  have A3 := Aside0.mk A30
  clear A30
  by_cases c4 : t121 = 0
  · rw [if_pos c4] at H
    exact absurd H (by simp)
  · rw [if_neg c4] at H
    have c4b0 : (t121 == 0) = false := beq_eq_false_iff_ne.mpr c4
    have c4b1 : (t121 != 0) = true := bne_iff_ne.mpr c4
    obtain rfl := Option.some.inj H
    go_enter Tryd.func20, Tryd.ntmps20
    go_wp2_with (first | ((with_reducible refine gate_callee (f := 26) rfl ?_); refine goesL_ (some 7) rfl rfl Tryd.func26 (by kernel_rfl) rfl #[.int .i64 a1] rfl (by (try simp only [List.map_toArray, List.map_cons, List.map_nil]); first | done | rfl | (simp only [List.length_drop, List.length_take]; rfl)) ?_; (with_reducible refine (deckleref01_Power.calls k a1 t121 _ A3.out).mono ?_); rintro e w' ⟨rfl, ⟨nd, rfl⟩⟩; refine ⟨_, rfl, ?_⟩))
    go_ret
    exact ⟨by first | rfl | (simp; done) | (simp [*]; done), by repeat (first | exact Drawn0.refl _ | apply Drawn0.step)⟩

end Go.Proofs.YtalnbmpfgmpkbaaDoor.PQ
