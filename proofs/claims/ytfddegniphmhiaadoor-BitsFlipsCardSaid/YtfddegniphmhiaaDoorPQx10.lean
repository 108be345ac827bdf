/- What some of the Go functions of this law compute, each as a Lean function with a proof that the machine does just that; no condition beyond those stated. Written by a program of this session. -/
import Derived.Test.YtfddegniphmhiaaDoorPQx0
import Derived.Test.YtfddegniphmhiaaDoorPQx6
import Derived.Test.YtfddegniphmhiaaDoorPQx9
import Derived.Test.YtfddegniphmhiaaDoorTabs
import Derived.Test.YtfddegniphmhiaaDoorZeros
namespace Go.Proofs.YtfddegniphmhiaaDoor.PQ
open Go.RowKit Go.Proofs.YtfddegniphmhiaaDoorW.PrintWords Go.Proofs.YtfddegniphmhiaaDoorW.PrintLast Go.Proofs.YtfddegniphmhiaaDoorW.PrintMore
attribute [local go_sem] max2_int min2_int max_two min_two max_three min_three max_four min_four   -- for this text's walks alone
set_option linter.unusedVariables false
set_option linter.unusedSimpArgs false

/-! ### decklelaw01_BitsTwice: function 7 -/
def decklelaw01_BitsTwice.j0 : Nat → ByteArray → Int → Int → ByteArray → Int → ByteArray → Int → Bool → Option (Bool)
  | 0, _, _, _, _, _, _, _, _ => none
  | k + 1, x0, x1, x2, x7, x8, x9, x10, x40 => if x40 = true then (if x1 ≥ 0 then (if ((x8 == 0) == (decide (x1 < (wrap64 (8 * (x0.size : Int)))))) = true then (if x2 ≥ 0 then (some ((x10 == 0) == (decide (x2 < (wrap64 (8 * (x0.size : Int))))))) else (some ((x10 == 0) == false))) else (some false)) else (if ((x8 == 0) == false) = true then (if x2 ≥ 0 then (some ((x10 == 0) == (decide (x2 < (wrap64 (8 * (x0.size : Int))))))) else (some ((x10 == 0) == false))) else (some false))) else ((bits_Flip.f x7 x1).bind fun bt158 => ((bits_Flip.f x7 x2).bind fun bt160 => ((bits_Flip.f x9 x1).bind fun bt162 => ((bits_Zeros.f x7).bind fun t164 => ((bits_Zeros.f x0).bind fun t165 => (if bt158.1.toList = x0.toList then (if bt160.1.toList = bt162.1.toList then (if (wrap64 (t164 - t165)) = 1 then (if ((bt160.1.toList == x0.toList) == (x1 == x2)) = true then (some ((x7.size : Int) == (x0.size : Int))) else (some false)) else (if (wrap64 (t164 - t165)) = (-1) then (if ((bt160.1.toList == x0.toList) == (x1 == x2)) = true then (some ((x7.size : Int) == (x0.size : Int))) else (some false)) else (some false))) else (some false)) else (some false)))))))
def decklelaw01_BitsTwice.f (k : Nat) (a0 : ByteArray) (a1 : Int) (a2 : Int) : Option (Bool) := (decklelaw01_works.f k).bind fun t153 => (if t153 = true then (if (a0.size : Int) > 1000 then (some true) else ((bits_Flip.f a0 a1).bind fun bt154 => ((bits_Flip.f a0 a2).bind fun bt156 => (if bt154.2 = 0 then (decklelaw01_BitsTwice.j0 k a0 a1 a2 bt154.1 bt154.2 bt156.1 bt156.2 (bt156.2 != 0)) else (decklelaw01_BitsTwice.j0 k a0 a1 a2 bt154.1 bt154.2 bt156.1 bt156.2 true))))) else (some false))
theorem decklelaw01_BitsTwice.mono_l : ∀ k, (∀ y0 y1 y2 y3 y4 y5 y6 y7, LeO (decklelaw01_BitsTwice.j0 k y0 y1 y2 y3 y4 y5 y6 y7) (decklelaw01_BitsTwice.j0 (k + 1) y0 y1 y2 y3 y4 y5 y6 y7))
  | 0 => fun _ _ _ _ _ _ _ _ r h => by simp [decklelaw01_BitsTwice.j0] at h
  | k + 1 => by
    have ih0 := decklelaw01_BitsTwice.mono_l k
    · intro y0 y1 y2 y3 y4 y5 y6 y7
      unfold decklelaw01_BitsTwice.j0
      repeat' first
      | (with_reducible exact ih0 _ _ _ _ _ _ _ _)
      | (with_reducible exact decklelaw01_works.mono _)
      | (with_reducible exact LeO.refl _)
      | (with_reducible exact LeO.none _)
      | (with_reducible refine LeO.ite ?_ ?_)
      | (with_reducible refine LeO.bind ?_ (fun _ => ?_))
      | exact ih0 _ _ _ _ _ _ _ _
      | exact decklelaw01_works.mono _
      | exact LeO.none _
      | refine LeO.ite ?_ ?_
      | refine LeO.bind ?_ (fun _ => ?_)
theorem decklelaw01_BitsTwice.mono : ∀ a0 a1 a2 k, LeO (decklelaw01_BitsTwice.f k a0 a1 a2) (decklelaw01_BitsTwice.f (k + 1) a0 a1 a2) := by
  intro a0 a1 a2 k
  have ih0 := decklelaw01_BitsTwice.mono_l k
  unfold decklelaw01_BitsTwice.f
  repeat' first
      | (with_reducible exact ih0 _ _ _ _ _ _ _ _)
      | (with_reducible exact decklelaw01_works.mono _)
      | (with_reducible exact LeO.refl _)
      | (with_reducible exact LeO.none _)
      | (with_reducible refine LeO.ite ?_ ?_)
      | (with_reducible refine LeO.bind ?_ (fun _ => ?_))
      | exact ih0 _ _ _ _ _ _ _ _
      | exact decklelaw01_works.mono _
      | exact LeO.none _
      | refine LeO.ite ?_ ?_
      | refine LeO.bind ?_ (fun _ => ?_)
set_option maxHeartbeats 8000000 in
set_option maxRecDepth 100000 in
theorem decklelaw01_BitsTwice.calls (k : Nat) (a0 : ByteArray) (a1 : Int) (a2 : Int) (r : Bool) (w : World) (hT : Aside0 (Tabs w)) (h : decklelaw01_BitsTwice.f k a0 a1 a2 = some r) :
    Calls Tryd.prog 7 #[.string a0, .int .i64 a1, .int .i64 a2] w fun e w' => e = .returned (.bool r) ∧ Below w.heap.size w w' := by
  have HB := Aside0.mk (Below.refl w.heap.size w)
  have H : ((decklelaw01_works.f k).bind fun t153 => (if t153 = true then (if (a0.size : Int) > 1000 then (some true) else ((bits_Flip.f a0 a1).bind fun bt154 => ((bits_Flip.f a0 a2).bind fun bt156 => (if bt154.2 = 0 then (decklelaw01_BitsTwice.j0 k a0 a1 a2 bt154.1 bt154.2 bt156.1 bt156.2 (bt156.2 != 0)) else (decklelaw01_BitsTwice.j0 k a0 a1 a2 bt154.1 bt154.2 bt156.1 bt156.2 true))))) else (some false))) = some r := h
  clear h
  replace H := Option.bind_eq_some_iff.mp H
  obtain ⟨t153, A40, H⟩ := H
  replace H : (if t153 = true then (if (a0.size : Int) > 1000 then (some true) else ((bits_Flip.f a0 a1).bind fun bt154 => ((bits_Flip.f a0 a2).bind fun bt156 => (if bt154.2 = 0 then (decklelaw01_BitsTwice.j0 k a0 a1 a2 bt154.1 bt154.2 bt156.1 bt156.2 (bt156.2 != 0)) else (decklelaw01_BitsTwice.j0 k a0 a1 a2 bt154.1 bt154.2 bt156.1 bt156.2 true))))) else (some false)) = some r := H
  have A4 := Aside0.mk A40
  clear A40
  by_cases c5 : t153 = true
  · subst c5
    have H1 : (if (a0.size : Int) > 1000 then (some true) else ((bits_Flip.f a0 a1).bind fun bt154 => ((bits_Flip.f a0 a2).bind fun bt156 => (if bt154.2 = 0 then (decklelaw01_BitsTwice.j0 k a0 a1 a2 bt154.1 bt154.2 bt156.1 bt156.2 (bt156.2 != 0)) else (decklelaw01_BitsTwice.j0 k a0 a1 a2 bt154.1 bt154.2 bt156.1 bt156.2 true))))) = some r := by rw [if_pos rfl] at H; exact H
    clear H
    have H := H1
    clear H1
    by_cases c6 : (a0.size : Int) > 1000
    · rw [if_pos c6] at H
      have c6b0 : decide (1000 < (a0.size : Int)) = true := decide_eq_true c6
      have c6b1 : decide (1000 < a0.size) = true := decide_eq_true (by omega)
      clear c6
      obtain rfl := Option.some.inj H
      go_enter Tryd.func7, Tryd.ntmps7
      go_wp2_with (first | ((with_reducible refine gate_callee (f := 16) rfl ?_); refine goesL_ (some 18) rfl rfl Tryd.func16 (by kernel_rfl) rfl #[] rfl (by (try simp only [List.map_toArray, List.map_cons, List.map_nil]); first | done | rfl | (simp only [List.length_drop, List.length_take]; rfl)) ?_; (with_reducible refine (decklelaw01_works.calls k  true _ ?side1 A4.out).mono ?_); (case side1 => first | exact hT | exact ⟨tabs_below hT.out (by repeat (first | (with_reducible first | exact HB.out | apply below_alloc | apply pw_below_drewN | apply below_drew1) | exact HB.out))⟩ | (refine ⟨?_⟩; repeat (first | exact hT.out | refine tabs_drewN ?_ _ | refine tabs_drew ?_ | refine tabs_alloc ?_ _))); rintro e w7 ⟨rfl, hb⟩; refine ⟨_, rfl, ?_⟩; have n0_ := Aside0.mk (below_step (by repeat (first | (with_reducible first | exact HB.out | apply below_alloc | apply pw_below_drewN | apply below_drew1) | exact HB.out)) hb); clear HB; have HB := n0_; clear n0_; (try clear hb); (try clear hb2); (try clear hk); (try clear hi)))
      go_ret
      exact ⟨by first | rfl | (simp [errW_none, errW_some] <;> rfl) | (simp [*, errW_none, errW_some] <;> rfl), by repeat (first | (with_reducible first | exact HB.out | apply below_alloc | apply pw_below_drewN | apply below_drew1) | exact HB.out)⟩
    · rw [if_neg c6] at H
      have c6b0 : decide (1000 < (a0.size : Int)) = false := decide_eq_false c6
      have c6b1 : decide (1000 < a0.size) = false := decide_eq_false (by omega)
      clear c6
      replace H := Option.bind_eq_some_iff.mp H
      obtain ⟨⟨t154, t155⟩, A80, H⟩ := H
      replace H : ((bits_Flip.f a0 a2).bind fun bt156 => (if t155 = 0 then (decklelaw01_BitsTwice.j0 k a0 a1 a2 t154 t155 bt156.1 bt156.2 (bt156.2 != 0)) else (decklelaw01_BitsTwice.j0 k a0 a1 a2 t154 t155 bt156.1 bt156.2 true))) = some r := H
      have A8 := Aside0.mk A80
      clear A80
      replace H := Option.bind_eq_some_iff.mp H
      obtain ⟨⟨t156, t157⟩, A90, H⟩ := H
      replace H : (if t155 = 0 then (decklelaw01_BitsTwice.j0 k a0 a1 a2 t154 t155 t156 t157 (t157 != 0)) else (decklelaw01_BitsTwice.j0 k a0 a1 a2 t154 t155 t156 t157 true)) = some r := H
      have A9 := Aside0.mk A90
      clear A90
      have HC10 := Aside0.mk H
      clear H
      go_enter Tryd.func7, Tryd.ntmps7
      go_upto_region 7 with (first | ((with_reducible refine gate_callee (f := 16) rfl ?_); refine goesL_ (some 18) rfl rfl Tryd.func16 (by kernel_rfl) rfl #[] rfl (by (try simp only [List.map_toArray, List.map_cons, List.map_nil]); first | done | rfl | (simp only [List.length_drop, List.length_take]; rfl)) ?_; (with_reducible refine (decklelaw01_works.calls k  true _ ?side1 A4.out).mono ?_); (case side1 => first | exact hT | exact ⟨tabs_below hT.out (by repeat (first | (with_reducible first | exact HB.out | apply below_alloc | apply pw_below_drewN | apply below_drew1) | exact HB.out))⟩ | (refine ⟨?_⟩; repeat (first | exact hT.out | refine tabs_drewN ?_ _ | refine tabs_drew ?_ | refine tabs_alloc ?_ _))); rintro e w11 ⟨rfl, hb⟩; refine ⟨_, rfl, ?_⟩; have n0_ := Aside0.mk (below_step (by repeat (first | (with_reducible first | exact HB.out | apply below_alloc | apply pw_below_drewN | apply below_drew1) | exact HB.out)) hb); clear HB; have HB := n0_; clear n0_; (try clear hb); (try clear hb2); (try clear hk); (try clear hi)) | ((with_reducible refine gate_callee (f := 17) rfl ?_); refine goesL_ (some 26) rfl rfl Tryd.func17 (by kernel_rfl) rfl #[.string a0, .int .i64 a1] rfl (by (try simp only [List.map_toArray, List.map_cons, List.map_nil]); first | done | rfl | (simp only [List.length_drop, List.length_take]; rfl)) ?_; (with_reducible refine (bits_Flip.calls a0 a1 t154 t155 _ A8.out).mono ?_); rintro e w12 ⟨rfl, hb⟩; refine ⟨_, rfl, ?_⟩; have n0_ := Aside0.mk (below_step (by repeat (first | (with_reducible first | exact HB.out | apply below_alloc | apply pw_below_drewN | apply below_drew1) | exact HB.out)) hb); clear HB; have HB := n0_; clear n0_; (try clear hb); (try clear hb2); (try clear hk); (try clear hi)) | ((with_reducible refine gate_callee (f := 17) rfl ?_); refine goesL_ (some 32) rfl rfl Tryd.func17 (by kernel_rfl) rfl #[.string a0, .int .i64 a2] rfl (by (try simp only [List.map_toArray, List.map_cons, List.map_nil]); first | done | rfl | (simp only [List.length_drop, List.length_take]; rfl)) ?_; (with_reducible refine (bits_Flip.calls a0 a2 t156 t157 _ A9.out).mono ?_); rintro e w13 ⟨rfl, hb⟩; refine ⟨_, rfl, ?_⟩; have n0_ := Aside0.mk (below_step (by repeat (first | (with_reducible first | exact HB.out | apply below_alloc | apply pw_below_drewN | apply below_drew1) | exact HB.out)) hb); clear HB; have HB := n0_; clear n0_; (try clear hb); (try clear hb2); (try clear hk); (try clear hi)))
      (try simp only [Act.put, List.setIfInBounds_toArray, List.set_cons_zero, List.set_cons_succ])
      go_cut [40] (fun v40 wc => ∃ (kq : Nat) (x40_9 : Bool), v40 = .bool x40_9 ∧ Aside0 (decklelaw01_BitsTwice.j0 kq a0 a1 a2 t154 t155 t156 t157 x40_9 = some r) ∧ Aside0 (kq ≤ k) ∧ Aside0 (Below w.heap.size w wc))
      case first =>
        have H := HC10.out
        clear HC10
        by_cases c14 : t155 = 0
        · rw [if_pos c14] at H
          have c14b0 : (t155 == 0) = true := beq_iff_eq.mpr c14
          have c14b1 : (t155 != 0) = false := bne_eq_false_iff_eq.mpr c14
          clear c14
          (first | rw [c14b0] | (simp only [i64_w, i32_w]; rw [c14b0]) | skip)
          have H' := Aside0.mk H
          clear H
          go_wp2
          go_meet
          case rel => exact ⟨_, ((t157 != 0)), (by first | rfl | (simp; done) | (simp [*]; done)), H', ⟨by first | omega | exact Nat.le_refl _⟩, ⟨by repeat (first | (with_reducible first | exact HB.out | apply below_alloc | apply pw_below_drewN | apply below_drew1) | exact HB.out)⟩⟩
        · rw [if_neg c14] at H
          have c14b0 : (t155 == 0) = false := beq_eq_false_iff_ne.mpr c14
          have c14b1 : (t155 != 0) = true := bne_iff_ne.mpr c14
          (first | rw [c14b0] | (simp only [i64_w, i32_w]; rw [c14b0]) | skip)
          have H' := Aside0.mk H
          clear H
          go_wp2
          go_meet
          case rel => exact ⟨_, (true), (by first | rfl | (simp; done) | (simp [*]; done)), H', ⟨by first | omega | exact Nat.le_refl _⟩, ⟨by repeat (first | (with_reducible first | exact HB.out | apply below_alloc | apply pw_below_drewN | apply below_drew1) | exact HB.out)⟩⟩
      case rest =>
        clear HC10
        try clear c1
        try clear p2
        try clear c5
        try clear c6
        try clear c6b0
        try clear c6b1
        try clear c7
        try clear c14
        try clear c14b0
        try clear c14b1
        obtain ⟨kq, x40_9, rfl, HA, HJ9, HB⟩ := hcut
        cases kq with
        | zero => exact absurd HA.out (by simp [decklelaw01_BitsTwice.j0])
        | succ kj9 =>
          have H := HA.out
          clear HA
          simp only [decklelaw01_BitsTwice.j0] at H
          by_cases c15 : x40_9 = true
          · subst c15
            have H1 : (if a1 ≥ 0 then (if ((t155 == 0) == (decide (a1 < (wrap64 (8 * (a0.size : Int)))))) = true then (if a2 ≥ 0 then (some ((t157 == 0) == (decide (a2 < (wrap64 (8 * (a0.size : Int))))))) else (some ((t157 == 0) == false))) else (some false)) else (if ((t155 == 0) == false) = true then (if a2 ≥ 0 then (some ((t157 == 0) == (decide (a2 < (wrap64 (8 * (a0.size : Int))))))) else (some ((t157 == 0) == false))) else (some false))) = some r := by rw [if_pos rfl] at H; exact H
            clear H
            have H := H1
            clear H1
            by_cases c16 : a1 ≥ 0
            · rw [if_pos c16] at H
              have c16b0 : decide (0 ≤ a1) = true := decide_eq_true c16
              clear c16
              by_cases c17 : ((t155 == 0) == (decide (a1 < (wrap64 (8 * (a0.size : Int)))))) = true
              · rw [if_pos c17] at H
                have c17b0 : ((t155 == 0) == (decide (a1 < (wrap64 (8 * (a0.size : Int)))))) = true := c17
                (try (have c17b1 : decide ((t155 == 0) = (decide (a1 < (wrap64 (8 * (a0.size : Int)))))) = true := by simpa using c17))
                (try (have c17b2 : ((t155 == 0) == (decide (a1 < (wrap64 (8 * (a0.size : Int)))))) = true := by simpa using c17))
                clear c17
                by_cases c18 : a2 ≥ 0
                · rw [if_pos c18] at H
                  have c18b0 : decide (0 ≤ a2) = true := decide_eq_true c18
                  clear c18
                  obtain rfl := Option.some.inj H
                  go_wp2
                  go_ret
                  exact ⟨by first | rfl | (simp [errW_none, errW_some] <;> rfl) | (simp [*, errW_none, errW_some] <;> rfl), by repeat (first | (with_reducible first | exact HB.out | apply below_alloc | apply pw_below_drewN | apply below_drew1) | exact HB.out)⟩
                · rw [if_neg c18] at H
                  have c18b0 : decide (0 ≤ a2) = false := decide_eq_false c18
                  clear c18
                  obtain rfl := Option.some.inj H
                  go_wp2
                  go_ret
                  exact ⟨by first | rfl | (simp [errW_none, errW_some] <;> rfl) | (simp [*, errW_none, errW_some] <;> rfl), by repeat (first | (with_reducible first | exact HB.out | apply below_alloc | apply pw_below_drewN | apply below_drew1) | exact HB.out)⟩
              · rw [if_neg c17] at H
                have c17b0 : ((t155 == 0) == (decide (a1 < (wrap64 (8 * (a0.size : Int)))))) = false := by simpa using c17
                (try (have c17b1 : decide ((t155 == 0) = (decide (a1 < (wrap64 (8 * (a0.size : Int)))))) = false := by simpa using c17))
                (try (have c17b2 : ((t155 == 0) == (decide (a1 < (wrap64 (8 * (a0.size : Int)))))) = false := by simpa using c17))
                (try (have c17b3 : ¬ ((t155 == 0) = (decide (a1 < (wrap64 (8 * (a0.size : Int)))))) := by simpa using c17))
                clear c17
                obtain rfl := Option.some.inj H
                go_wp2
                go_ret
                exact ⟨by first | rfl | (simp [errW_none, errW_some] <;> rfl) | (simp [*, errW_none, errW_some] <;> rfl), by repeat (first | (with_reducible first | exact HB.out | apply below_alloc | apply pw_below_drewN | apply below_drew1) | exact HB.out)⟩
            · rw [if_neg c16] at H
              have c16b0 : decide (0 ≤ a1) = false := decide_eq_false c16
              clear c16
              by_cases c19 : ((t155 == 0) == false) = true
              · rw [if_pos c19] at H
                have c19b0 : ((t155 == 0) == false) = true := c19
                (try (have c19b1 : decide ((t155 == 0) = false) = true := by simpa using c19))
                (try (have c19b2 : ((t155 == 0) == false) = true := by simpa using c19))
                clear c19
                by_cases c20 : a2 ≥ 0
                · rw [if_pos c20] at H
                  have c20b0 : decide (0 ≤ a2) = true := decide_eq_true c20
                  clear c20
                  obtain rfl := Option.some.inj H
                  go_wp2
                  go_ret
                  exact ⟨by first | rfl | (simp [errW_none, errW_some] <;> rfl) | (simp [*, errW_none, errW_some] <;> rfl), by repeat (first | (with_reducible first | exact HB.out | apply below_alloc | apply pw_below_drewN | apply below_drew1) | exact HB.out)⟩
                · rw [if_neg c20] at H
                  have c20b0 : decide (0 ≤ a2) = false := decide_eq_false c20
                  clear c20
                  obtain rfl := Option.some.inj H
                  go_wp2
                  go_ret
                  exact ⟨by first | rfl | (simp [errW_none, errW_some] <;> rfl) | (simp [*, errW_none, errW_some] <;> rfl), by repeat (first | (with_reducible first | exact HB.out | apply below_alloc | apply pw_below_drewN | apply below_drew1) | exact HB.out)⟩
              · rw [if_neg c19] at H
                have c19b0 : ((t155 == 0) == false) = false := by simpa using c19
                (try (have c19b1 : decide ((t155 == 0) = false) = false := by simpa using c19))
                (try (have c19b2 : ((t155 == 0) == false) = false := by simpa using c19))
                (try (have c19b3 : ¬ ((t155 == 0) = false) := by simpa using c19))
                clear c19
                obtain rfl := Option.some.inj H
                go_wp2
                go_ret
                exact ⟨by first | rfl | (simp [errW_none, errW_some] <;> rfl) | (simp [*, errW_none, errW_some] <;> rfl), by repeat (first | (with_reducible first | exact HB.out | apply below_alloc | apply pw_below_drewN | apply below_drew1) | exact HB.out)⟩
          · replace c15 := Bool.eq_false_iff.mpr c15
            subst c15
            have H1 : ((bits_Flip.f t154 a1).bind fun bt158 => ((bits_Flip.f t154 a2).bind fun bt160 => ((bits_Flip.f t156 a1).bind fun bt162 => ((bits_Zeros.f t154).bind fun t164 => ((bits_Zeros.f a0).bind fun t165 => (if bt158.1.toList = a0.toList then (if bt160.1.toList = bt162.1.toList then (if (wrap64 (t164 - t165)) = 1 then (if ((bt160.1.toList == a0.toList) == (a1 == a2)) = true then (some ((t154.size : Int) == (a0.size : Int))) else (some false)) else (if (wrap64 (t164 - t165)) = (-1) then (if ((bt160.1.toList == a0.toList) == (a1 == a2)) = true then (some ((t154.size : Int) == (a0.size : Int))) else (some false)) else (some false))) else (some false)) else (some false))))))) = some r := by rw [if_neg (show ¬ (false = true) by decide)] at H; exact H
            clear H
            have H := H1
            clear H1
            replace H := Option.bind_eq_some_iff.mp H
            obtain ⟨⟨t158, t159⟩, A210, H⟩ := H
            replace H : ((bits_Flip.f t154 a2).bind fun bt160 => ((bits_Flip.f t156 a1).bind fun bt162 => ((bits_Zeros.f t154).bind fun t164 => ((bits_Zeros.f a0).bind fun t165 => (if t158.toList = a0.toList then (if bt160.1.toList = bt162.1.toList then (if (wrap64 (t164 - t165)) = 1 then (if ((bt160.1.toList == a0.toList) == (a1 == a2)) = true then (some ((t154.size : Int) == (a0.size : Int))) else (some false)) else (if (wrap64 (t164 - t165)) = (-1) then (if ((bt160.1.toList == a0.toList) == (a1 == a2)) = true then (some ((t154.size : Int) == (a0.size : Int))) else (some false)) else (some false))) else (some false)) else (some false)))))) = some r := H
            have A21 := Aside0.mk A210
            clear A210
            replace H := Option.bind_eq_some_iff.mp H
            obtain ⟨⟨t160, t161⟩, A220, H⟩ := H
            replace H : ((bits_Flip.f t156 a1).bind fun bt162 => ((bits_Zeros.f t154).bind fun t164 => ((bits_Zeros.f a0).bind fun t165 => (if t158.toList = a0.toList then (if t160.toList = bt162.1.toList then (if (wrap64 (t164 - t165)) = 1 then (if ((t160.toList == a0.toList) == (a1 == a2)) = true then (some ((t154.size : Int) == (a0.size : Int))) else (some false)) else (if (wrap64 (t164 - t165)) = (-1) then (if ((t160.toList == a0.toList) == (a1 == a2)) = true then (some ((t154.size : Int) == (a0.size : Int))) else (some false)) else (some false))) else (some false)) else (some false))))) = some r := H
            have A22 := Aside0.mk A220
            clear A220
            replace H := Option.bind_eq_some_iff.mp H
            obtain ⟨⟨t162, t163⟩, A230, H⟩ := H
            replace H : ((bits_Zeros.f t154).bind fun t164 => ((bits_Zeros.f a0).bind fun t165 => (if t158.toList = a0.toList then (if t160.toList = t162.toList then (if (wrap64 (t164 - t165)) = 1 then (if ((t160.toList == a0.toList) == (a1 == a2)) = true then (some ((t154.size : Int) == (a0.size : Int))) else (some false)) else (if (wrap64 (t164 - t165)) = (-1) then (if ((t160.toList == a0.toList) == (a1 == a2)) = true then (some ((t154.size : Int) == (a0.size : Int))) else (some false)) else (some false))) else (some false)) else (some false)))) = some r := H
            have A23 := Aside0.mk A230
            clear A230
            replace H := Option.bind_eq_some_iff.mp H
            obtain ⟨t164, A240, H⟩ := H
            replace H : ((bits_Zeros.f a0).bind fun t165 => (if t158.toList = a0.toList then (if t160.toList = t162.toList then (if (wrap64 (t164 - t165)) = 1 then (if ((t160.toList == a0.toList) == (a1 == a2)) = true then (some ((t154.size : Int) == (a0.size : Int))) else (some false)) else (if (wrap64 (t164 - t165)) = (-1) then (if ((t160.toList == a0.toList) == (a1 == a2)) = true then (some ((t154.size : Int) == (a0.size : Int))) else (some false)) else (some false))) else (some false)) else (some false))) = some r := H
            have A24 := Aside0.mk A240
            clear A240
            replace H := Option.bind_eq_some_iff.mp H
            obtain ⟨t165, A250, H⟩ := H
            replace H : (if t158.toList = a0.toList then (if t160.toList = t162.toList then (if (wrap64 (t164 - t165)) = 1 then (if ((t160.toList == a0.toList) == (a1 == a2)) = true then (some ((t154.size : Int) == (a0.size : Int))) else (some false)) else (if (wrap64 (t164 - t165)) = (-1) then (if ((t160.toList == a0.toList) == (a1 == a2)) = true then (some ((t154.size : Int) == (a0.size : Int))) else (some false)) else (some false))) else (some false)) else (some false)) = some r := H
            have A25 := Aside0.mk A250
            clear A250
            by_cases c26 : t158.toList = a0.toList
            · rw [if_pos c26] at H
              have c26b0 : (t158.toList == a0.toList) = true := beq_iff_eq.mpr c26
              have c26b1 : (t158.toList != a0.toList) = false := bne_eq_false_iff_eq.mpr c26
              clear c26
              by_cases c27 : t160.toList = t162.toList
              · rw [if_pos c27] at H
                have c27b0 : (t160.toList == t162.toList) = true := beq_iff_eq.mpr c27
                have c27b1 : (t160.toList != t162.toList) = false := bne_eq_false_iff_eq.mpr c27
                clear c27
                by_cases c28 : (wrap64 (t164 - t165)) = 1
                · rw [if_pos c28] at H
                  have c28b0 : ((wrap64 (t164 - t165)) == 1) = true := beq_iff_eq.mpr c28
                  have c28b1 : ((wrap64 (t164 - t165)) != 1) = false := bne_eq_false_iff_eq.mpr c28
                  clear c28
                  by_cases c29 : ((t160.toList == a0.toList) == (a1 == a2)) = true
                  · rw [if_pos c29] at H
                    have c29b0 : ((t160.toList == a0.toList) == (a1 == a2)) = true := c29
                    (try (have c29b1 : decide ((t160.toList == a0.toList) = (a1 == a2)) = true := by simpa using c29))
                    (try (have c29b2 : ((t160.toList == a0.toList) == (a1 == a2)) = true := by simpa using c29))
                    clear c29
                    obtain rfl := Option.some.inj H
                    go_wp2_with (first | ((with_reducible refine gate_callee (f := 17) rfl ?_); refine goesL_ (some 70) rfl rfl Tryd.func17 (by kernel_rfl) rfl #[.string t154, .int .i64 a1] rfl (by (try simp only [List.map_toArray, List.map_cons, List.map_nil]); first | done | rfl | (simp only [List.length_drop, List.length_take]; rfl)) ?_; (with_reducible refine (bits_Flip.calls t154 a1 t158 t159 _ A21.out).mono ?_); rintro e w30 ⟨rfl, hb⟩; refine ⟨_, rfl, ?_⟩; have n0_ := Aside0.mk (below_step (by repeat (first | (with_reducible first | exact HB.out | apply below_alloc | apply pw_below_drewN | apply below_drew1) | exact HB.out)) hb); clear HB; have HB := n0_; clear n0_; (try clear hb); (try clear hb2); (try clear hk); (try clear hi)) | ((with_reducible refine gate_callee (f := 17) rfl ?_); refine goesL_ (some 76) rfl rfl Tryd.func17 (by kernel_rfl) rfl #[.string t154, .int .i64 a2] rfl (by (try simp only [List.map_toArray, List.map_cons, List.map_nil]); first | done | rfl | (simp only [List.length_drop, List.length_take]; rfl)) ?_; (with_reducible refine (bits_Flip.calls t154 a2 t160 t161 _ A22.out).mono ?_); rintro e w31 ⟨rfl, hb⟩; refine ⟨_, rfl, ?_⟩; have n0_ := Aside0.mk (below_step (by repeat (first | (with_reducible first | exact HB.out | apply below_alloc | apply pw_below_drewN | apply below_drew1) | exact HB.out)) hb); clear HB; have HB := n0_; clear n0_; (try clear hb); (try clear hb2); (try clear hk); (try clear hi)) | ((with_reducible refine gate_callee (f := 17) rfl ?_); refine goesL_ (some 82) rfl rfl Tryd.func17 (by kernel_rfl) rfl #[.string t156, .int .i64 a1] rfl (by (try simp only [List.map_toArray, List.map_cons, List.map_nil]); first | done | rfl | (simp only [List.length_drop, List.length_take]; rfl)) ?_; (with_reducible refine (bits_Flip.calls t156 a1 t162 t163 _ A23.out).mono ?_); rintro e w32 ⟨rfl, hb⟩; refine ⟨_, rfl, ?_⟩; have n0_ := Aside0.mk (below_step (by repeat (first | (with_reducible first | exact HB.out | apply below_alloc | apply pw_below_drewN | apply below_drew1) | exact HB.out)) hb); clear HB; have HB := n0_; clear n0_; (try clear hb); (try clear hb2); (try clear hk); (try clear hi)) | ((with_reducible refine gate_callee (f := 19) rfl ?_); refine goesL_ (some 86) rfl rfl Tryd.func19 (by kernel_rfl) rfl #[.string t154] rfl (by (try simp only [List.map_toArray, List.map_cons, List.map_nil]); first | done | rfl | (simp only [List.length_drop, List.length_take]; rfl)) ?_; (with_reducible refine (bits_Zeros.calls t154 t164 _ ?side1 A24.out).mono ?_); (case side1 => first | exact hT | exact ⟨tabs_below hT.out (by repeat (first | (with_reducible first | exact HB.out | apply below_alloc | apply pw_below_drewN | apply below_drew1) | exact HB.out))⟩ | (refine ⟨?_⟩; repeat (first | exact hT.out | refine tabs_drewN ?_ _ | refine tabs_drew ?_ | refine tabs_alloc ?_ _))); rintro e w' ⟨rfl, ⟨nd, rfl⟩⟩; refine ⟨_, rfl, ?_⟩) | ((with_reducible refine gate_callee (f := 19) rfl ?_); refine goesL_ (some 88) rfl rfl Tryd.func19 (by kernel_rfl) rfl #[.string a0] rfl (by (try simp only [List.map_toArray, List.map_cons, List.map_nil]); first | done | rfl | (simp only [List.length_drop, List.length_take]; rfl)) ?_; (with_reducible refine (bits_Zeros.calls a0 t165 _ ?side1 A25.out).mono ?_); (case side1 => first | exact hT | exact ⟨tabs_below hT.out (by repeat (first | (with_reducible first | exact HB.out | apply below_alloc | apply pw_below_drewN | apply below_drew1) | exact HB.out))⟩ | (refine ⟨?_⟩; repeat (first | exact hT.out | refine tabs_drewN ?_ _ | refine tabs_drew ?_ | refine tabs_alloc ?_ _))); rintro e w' ⟨rfl, ⟨nd, rfl⟩⟩; refine ⟨_, rfl, ?_⟩))
                    go_ret
                    exact ⟨by first | rfl | (simp [errW_none, errW_some] <;> rfl) | (simp [*, errW_none, errW_some] <;> rfl), by repeat (first | (with_reducible first | exact HB.out | apply below_alloc | apply pw_below_drewN | apply below_drew1) | exact HB.out)⟩
                  · rw [if_neg c29] at H
                    have c29b0 : ((t160.toList == a0.toList) == (a1 == a2)) = false := by simpa using c29
                    (try (have c29b1 : decide ((t160.toList == a0.toList) = (a1 == a2)) = false := by simpa using c29))
                    (try (have c29b2 : ((t160.toList == a0.toList) == (a1 == a2)) = false := by simpa using c29))
                    (try (have c29b3 : ¬ ((t160.toList == a0.toList) = (a1 == a2)) := by simpa using c29))
                    clear c29
                    obtain rfl := Option.some.inj H
                    go_wp2_with (first | ((with_reducible refine gate_callee (f := 17) rfl ?_); refine goesL_ (some 70) rfl rfl Tryd.func17 (by kernel_rfl) rfl #[.string t154, .int .i64 a1] rfl (by (try simp only [List.map_toArray, List.map_cons, List.map_nil]); first | done | rfl | (simp only [List.length_drop, List.length_take]; rfl)) ?_; (with_reducible refine (bits_Flip.calls t154 a1 t158 t159 _ A21.out).mono ?_); rintro e w33 ⟨rfl, hb⟩; refine ⟨_, rfl, ?_⟩; have n0_ := Aside0.mk (below_step (by repeat (first | (with_reducible first | exact HB.out | apply below_alloc | apply pw_below_drewN | apply below_drew1) | exact HB.out)) hb); clear HB; have HB := n0_; clear n0_; (try clear hb); (try clear hb2); (try clear hk); (try clear hi)) | ((with_reducible refine gate_callee (f := 17) rfl ?_); refine goesL_ (some 76) rfl rfl Tryd.func17 (by kernel_rfl) rfl #[.string t154, .int .i64 a2] rfl (by (try simp only [List.map_toArray, List.map_cons, List.map_nil]); first | done | rfl | (simp only [List.length_drop, List.length_take]; rfl)) ?_; (with_reducible refine (bits_Flip.calls t154 a2 t160 t161 _ A22.out).mono ?_); rintro e w34 ⟨rfl, hb⟩; refine ⟨_, rfl, ?_⟩; have n0_ := Aside0.mk (below_step (by repeat (first | (with_reducible first | exact HB.out | apply below_alloc | apply pw_below_drewN | apply below_drew1) | exact HB.out)) hb); clear HB; have HB := n0_; clear n0_; (try clear hb); (try clear hb2); (try clear hk); (try clear hi)) | ((with_reducible refine gate_callee (f := 17) rfl ?_); refine goesL_ (some 82) rfl rfl Tryd.func17 (by kernel_rfl) rfl #[.string t156, .int .i64 a1] rfl (by (try simp only [List.map_toArray, List.map_cons, List.map_nil]); first | done | rfl | (simp only [List.length_drop, List.length_take]; rfl)) ?_; (with_reducible refine (bits_Flip.calls t156 a1 t162 t163 _ A23.out).mono ?_); rintro e w35 ⟨rfl, hb⟩; refine ⟨_, rfl, ?_⟩; have n0_ := Aside0.mk (below_step (by repeat (first | (with_reducible first | exact HB.out | apply below_alloc | apply pw_below_drewN | apply below_drew1) | exact HB.out)) hb); clear HB; have HB := n0_; clear n0_; (try clear hb); (try clear hb2); (try clear hk); (try clear hi)) | ((with_reducible refine gate_callee (f := 19) rfl ?_); refine goesL_ (some 86) rfl rfl Tryd.func19 (by kernel_rfl) rfl #[.string t154] rfl (by (try simp only [List.map_toArray, List.map_cons, List.map_nil]); first | done | rfl | (simp only [List.length_drop, List.length_take]; rfl)) ?_; (with_reducible refine (bits_Zeros.calls t154 t164 _ ?side1 A24.out).mono ?_); (case side1 => first | exact hT | exact ⟨tabs_below hT.out (by repeat (first | (with_reducible first | exact HB.out | apply below_alloc | apply pw_below_drewN | apply below_drew1) | exact HB.out))⟩ | (refine ⟨?_⟩; repeat (first | exact hT.out | refine tabs_drewN ?_ _ | refine tabs_drew ?_ | refine tabs_alloc ?_ _))); rintro e w' ⟨rfl, ⟨nd, rfl⟩⟩; refine ⟨_, rfl, ?_⟩) | ((with_reducible refine gate_callee (f := 19) rfl ?_); refine goesL_ (some 88) rfl rfl Tryd.func19 (by kernel_rfl) rfl #[.string a0] rfl (by (try simp only [List.map_toArray, List.map_cons, List.map_nil]); first | done | rfl | (simp only [List.length_drop, List.length_take]; rfl)) ?_; (with_reducible refine (bits_Zeros.calls a0 t165 _ ?side1 A25.out).mono ?_); (case side1 => first | exact hT | exact ⟨tabs_below hT.out (by repeat (first | (with_reducible first | exact HB.out | apply below_alloc | apply pw_below_drewN | apply below_drew1) | exact HB.out))⟩ | (refine ⟨?_⟩; repeat (first | exact hT.out | refine tabs_drewN ?_ _ | refine tabs_drew ?_ | refine tabs_alloc ?_ _))); rintro e w' ⟨rfl, ⟨nd, rfl⟩⟩; refine ⟨_, rfl, ?_⟩))
                    go_ret
                    exact ⟨by first | rfl | (simp [errW_none, errW_some] <;> rfl) | (simp [*, errW_none, errW_some] <;> rfl), by repeat (first | (with_reducible first | exact HB.out | apply below_alloc | apply pw_below_drewN | apply below_drew1) | exact HB.out)⟩
                · rw [if_neg c28] at H
                  have c28b0 : ((wrap64 (t164 - t165)) == 1) = false := beq_eq_false_iff_ne.mpr c28
                  have c28b1 : ((wrap64 (t164 - t165)) != 1) = true := bne_iff_ne.mpr c28
                  by_cases c36 : (wrap64 (t164 - t165)) = (-1)
                  · rw [if_pos c36] at H
                    have c36b0 : ((wrap64 (t164 - t165)) == (-1)) = true := beq_iff_eq.mpr c36
                    have c36b1 : ((wrap64 (t164 - t165)) != (-1)) = false := bne_eq_false_iff_eq.mpr c36
                    clear c36
                    by_cases c37 : ((t160.toList == a0.toList) == (a1 == a2)) = true
                    · rw [if_pos c37] at H
                      have c37b0 : ((t160.toList == a0.toList) == (a1 == a2)) = true := c37
                      (try (have c37b1 : decide ((t160.toList == a0.toList) = (a1 == a2)) = true := by simpa using c37))
                      (try (have c37b2 : ((t160.toList == a0.toList) == (a1 == a2)) = true := by simpa using c37))
                      clear c37
                      obtain rfl := Option.some.inj H
                      go_wp2_with (first | ((with_reducible refine gate_callee (f := 17) rfl ?_); refine goesL_ (some 70) rfl rfl Tryd.func17 (by kernel_rfl) rfl #[.string t154, .int .i64 a1] rfl (by (try simp only [List.map_toArray, List.map_cons, List.map_nil]); first | done | rfl | (simp only [List.length_drop, List.length_take]; rfl)) ?_; (with_reducible refine (bits_Flip.calls t154 a1 t158 t159 _ A21.out).mono ?_); rintro e w38 ⟨rfl, hb⟩; refine ⟨_, rfl, ?_⟩; have n0_ := Aside0.mk (below_step (by repeat (first | (with_reducible first | exact HB.out | apply below_alloc | apply pw_below_drewN | apply below_drew1) | exact HB.out)) hb); clear HB; have HB := n0_; clear n0_; (try clear hb); (try clear hb2); (try clear hk); (try clear hi)) | ((with_reducible refine gate_callee (f := 17) rfl ?_); refine goesL_ (some 76) rfl rfl Tryd.func17 (by kernel_rfl) rfl #[.string t154, .int .i64 a2] rfl (by (try simp only [List.map_toArray, List.map_cons, List.map_nil]); first | done | rfl | (simp only [List.length_drop, List.length_take]; rfl)) ?_; (with_reducible refine (bits_Flip.calls t154 a2 t160 t161 _ A22.out).mono ?_); rintro e w39 ⟨rfl, hb⟩; refine ⟨_, rfl, ?_⟩; have n0_ := Aside0.mk (below_step (by repeat (first | (with_reducible first | exact HB.out | apply below_alloc | apply pw_below_drewN | apply below_drew1) | exact HB.out)) hb); clear HB; have HB := n0_; clear n0_; (try clear hb); (try clear hb2); (try clear hk); (try clear hi)) | ((with_reducible refine gate_callee (f := 17) rfl ?_); refine goesL_ (some 82) rfl rfl Tryd.func17 (by kernel_rfl) rfl #[.string t156, .int .i64 a1] rfl (by (try simp only [List.map_toArray, List.map_cons, List.map_nil]); first | done | rfl | (simp only [List.length_drop, List.length_take]; rfl)) ?_; (with_reducible refine (bits_Flip.calls t156 a1 t162 t163 _ A23.out).mono ?_); rintro e w40 ⟨rfl, hb⟩; refine ⟨_, rfl, ?_⟩; have n0_ := Aside0.mk (below_step (by repeat (first | (with_reducible first | exact HB.out | apply below_alloc | apply pw_below_drewN | apply below_drew1) | exact HB.out)) hb); clear HB; have HB := n0_; clear n0_; (try clear hb); (try clear hb2); (try clear hk); (try clear hi)) | ((with_reducible refine gate_callee (f := 19) rfl ?_); refine goesL_ (some 86) rfl rfl Tryd.func19 (by kernel_rfl) rfl #[.string t154] rfl (by (try simp only [List.map_toArray, List.map_cons, List.map_nil]); first | done | rfl | (simp only [List.length_drop, List.length_take]; rfl)) ?_; (with_reducible refine (bits_Zeros.calls t154 t164 _ ?side1 A24.out).mono ?_); (case side1 => first | exact hT | exact ⟨tabs_below hT.out (by repeat (first | (with_reducible first | exact HB.out | apply below_alloc | apply pw_below_drewN | apply below_drew1) | exact HB.out))⟩ | (refine ⟨?_⟩; repeat (first | exact hT.out | refine tabs_drewN ?_ _ | refine tabs_drew ?_ | refine tabs_alloc ?_ _))); rintro e w' ⟨rfl, ⟨nd, rfl⟩⟩; refine ⟨_, rfl, ?_⟩) | ((with_reducible refine gate_callee (f := 19) rfl ?_); refine goesL_ (some 88) rfl rfl Tryd.func19 (by kernel_rfl) rfl #[.string a0] rfl (by (try simp only [List.map_toArray, List.map_cons, List.map_nil]); first | done | rfl | (simp only [List.length_drop, List.length_take]; rfl)) ?_; (with_reducible refine (bits_Zeros.calls a0 t165 _ ?side1 A25.out).mono ?_); (case side1 => first | exact hT | exact ⟨tabs_below hT.out (by repeat (first | (with_reducible first | exact HB.out | apply below_alloc | apply pw_below_drewN | apply below_drew1) | exact HB.out))⟩ | (refine ⟨?_⟩; repeat (first | exact hT.out | refine tabs_drewN ?_ _ | refine tabs_drew ?_ | refine tabs_alloc ?_ _))); rintro e w' ⟨rfl, ⟨nd, rfl⟩⟩; refine ⟨_, rfl, ?_⟩))
                      go_ret
                      exact ⟨by first | rfl | (simp [errW_none, errW_some] <;> rfl) | (simp [*, errW_none, errW_some] <;> rfl), by repeat (first | (with_reducible first | exact HB.out | apply below_alloc | apply pw_below_drewN | apply below_drew1) | exact HB.out)⟩
                    · rw [if_neg c37] at H
                      have c37b0 : ((t160.toList == a0.toList) == (a1 == a2)) = false := by simpa using c37
                      (try (have c37b1 : decide ((t160.toList == a0.toList) = (a1 == a2)) = false := by simpa using c37))
                      (try (have c37b2 : ((t160.toList == a0.toList) == (a1 == a2)) = false := by simpa using c37))
                      (try (have c37b3 : ¬ ((t160.toList == a0.toList) = (a1 == a2)) := by simpa using c37))
                      clear c37
                      obtain rfl := Option.some.inj H
                      go_wp2_with (first | ((with_reducible refine gate_callee (f := 17) rfl ?_); refine goesL_ (some 70) rfl rfl Tryd.func17 (by kernel_rfl) rfl #[.string t154, .int .i64 a1] rfl (by (try simp only [List.map_toArray, List.map_cons, List.map_nil]); first | done | rfl | (simp only [List.length_drop, List.length_take]; rfl)) ?_; (with_reducible refine (bits_Flip.calls t154 a1 t158 t159 _ A21.out).mono ?_); rintro e w41 ⟨rfl, hb⟩; refine ⟨_, rfl, ?_⟩; have n0_ := Aside0.mk (below_step (by repeat (first | (with_reducible first | exact HB.out | apply below_alloc | apply pw_below_drewN | apply below_drew1) | exact HB.out)) hb); clear HB; have HB := n0_; clear n0_; (try clear hb); (try clear hb2); (try clear hk); (try clear hi)) | ((with_reducible refine gate_callee (f := 17) rfl ?_); refine goesL_ (some 76) rfl rfl Tryd.func17 (by kernel_rfl) rfl #[.string t154, .int .i64 a2] rfl (by (try simp only [List.map_toArray, List.map_cons, List.map_nil]); first | done | rfl | (simp only [List.length_drop, List.length_take]; rfl)) ?_; (with_reducible refine (bits_Flip.calls t154 a2 t160 t161 _ A22.out).mono ?_); rintro e w42 ⟨rfl, hb⟩; refine ⟨_, rfl, ?_⟩; have n0_ := Aside0.mk (below_step (by repeat (first | (with_reducible first | exact HB.out | apply below_alloc | apply pw_below_drewN | apply below_drew1) | exact HB.out)) hb); clear HB; have HB := n0_; clear n0_; (try clear hb); (try clear hb2); (try clear hk); (try clear hi)) | ((with_reducible refine gate_callee (f := 17) rfl ?_); refine goesL_ (some 82) rfl rfl Tryd.func17 (by kernel_rfl) rfl #[.string t156, .int .i64 a1] rfl (by (try simp only [List.map_toArray, List.map_cons, List.map_nil]); first | done | rfl | (simp only [List.length_drop, List.length_take]; rfl)) ?_; (with_reducible refine (bits_Flip.calls t156 a1 t162 t163 _ A23.out).mono ?_); rintro e w43 ⟨rfl, hb⟩; refine ⟨_, rfl, ?_⟩; have n0_ := Aside0.mk (below_step (by repeat (first | (with_reducible first | exact HB.out | apply below_alloc | apply pw_below_drewN | apply below_drew1) | exact HB.out)) hb); clear HB; have HB := n0_; clear n0_; (try clear hb); (try clear hb2); (try clear hk); (try clear hi)) | ((with_reducible refine gate_callee (f := 19) rfl ?_); refine goesL_ (some 86) rfl rfl Tryd.func19 (by kernel_rfl) rfl #[.string t154] rfl (by (try simp only [List.map_toArray, List.map_cons, List.map_nil]); first | done | rfl | (simp only [List.length_drop, List.length_take]; rfl)) ?_; (with_reducible refine (bits_Zeros.calls t154 t164 _ ?side1 A24.out).mono ?_); (case side1 => first | exact hT | exact ⟨tabs_below hT.out (by repeat (first | (with_reducible first | exact HB.out | apply below_alloc | apply pw_below_drewN | apply below_drew1) | exact HB.out))⟩ | (refine ⟨?_⟩; repeat (first | exact hT.out | refine tabs_drewN ?_ _ | refine tabs_drew ?_ | refine tabs_alloc ?_ _))); rintro e w' ⟨rfl, ⟨nd, rfl⟩⟩; refine ⟨_, rfl, ?_⟩) | ((with_reducible refine gate_callee (f := 19) rfl ?_); refine goesL_ (some 88) rfl rfl Tryd.func19 (by kernel_rfl) rfl #[.string a0] rfl (by (try simp only [List.map_toArray, List.map_cons, List.map_nil]); first | done | rfl | (simp only [List.length_drop, List.length_take]; rfl)) ?_; (with_reducible refine (bits_Zeros.calls a0 t165 _ ?side1 A25.out).mono ?_); (case side1 => first | exact hT | exact ⟨tabs_below hT.out (by repeat (first | (with_reducible first | exact HB.out | apply below_alloc | apply pw_below_drewN | apply below_drew1) | exact HB.out))⟩ | (refine ⟨?_⟩; repeat (first | exact hT.out | refine tabs_drewN ?_ _ | refine tabs_drew ?_ | refine tabs_alloc ?_ _))); rintro e w' ⟨rfl, ⟨nd, rfl⟩⟩; refine ⟨_, rfl, ?_⟩))
                      go_ret
                      exact ⟨by first | rfl | (simp [errW_none, errW_some] <;> rfl) | (simp [*, errW_none, errW_some] <;> rfl), by repeat (first | (with_reducible first | exact HB.out | apply below_alloc | apply pw_below_drewN | apply below_drew1) | exact HB.out)⟩
                  · rw [if_neg c36] at H
                    have c36b0 : ((wrap64 (t164 - t165)) == (-1)) = false := beq_eq_false_iff_ne.mpr c36
                    have c36b1 : ((wrap64 (t164 - t165)) != (-1)) = true := bne_iff_ne.mpr c36
                    obtain rfl := Option.some.inj H
                    go_wp2_with (first | ((with_reducible refine gate_callee (f := 17) rfl ?_); refine goesL_ (some 70) rfl rfl Tryd.func17 (by kernel_rfl) rfl #[.string t154, .int .i64 a1] rfl (by (try simp only [List.map_toArray, List.map_cons, List.map_nil]); first | done | rfl | (simp only [List.length_drop, List.length_take]; rfl)) ?_; (with_reducible refine (bits_Flip.calls t154 a1 t158 t159 _ A21.out).mono ?_); rintro e w44 ⟨rfl, hb⟩; refine ⟨_, rfl, ?_⟩; have n0_ := Aside0.mk (below_step (by repeat (first | (with_reducible first | exact HB.out | apply below_alloc | apply pw_below_drewN | apply below_drew1) | exact HB.out)) hb); clear HB; have HB := n0_; clear n0_; (try clear hb); (try clear hb2); (try clear hk); (try clear hi)) | ((with_reducible refine gate_callee (f := 17) rfl ?_); refine goesL_ (some 76) rfl rfl Tryd.func17 (by kernel_rfl) rfl #[.string t154, .int .i64 a2] rfl (by (try simp only [List.map_toArray, List.map_cons, List.map_nil]); first | done | rfl | (simp only [List.length_drop, List.length_take]; rfl)) ?_; (with_reducible refine (bits_Flip.calls t154 a2 t160 t161 _ A22.out).mono ?_); rintro e w45 ⟨rfl, hb⟩; refine ⟨_, rfl, ?_⟩; have n0_ := Aside0.mk (below_step (by repeat (first | (with_reducible first | exact HB.out | apply below_alloc | apply pw_below_drewN | apply below_drew1) | exact HB.out)) hb); clear HB; have HB := n0_; clear n0_; (try clear hb); (try clear hb2); (try clear hk); (try clear hi)) | ((with_reducible refine gate_callee (f := 17) rfl ?_); refine goesL_ (some 82) rfl rfl Tryd.func17 (by kernel_rfl) rfl #[.string t156, .int .i64 a1] rfl (by (try simp only [List.map_toArray, List.map_cons, List.map_nil]); first | done | rfl | (simp only [List.length_drop, List.length_take]; rfl)) ?_; (with_reducible refine (bits_Flip.calls t156 a1 t162 t163 _ A23.out).mono ?_); rintro e w46 ⟨rfl, hb⟩; refine ⟨_, rfl, ?_⟩; have n0_ := Aside0.mk (below_step (by repeat (first | (with_reducible first | exact HB.out | apply below_alloc | apply pw_below_drewN | apply below_drew1) | exact HB.out)) hb); clear HB; have HB := n0_; clear n0_; (try clear hb); (try clear hb2); (try clear hk); (try clear hi)) | ((with_reducible refine gate_callee (f := 19) rfl ?_); refine goesL_ (some 86) rfl rfl Tryd.func19 (by kernel_rfl) rfl #[.string t154] rfl (by (try simp only [List.map_toArray, List.map_cons, List.map_nil]); first | done | rfl | (simp only [List.length_drop, List.length_take]; rfl)) ?_; (with_reducible refine (bits_Zeros.calls t154 t164 _ ?side1 A24.out).mono ?_); (case side1 => first | exact hT | exact ⟨tabs_below hT.out (by repeat (first | (with_reducible first | exact HB.out | apply below_alloc | apply pw_below_drewN | apply below_drew1) | exact HB.out))⟩ | (refine ⟨?_⟩; repeat (first | exact hT.out | refine tabs_drewN ?_ _ | refine tabs_drew ?_ | refine tabs_alloc ?_ _))); rintro e w' ⟨rfl, ⟨nd, rfl⟩⟩; refine ⟨_, rfl, ?_⟩) | ((with_reducible refine gate_callee (f := 19) rfl ?_); refine goesL_ (some 88) rfl rfl Tryd.func19 (by kernel_rfl) rfl #[.string a0] rfl (by (try simp only [List.map_toArray, List.map_cons, List.map_nil]); first | done | rfl | (simp only [List.length_drop, List.length_take]; rfl)) ?_; (with_reducible refine (bits_Zeros.calls a0 t165 _ ?side1 A25.out).mono ?_); (case side1 => first | exact hT | exact ⟨tabs_below hT.out (by repeat (first | (with_reducible first | exact HB.out | apply below_alloc | apply pw_below_drewN | apply below_drew1) | exact HB.out))⟩ | (refine ⟨?_⟩; repeat (first | exact hT.out | refine tabs_drewN ?_ _ | refine tabs_drew ?_ | refine tabs_alloc ?_ _))); rintro e w' ⟨rfl, ⟨nd, rfl⟩⟩; refine ⟨_, rfl, ?_⟩))
                    go_ret
                    exact ⟨by first | rfl | (simp [errW_none, errW_some] <;> rfl) | (simp [*, errW_none, errW_some] <;> rfl), by repeat (first | (with_reducible first | exact HB.out | apply below_alloc | apply pw_below_drewN | apply below_drew1) | exact HB.out)⟩
              · rw [if_neg c27] at H
                have c27b0 : (t160.toList == t162.toList) = false := beq_eq_false_iff_ne.mpr c27
                have c27b1 : (t160.toList != t162.toList) = true := bne_iff_ne.mpr c27
                obtain rfl := Option.some.inj H
                go_wp2_with (first | ((with_reducible refine gate_callee (f := 17) rfl ?_); refine goesL_ (some 70) rfl rfl Tryd.func17 (by kernel_rfl) rfl #[.string t154, .int .i64 a1] rfl (by (try simp only [List.map_toArray, List.map_cons, List.map_nil]); first | done | rfl | (simp only [List.length_drop, List.length_take]; rfl)) ?_; (with_reducible refine (bits_Flip.calls t154 a1 t158 t159 _ A21.out).mono ?_); rintro e w47 ⟨rfl, hb⟩; refine ⟨_, rfl, ?_⟩; have n0_ := Aside0.mk (below_step (by repeat (first | (with_reducible first | exact HB.out | apply below_alloc | apply pw_below_drewN | apply below_drew1) | exact HB.out)) hb); clear HB; have HB := n0_; clear n0_; (try clear hb); (try clear hb2); (try clear hk); (try clear hi)) | ((with_reducible refine gate_callee (f := 17) rfl ?_); refine goesL_ (some 76) rfl rfl Tryd.func17 (by kernel_rfl) rfl #[.string t154, .int .i64 a2] rfl (by (try simp only [List.map_toArray, List.map_cons, List.map_nil]); first | done | rfl | (simp only [List.length_drop, List.length_take]; rfl)) ?_; (with_reducible refine (bits_Flip.calls t154 a2 t160 t161 _ A22.out).mono ?_); rintro e w48 ⟨rfl, hb⟩; refine ⟨_, rfl, ?_⟩; have n0_ := Aside0.mk (below_step (by repeat (first | (with_reducible first | exact HB.out | apply below_alloc | apply pw_below_drewN | apply below_drew1) | exact HB.out)) hb); clear HB; have HB := n0_; clear n0_; (try clear hb); (try clear hb2); (try clear hk); (try clear hi)) | ((with_reducible refine gate_callee (f := 17) rfl ?_); refine goesL_ (some 82) rfl rfl Tryd.func17 (by kernel_rfl) rfl #[.string t156, .int .i64 a1] rfl (by (try simp only [List.map_toArray, List.map_cons, List.map_nil]); first | done | rfl | (simp only [List.length_drop, List.length_take]; rfl)) ?_; (with_reducible refine (bits_Flip.calls t156 a1 t162 t163 _ A23.out).mono ?_); rintro e w49 ⟨rfl, hb⟩; refine ⟨_, rfl, ?_⟩; have n0_ := Aside0.mk (below_step (by repeat (first | (with_reducible first | exact HB.out | apply below_alloc | apply pw_below_drewN | apply below_drew1) | exact HB.out)) hb); clear HB; have HB := n0_; clear n0_; (try clear hb); (try clear hb2); (try clear hk); (try clear hi)) | ((with_reducible refine gate_callee (f := 19) rfl ?_); refine goesL_ (some 86) rfl rfl Tryd.func19 (by kernel_rfl) rfl #[.string t154] rfl (by (try simp only [List.map_toArray, List.map_cons, List.map_nil]); first | done | rfl | (simp only [List.length_drop, List.length_take]; rfl)) ?_; (with_reducible refine (bits_Zeros.calls t154 t164 _ ?side1 A24.out).mono ?_); (case side1 => first | exact hT | exact ⟨tabs_below hT.out (by repeat (first | (with_reducible first | exact HB.out | apply below_alloc | apply pw_below_drewN | apply below_drew1) | exact HB.out))⟩ | (refine ⟨?_⟩; repeat (first | exact hT.out | refine tabs_drewN ?_ _ | refine tabs_drew ?_ | refine tabs_alloc ?_ _))); rintro e w' ⟨rfl, ⟨nd, rfl⟩⟩; refine ⟨_, rfl, ?_⟩) | ((with_reducible refine gate_callee (f := 19) rfl ?_); refine goesL_ (some 88) rfl rfl Tryd.func19 (by kernel_rfl) rfl #[.string a0] rfl (by (try simp only [List.map_toArray, List.map_cons, List.map_nil]); first | done | rfl | (simp only [List.length_drop, List.length_take]; rfl)) ?_; (with_reducible refine (bits_Zeros.calls a0 t165 _ ?side1 A25.out).mono ?_); (case side1 => first | exact hT | exact ⟨tabs_below hT.out (by repeat (first | (with_reducible first | exact HB.out | apply below_alloc | apply pw_below_drewN | apply below_drew1) | exact HB.out))⟩ | (refine ⟨?_⟩; repeat (first | exact hT.out | refine tabs_drewN ?_ _ | refine tabs_drew ?_ | refine tabs_alloc ?_ _))); rintro e w' ⟨rfl, ⟨nd, rfl⟩⟩; refine ⟨_, rfl, ?_⟩))
                go_ret
                exact ⟨by first | rfl | (simp [errW_none, errW_some] <;> rfl) | (simp [*, errW_none, errW_some] <;> rfl), by repeat (first | (with_reducible first | exact HB.out | apply below_alloc | apply pw_below_drewN | apply below_drew1) | exact HB.out)⟩
            · rw [if_neg c26] at H
              have c26b0 : (t158.toList == a0.toList) = false := beq_eq_false_iff_ne.mpr c26
              have c26b1 : (t158.toList != a0.toList) = true := bne_iff_ne.mpr c26
              obtain rfl := Option.some.inj H
              go_wp2_with (first | ((with_reducible refine gate_callee (f := 17) rfl ?_); refine goesL_ (some 70) rfl rfl Tryd.func17 (by kernel_rfl) rfl #[.string t154, .int .i64 a1] rfl (by (try simp only [List.map_toArray, List.map_cons, List.map_nil]); first | done | rfl | (simp only [List.length_drop, List.length_take]; rfl)) ?_; (with_reducible refine (bits_Flip.calls t154 a1 t158 t159 _ A21.out).mono ?_); rintro e w50 ⟨rfl, hb⟩; refine ⟨_, rfl, ?_⟩; have n0_ := Aside0.mk (below_step (by repeat (first | (with_reducible first | exact HB.out | apply below_alloc | apply pw_below_drewN | apply below_drew1) | exact HB.out)) hb); clear HB; have HB := n0_; clear n0_; (try clear hb); (try clear hb2); (try clear hk); (try clear hi)) | ((with_reducible refine gate_callee (f := 17) rfl ?_); refine goesL_ (some 76) rfl rfl Tryd.func17 (by kernel_rfl) rfl #[.string t154, .int .i64 a2] rfl (by (try simp only [List.map_toArray, List.map_cons, List.map_nil]); first | done | rfl | (simp only [List.length_drop, List.length_take]; rfl)) ?_; (with_reducible refine (bits_Flip.calls t154 a2 t160 t161 _ A22.out).mono ?_); rintro e w51 ⟨rfl, hb⟩; refine ⟨_, rfl, ?_⟩; have n0_ := Aside0.mk (below_step (by repeat (first | (with_reducible first | exact HB.out | apply below_alloc | apply pw_below_drewN | apply below_drew1) | exact HB.out)) hb); clear HB; have HB := n0_; clear n0_; (try clear hb); (try clear hb2); (try clear hk); (try clear hi)) | ((with_reducible refine gate_callee (f := 17) rfl ?_); refine goesL_ (some 82) rfl rfl Tryd.func17 (by kernel_rfl) rfl #[.string t156, .int .i64 a1] rfl (by (try simp only [List.map_toArray, List.map_cons, List.map_nil]); first | done | rfl | (simp only [List.length_drop, List.length_take]; rfl)) ?_; (with_reducible refine (bits_Flip.calls t156 a1 t162 t163 _ A23.out).mono ?_); rintro e w52 ⟨rfl, hb⟩; refine ⟨_, rfl, ?_⟩; have n0_ := Aside0.mk (below_step (by repeat (first | (with_reducible first | exact HB.out | apply below_alloc | apply pw_below_drewN | apply below_drew1) | exact HB.out)) hb); clear HB; have HB := n0_; clear n0_; (try clear hb); (try clear hb2); (try clear hk); (try clear hi)) | ((with_reducible refine gate_callee (f := 19) rfl ?_); refine goesL_ (some 86) rfl rfl Tryd.func19 (by kernel_rfl) rfl #[.string t154] rfl (by (try simp only [List.map_toArray, List.map_cons, List.map_nil]); first | done | rfl | (simp only [List.length_drop, List.length_take]; rfl)) ?_; (with_reducible refine (bits_Zeros.calls t154 t164 _ ?side1 A24.out).mono ?_); (case side1 => first | exact hT | exact ⟨tabs_below hT.out (by repeat (first | (with_reducible first | exact HB.out | apply below_alloc | apply pw_below_drewN | apply below_drew1) | exact HB.out))⟩ | (refine ⟨?_⟩; repeat (first | exact hT.out | refine tabs_drewN ?_ _ | refine tabs_drew ?_ | refine tabs_alloc ?_ _))); rintro e w' ⟨rfl, ⟨nd, rfl⟩⟩; refine ⟨_, rfl, ?_⟩) | ((with_reducible refine gate_callee (f := 19) rfl ?_); refine goesL_ (some 88) rfl rfl Tryd.func19 (by kernel_rfl) rfl #[.string a0] rfl (by (try simp only [List.map_toArray, List.map_cons, List.map_nil]); first | done | rfl | (simp only [List.length_drop, List.length_take]; rfl)) ?_; (with_reducible refine (bits_Zeros.calls a0 t165 _ ?side1 A25.out).mono ?_); (case side1 => first | exact hT | exact ⟨tabs_below hT.out (by repeat (first | (with_reducible first | exact HB.out | apply below_alloc | apply pw_below_drewN | apply below_drew1) | exact HB.out))⟩ | (refine ⟨?_⟩; repeat (first | exact hT.out | refine tabs_drewN ?_ _ | refine tabs_drew ?_ | refine tabs_alloc ?_ _))); rintro e w' ⟨rfl, ⟨nd, rfl⟩⟩; refine ⟨_, rfl, ?_⟩))
              go_ret
              exact ⟨by first | rfl | (simp [errW_none, errW_some] <;> rfl) | (simp [*, errW_none, errW_some] <;> rfl), by repeat (first | (with_reducible first | exact HB.out | apply below_alloc | apply pw_below_drewN | apply below_drew1) | exact HB.out)⟩
  · replace c5 := Bool.eq_false_iff.mpr c5
    subst c5
    have H1 : (some false) = some r := by rw [if_neg (show ¬ (false = true) by decide)] at H; exact H
    clear H
    have H := H1
    clear H1
    obtain rfl := Option.some.inj H
    go_enter Tryd.func7, Tryd.ntmps7
    go_wp2_with (first | ((with_reducible refine gate_callee (f := 16) rfl ?_); refine goesL_ (some 18) rfl rfl Tryd.func16 (by kernel_rfl) rfl #[] rfl (by (try simp only [List.map_toArray, List.map_cons, List.map_nil]); first | done | rfl | (simp only [List.length_drop, List.length_take]; rfl)) ?_; (with_reducible refine (decklelaw01_works.calls k  false _ ?side1 A4.out).mono ?_); (case side1 => first | exact hT | exact ⟨tabs_below hT.out (by repeat (first | (with_reducible first | exact HB.out | apply below_alloc | apply pw_below_drewN | apply below_drew1) | exact HB.out))⟩ | (refine ⟨?_⟩; repeat (first | exact hT.out | refine tabs_drewN ?_ _ | refine tabs_drew ?_ | refine tabs_alloc ?_ _))); rintro e w53 ⟨rfl, hb⟩; refine ⟨_, rfl, ?_⟩; have n0_ := Aside0.mk (below_step (by repeat (first | (with_reducible first | exact HB.out | apply below_alloc | apply pw_below_drewN | apply below_drew1) | exact HB.out)) hb); clear HB; have HB := n0_; clear n0_; (try clear hb); (try clear hb2); (try clear hk); (try clear hi)))
    go_ret
    exact ⟨by first | rfl | (simp [errW_none, errW_some] <;> rfl) | (simp [*, errW_none, errW_some] <;> rfl), by repeat (first | (with_reducible first | exact HB.out | apply below_alloc | apply pw_below_drewN | apply below_drew1) | exact HB.out)⟩

/-- THE ONE PURE STATEMENT of decklelaw01_BitsTwice: yours. -/
def decklelaw01_BitsTwice.Pure : Prop := ∀ (a0 : ByteArray) (a1 : Int) (a2 : Int), a0.size ≤ 140737488351232 → (Lit.int .i64 a1).wf = true → (Lit.int .i64 a2).wf = true → ∃ k, decklelaw01_BitsTwice.f k a0 a1 a2 = some true
theorem decklelaw01_BitsTwice.walk (P : decklelaw01_BitsTwice.Pure) (a0 : ByteArray) (a1 : Int) (a2 : Int) (w : World) (w0 : a0.size ≤ 140737488351232) (w1 : (Lit.int .i64 a1).wf = true) (w2 : (Lit.int .i64 a2).wf = true) (hT : Aside0 (Tabs w)) :
    Calls Tryd.prog 7 #[.string a0, .int .i64 a1, .int .i64 a2] w fun e w' => e = .returned (.bool true) ∧ Below w.heap.size w w' := by
  obtain ⟨k, h⟩ := P a0 a1 a2 w0 w1 w2
  refine (decklelaw01_BitsTwice.calls k a0 a1 a2 true w hT h).mono ?_
  rintro e w' ⟨rfl, hd⟩
  exact ⟨rfl, hd⟩

end Go.Proofs.YtfddegniphmhiaaDoor.PQ
