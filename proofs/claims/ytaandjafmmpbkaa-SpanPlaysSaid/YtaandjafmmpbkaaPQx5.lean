/- What some of the Go functions of this law compute, each as a Lean function with a proof that the machine does just that; no condition beyond those stated. Written by a program of this session. -/
import Derived.Test.YtaandjafmmpbkaaPQx0
namespace Go.Proofs.Ytaandjafmmpbkaa.PQ
open Go.RowKit Go.Proofs.YtaandjafmmpbkaaW.PrintWords Go.Proofs.YtaandjafmmpbkaaW.PrintLast Go.Proofs.YtaandjafmmpbkaaW.PrintMore
attribute [local go_sem] max2_int min2_int max_two min_two max_three min_three max_four min_four   -- for this text's walks alone
set_option linter.unusedVariables false
set_option linter.unusedSimpArgs false

/-! ### deckleref34_Spans: function 25 -/
mutual
def deckleref34_Spans.l0 : Nat → List Bool → Int → Bool → List (S27) → Int → Option ((List (S27)))
  | 0, _, _, _, _, _ => none
  | k + 1, x0, x2, x3, x9, x10 => if x10 < x2 then (deckleref34_Spans.j1 k x0 x2 x3 x9 x10 (decide (x10 < (x0.length : Int)))) else (deckleref34_Spans.j1 k x0 x2 x3 x9 x10 false)
def deckleref34_Spans.j1 : Nat → List Bool → Int → Bool → List (S27) → Int → Bool → Option ((List (S27)))
  | 0, _, _, _, _, _, _ => none
  | k + 1, x0, x2, x3, x9, x10, x20 => if x20 = true then (if 0 ≤ x10 then (if x10 < (x0.length : Int) then (if ((rdOf false x0 x10) != x3) = true then (deckleref34_Spans.l0 k x0 x2 x3 x9 (wrap64 (x10 + 1))) else (if (x9.length : Int) > 0 then (if 0 ≤ (wrap64 ((x9.length : Int) - 1)) then (if (wrap64 ((x9.length : Int) - 1)) < (x9.length : Int) then (if ((rd_T27 x9 (wrap64 ((x9.length : Int) - 1))).f1) = x10 then (deckleref34_Spans.l0 k x0 x2 x3 (x9.set ((wrap64 ((x9.length : Int) - 1)) : Int).toNat (⟨(rd_T27 x9 (wrap64 ((x9.length : Int) - 1))).f0, wrap64 (x10 + 1)⟩ : S27)) (wrap64 (x10 + 1))) else (if x9.length < 8796093022208 then (deckleref34_Spans.l0 k x0 x2 x3 (x9 ++ [(⟨x10, wrap64 (x10 + 1)⟩ : S27)]) (wrap64 (x10 + 1))) else (none))) else (none)) else (none)) else (if x9.length < 8796093022208 then (deckleref34_Spans.l0 k x0 x2 x3 (x9 ++ [(⟨x10, wrap64 (x10 + 1)⟩ : S27)]) (wrap64 (x10 + 1))) else (none)))) else (none)) else (none)) else (some x9)
end
def deckleref34_Spans.f (k : Nat) (l0 : List Bool) (a1 : Int) (a2 : Int) (a3 : Bool) : Option ((List (S27))) := deckleref34_Spans.l0 k l0 a2 a3 ([] : List (S27)) a1
theorem deckleref34_Spans.mono_l : ∀ k, (∀ y0 y1 y2 y3 y4, LeO (deckleref34_Spans.l0 k y0 y1 y2 y3 y4) (deckleref34_Spans.l0 (k + 1) y0 y1 y2 y3 y4)) ∧ (∀ y0 y1 y2 y3 y4 y5, LeO (deckleref34_Spans.j1 k y0 y1 y2 y3 y4 y5) (deckleref34_Spans.j1 (k + 1) y0 y1 y2 y3 y4 y5))
  | 0 => ⟨fun _ _ _ _ _ r h => by simp [deckleref34_Spans.l0] at h, fun _ _ _ _ _ _ r h => by simp [deckleref34_Spans.j1] at h⟩
  | k + 1 => by
    obtain ⟨ih0, ih1⟩ := deckleref34_Spans.mono_l k
    refine ⟨?_, ?_⟩
    · intro y0 y1 y2 y3 y4
      unfold deckleref34_Spans.l0
      repeat' first
      | (with_reducible exact ih0 _ _ _ _ _)
      | (with_reducible exact ih1 _ _ _ _ _ _)
      | (with_reducible exact LeO.refl _)
      | (with_reducible exact LeO.none _)
      | (with_reducible refine LeO.ite ?_ ?_)
      | (with_reducible refine LeO.bind ?_ (fun _ => ?_))
      | exact ih0 _ _ _ _ _
      | exact ih1 _ _ _ _ _ _
      | exact LeO.none _
      | refine LeO.ite ?_ ?_
      | refine LeO.bind ?_ (fun _ => ?_)
    · intro y0 y1 y2 y3 y4 y5
      unfold deckleref34_Spans.j1
      repeat' first
      | (with_reducible exact ih0 _ _ _ _ _)
      | (with_reducible exact ih1 _ _ _ _ _ _)
      | (with_reducible exact LeO.refl _)
      | (with_reducible exact LeO.none _)
      | (with_reducible refine LeO.ite ?_ ?_)
      | (with_reducible refine LeO.bind ?_ (fun _ => ?_))
      | exact ih0 _ _ _ _ _
      | exact ih1 _ _ _ _ _ _
      | exact LeO.none _
      | refine LeO.ite ?_ ?_
      | refine LeO.bind ?_ (fun _ => ?_)
theorem deckleref34_Spans.mono : ∀ a0 a1 a2 a3 k, LeO (deckleref34_Spans.f k a0 a1 a2 a3) (deckleref34_Spans.f (k + 1) a0 a1 a2 a3) := by
  intro a0 a1 a2 a3 k
  obtain ⟨ih0, ih1⟩ := deckleref34_Spans.mono_l k
  unfold deckleref34_Spans.f
  repeat' first
      | (with_reducible exact ih0 _ _ _ _ _)
      | (with_reducible exact ih1 _ _ _ _ _ _)
      | (with_reducible exact LeO.refl _)
      | (with_reducible exact LeO.none _)
      | (with_reducible refine LeO.ite ?_ ?_)
      | (with_reducible refine LeO.bind ?_ (fun _ => ?_))
      | exact ih0 _ _ _ _ _
      | exact ih1 _ _ _ _ _ _
      | exact LeO.none _
      | refine LeO.ite ?_ ?_
      | refine LeO.bind ?_ (fun _ => ?_)
set_option maxHeartbeats 8000000 in
set_option maxRecDepth 100000 in
theorem deckleref34_Spans.calls (k : Nat) (A0 : Option Addr) (c0 : Nat) (l0 : List Bool) (a1 : Int) (a2 : Int) (a3 : Bool) (r : List (S27)) (w : World) (hr0 : Kd.C Kd.bool w A0 l0.length l0) (hc0 : l0.length ≤ c0) (h : deckleref34_Spans.f k l0 a1 a2 a3 = some r) :
    Calls Try.prog 25 #[.slice A0 l0.length c0, .int .i64 a1, .int .i64 a2, .bool a3] w fun e w' => ∃ v0_ : Value, e = .returned (v0_) ∧ Kd.R k27 27 w' w.heap.size (fun _ => True) v0_ r ∧ Below w.heap.size w w' := by
  have hu27 := Try.underlying27
  have HR0 := Aside0.mk hr0
  have HC0 := Aside0.mk hc0
  clear hr0 hc0
  have HB := Aside0.mk (Below.refl w.heap.size w)
  have H : (deckleref34_Spans.l0 k l0 a2 a3 ([] : List (S27)) a1) = some r := h
  clear h
  have H' := Aside0.mk H
  clear H
  go_enter Try.func25, Try.ntmps25
  go_wp2
  go_loopg [9, 10] k (fun kq v9 v10 w' => ∃ (x9_1 : List (S27)) (x10_1 : Int), v10 = .int .i64 x10_1 ∧ Aside0 (deckleref34_Spans.l0 kq l0 a2 a3 x9_1 x10_1 = some r) ∧ Aside0 (kq ≤ k) ∧ Aside0 (Kd.R k27 27 w' w.heap.size (fun _ => True) v9 x9_1) ∧ Aside0 (Below w.heap.size w w'))
  case atStart => exact ⟨(([] : List (S27))), (a1), (by first | rfl | (simp; done) | (simp [*]; done)), H', ⟨Nat.le_refl _⟩, ⟨by first | exact Kd.R_nil _ _ _ _ _ | exact Kd.N_nil _ _ _ _ _ | exact Kd.V_nil _ _ _ _ _ | exact Kd.Q_nil _ _ _ _ _ | exact Kd.S_nil _ _ _ _ _⟩, ⟨by repeat (first | (with_reducible first | exact HB.out | apply below_alloc | apply pw_below_drewN | apply below_drew1) | exact HB.out)⟩⟩
  case round =>
    clear H'
    try clear c2
    try clear p2
    obtain ⟨x9_1, x10_1, rfl, HA, HK1, HO_9, HB⟩ := hrel
    cases gk with
    | zero => exact absurd HA.out (by simp [deckleref34_Spans.l0])
    | succ k1 =>
      have H := HA.out
      clear HA
      simp only [deckleref34_Spans.l0] at H
      have HC5 := Aside0.mk H
      clear H
      go_upto_region 3 with (fail)
      go_cut [20] (fun v20 wc => ∃ (kq : Nat) (x20_4 : Bool), v20 = .bool x20_4 ∧ Aside0 (deckleref34_Spans.j1 kq l0 a2 a3 x9_1 x10_1 x20_4 = some r) ∧ Aside0 (kq ≤ k1) ∧ Aside0 (Kd.R k27 27 wc w.heap.size (fun _ => True) u9 x9_1) ∧ Aside0 (Below w.heap.size w wc))
      case first =>
        have H := HC5.out
        clear HC5
        by_cases c6 : x10_1 < a2
        · rw [if_pos c6] at H
          have c6b0 : decide (x10_1 < a2) = true := decide_eq_true c6
          clear c6
          (first | rw [c6b0] | (simp only [i64_w, i32_w]; rw [c6b0]) | skip)
          have H' := Aside0.mk H
          clear H
          go_wp2
          go_meet
          case rel => exact ⟨_, (decide (x10_1 < (l0.length : Int))), (by first | rfl | (simp; done) | (simp [*]; done)), H', ⟨by have := HK1.out; first | omega | exact Nat.le_refl _⟩, ⟨by (with_reducible repeat (first | apply Kd.R_alloc | apply Kd.R_drewN | apply Kd.R_drew)); exact HO_9.out⟩, ⟨by repeat (first | (with_reducible first | exact HB.out | apply below_alloc | apply pw_below_drewN | apply below_drew1) | exact HB.out)⟩⟩
        · rw [if_neg c6] at H
          have c6b0 : decide (x10_1 < a2) = false := decide_eq_false c6
          clear c6
          (first | rw [c6b0] | (simp only [i64_w, i32_w]; rw [c6b0]) | skip)
          have H' := Aside0.mk H
          clear H
          go_wp2
          go_meet
          case rel => exact ⟨_, (false), (by first | rfl | (simp; done) | (simp [*]; done)), H', ⟨by have := HK1.out; first | omega | exact Nat.le_refl _⟩, ⟨by (with_reducible repeat (first | apply Kd.R_alloc | apply Kd.R_drewN | apply Kd.R_drew)); exact HO_9.out⟩, ⟨by repeat (first | (with_reducible first | exact HB.out | apply below_alloc | apply pw_below_drewN | apply below_drew1) | exact HB.out)⟩⟩
      case rest =>
        clear HC5
        try clear c2
        try clear p2
        try clear c6
        try clear c6b0
        try clear p2
        obtain ⟨kq, x20_4, rfl, HA, HJ4, HO_9, HB⟩ := hcut
        cases kq with
        | zero => exact absurd HA.out (by simp [deckleref34_Spans.j1])
        | succ kj4 =>
          have H := HA.out
          clear HA
          simp only [deckleref34_Spans.j1] at H
          by_cases c7 : x20_4 = true
          · subst c7
            have H1 : (if 0 ≤ x10_1 then (if x10_1 < (l0.length : Int) then (if ((rdOf false l0 x10_1) != a3) = true then (deckleref34_Spans.l0 kj4 l0 a2 a3 x9_1 (wrap64 (x10_1 + 1))) else (if (x9_1.length : Int) > 0 then (if 0 ≤ (wrap64 ((x9_1.length : Int) - 1)) then (if (wrap64 ((x9_1.length : Int) - 1)) < (x9_1.length : Int) then (if ((rd_T27 x9_1 (wrap64 ((x9_1.length : Int) - 1))).f1) = x10_1 then (deckleref34_Spans.l0 kj4 l0 a2 a3 (x9_1.set ((wrap64 ((x9_1.length : Int) - 1)) : Int).toNat (⟨(rd_T27 x9_1 (wrap64 ((x9_1.length : Int) - 1))).f0, wrap64 (x10_1 + 1)⟩ : S27)) (wrap64 (x10_1 + 1))) else (if x9_1.length < 8796093022208 then (deckleref34_Spans.l0 kj4 l0 a2 a3 (x9_1 ++ [(⟨x10_1, wrap64 (x10_1 + 1)⟩ : S27)]) (wrap64 (x10_1 + 1))) else (none))) else (none)) else (none)) else (if x9_1.length < 8796093022208 then (deckleref34_Spans.l0 kj4 l0 a2 a3 (x9_1 ++ [(⟨x10_1, wrap64 (x10_1 + 1)⟩ : S27)]) (wrap64 (x10_1 + 1))) else (none)))) else (none)) else (none)) = some r := by rw [if_pos rfl] at H; exact H
            clear H
            have H := H1
            clear H1
            by_cases c8 : 0 ≤ x10_1
            · rw [if_pos c8] at H
              have c8b0 : decide (0 ≤ x10_1) = true := decide_eq_true c8
              clear c8
              by_cases c9 : x10_1 < (l0.length : Int)
              · rw [if_pos c9] at H
                have c9b0 : decide (x10_1 < (l0.length : Int)) = true := decide_eq_true c9
                clear c9
                by_cases c10 : ((rdOf false l0 x10_1) != a3) = true
                · rw [if_pos c10] at H
                  have c10b0 : ((rdOf false l0 x10_1) != a3) = true := c10
                  (try (have c10b1 : decide ((rdOf false l0 x10_1) = a3) = false := by simpa using c10))
                  (try (have c10b2 : ((rdOf false l0 x10_1) == a3) = false := by simpa using c10))
                  (try (have c10b3 : ¬ ((rdOf false l0 x10_1) = a3) := by simpa using c10))
                  clear c10
                  have H' := Aside0.mk H
                  clear H
                  have p144 : 0 ≤ (x10_1 : Int) := of_decide_eq_true (by first | (with_reducible assumption) | assumption)
                  have q144 : x10_1 < (l0.length : Int) := of_decide_eq_true (by first | (with_reducible assumption) | assumption)
                  obtain ⟨ad144, e144, hx144_0⟩ := Kd.at_bool HR0.out x10_1 p144 q144
                  cases e144
                  replace hx144_0 := (HB.out.cell (World.block_lt_of_cell? w _ hx144_0)).trans hx144_0
                  replace p144 := eq_true p144
                  replace q144 := eq_true q144
                  go_wp2
                  refine Handed.intro kj4 ?measure ?_
                  rotate_left
                  go_step
                  (repeat apply Exists.intro)
                  refine ⟨?rel, (by first | rfl | (simp only [add_plain]; rfl))⟩
                  case measure => have := HK1.out; have := HJ4.out; omega
                  case rel => exact ⟨(x9_1), (wrap64 (x10_1 + 1)), (by first | rfl | (simp; done) | (simp [*]; done)), H', ⟨by have := HK1.out; have := HJ4.out; omega⟩, ⟨by (with_reducible repeat (first | apply Kd.R_alloc | apply Kd.R_drewN | apply Kd.R_drew)); exact HO_9.out⟩, ⟨by repeat (first | (with_reducible first | exact HB.out | apply below_alloc | apply pw_below_drewN | apply below_drew1) | exact HB.out)⟩⟩
                · rw [if_neg c10] at H
                  have c10b0 : ((rdOf false l0 x10_1) != a3) = false := by simpa using c10
                  (try (have c10b1 : decide ((rdOf false l0 x10_1) = a3) = true := by simpa using c10))
                  (try (have c10b2 : ((rdOf false l0 x10_1) == a3) = true := by simpa using c10))
                  clear c10
                  by_cases c11 : (x9_1.length : Int) > 0
                  · rw [if_pos c11] at H
                    have c11b0 : decide (0 < (x9_1.length : Int)) = true := decide_eq_true c11
                    have c11b1 : decide (0 < x9_1.length) = true := decide_eq_true (by omega)
                    clear c11
                    obtain ⟨ji12, hji12⟩ : ∃ j_ : Int, (wrap64 ((x9_1.length : Int) - 1)) = j_ := ⟨_, rfl⟩
                    replace H : (if 0 ≤ (ji12) then (if (ji12) < (x9_1.length : Int) then (if ((rd_T27 x9_1 (ji12)).f1) = x10_1 then (deckleref34_Spans.l0 kj4 l0 a2 a3 (x9_1.set ((ji12) : Int).toNat (⟨(rd_T27 x9_1 (ji12)).f0, wrap64 (x10_1 + 1)⟩ : S27)) (wrap64 (x10_1 + 1))) else (if x9_1.length < 8796093022208 then (deckleref34_Spans.l0 kj4 l0 a2 a3 (x9_1 ++ [(⟨x10_1, wrap64 (x10_1 + 1)⟩ : S27)]) (wrap64 (x10_1 + 1))) else (none))) else (none)) else (none)) = some r := by first | (rw [hji12] at H; exact H) | (simp only [hji12] at H ⊢; exact H)
                    have hji12w : (IntKind.i64.wrap ((x9_1.length : Int) - 1)) = ji12 := (i64_w _).trans hji12
                    by_cases c13 : 0 ≤ (ji12)
                    · rw [if_pos c13] at H
                      have c13b0 : decide (0 ≤ (ji12)) = true := decide_eq_true c13
                      clear c13
                      by_cases c14 : (ji12) < (x9_1.length : Int)
                      · rw [if_pos c14] at H
                        have c14b0 : decide ((ji12) < (x9_1.length : Int)) = true := decide_eq_true c14
                        clear c14
                        by_cases c15 : ((rd_T27 x9_1 (ji12)).f1) = x10_1
                        · rw [if_pos c15] at H
                          have c15b0 : (((rd_T27 x9_1 (ji12)).f1) == x10_1) = true := beq_iff_eq.mpr c15
                          have c15b1 : (((rd_T27 x9_1 (ji12)).f1) != x10_1) = false := bne_eq_false_iff_eq.mpr c15
                          clear c15
                          obtain ⟨y146, hy146⟩ : ∃ y_ : List (S27), y_ = (x9_1.set ((ji12) : Int).toNat (⟨(rd_T27 x9_1 (ji12)).f0, wrap64 (x10_1 + 1)⟩ : S27)) := ⟨_, rfl⟩
                          replace H : (deckleref34_Spans.l0 kj4 l0 a2 a3 y146 (wrap64 (x10_1 + 1))) = some r := by first | (rw [hy146]; with_reducible exact H) | (have H2_ := (Option.bind_some _ _).symm.trans H; rw [hy146]; with_reducible exact H2_) | (have H2_ := (Option.bind_some _ _).symm.trans H; with_reducible exact H2_) | with_reducible exact H | (rw [hy146]; exact H) | exact H
                          have Ny146 := Aside0.mk hy146
                          clear hy146
                          have H' := Aside0.mk H
                          clear H
                          have p144 : 0 ≤ (x10_1 : Int) := of_decide_eq_true (by first | (with_reducible assumption) | assumption)
                          have q144 : x10_1 < (l0.length : Int) := of_decide_eq_true (by first | (with_reducible assumption) | assumption)
                          obtain ⟨ad144, e144, hx144_0⟩ := Kd.at_bool HR0.out x10_1 p144 q144
                          cases e144
                          replace hx144_0 := (HB.out.cell (World.block_lt_of_cell? w _ hx144_0)).trans hx144_0
                          replace p144 := eq_true p144
                          replace q144 := eq_true q144
                          obtain ⟨Ao17, co17, eo17⟩ := Kd.R_slice HO_9.out
                          subst eo17
                          have p145 : 0 ≤ ((ji12) : Int) := of_decide_eq_true (by first | (with_reducible assumption) | assumption)
                          have q145 : (ji12) < (x9_1.length : Int) := of_decide_eq_true (by first | (with_reducible assumption) | assumption)
                          obtain ⟨ad145, e145, hx145_0, hx145_1⟩ := at_T27 (Kd.R_reads' HO_9.out).2.2 (ji12) p145 q145
                          cases e145
                          replace p145 := eq_true p145
                          replace q145 := eq_true q145
                          have p16 : 0 ≤ ((ji12) : Int) := of_decide_eq_true (by first | (with_reducible assumption) | assumption)
                          have q16 : ((ji12) : Int) < ((x9_1.length : Int) : Int) := of_decide_eq_true (by first | (with_reducible assumption) | assumption)
                          obtain ⟨go16, co16, eo16, gb16, gl16, cl16, HG16⟩ := Kd.R_form HO_9.out (by omega)
                          (first | cases eo16 | (injection eo16 with ea_ en_ ec_; (first | subst ea_ | (injection ea_ with ea_; subst ea_)); subst ec_; clear en_))
                          have GB16 := Aside0.mk gb16
                          have GG16 := Aside0.mk HG16
                          clear gb16 gl16 HG16
                          (first | simp only [add_plain] at hx145_0 | skip)
                          (first | simp only [add_plain] at hx145_1 | skip)
                          obtain ⟨ce16, hcl16, hM16, hcc16, hfr16⟩ := Kd.R_elem HO_9.out z27 ((ji12) : Int) p16 q16
                          obtain rfl := k27_openM hM16
                          have hx16_0 : wc.cell? ⟨go16, ((ji12) : Int).toNat * 2, none⟩ = some (.int .i64 ((rd_T27 x9_1 (ji12)).f0)) := hcc16 0 _ rfl
                          have hx16_1 : wc.cell? ⟨go16, ((ji12) : Int).toNat * 2 + 1, none⟩ = some (.int .i64 ((rd_T27 x9_1 (ji12)).f1)) := hcc16 1 _ rfl
                          have hf16_0 : wc.frozen? ⟨go16, ((ji12) : Int).toNat * 2, none⟩ = false := hfr16 0
                          have hf16_1 : wc.frozen? ⟨go16, ((ji12) : Int).toNat * 2 + 1, none⟩ = false := hfr16 1
                          clear hcl16 hcc16 hfr16 hM16
                          replace p16 := eq_true p16
                          replace q16 := eq_true q16
                          have HX18 := Aside0.mk (show Kd.R k27 27 wc w.heap.size (fun _ => True) (.slice (some ⟨go16, 0, none⟩) x9_1.length co17) x9_1 from (by (with_reducible repeat (first | apply Kd.R_alloc | apply Kd.R_drewN | apply Kd.R_drew)); exact HO_9.out))
                          obtain ⟨ce18, hcl18, hM18, hcc18, hfr18⟩ := Kd.R_elem HX18.out z27 ((ji12) : Int) (of_decide_eq_true (by first | (with_reducible assumption) | assumption)) (by have h_ : ((ji12) : Int) < ((x9_1.length : Int) : Int) := of_decide_eq_true (by first | (with_reducible assumption) | assumption); first | exact h_ | (have e_ := (Kd.R_reads' HO_9.out).1; omega) | simpa using h_)
                          obtain rfl := k27_openM hM18
                          have HP18 := Kd.R_seg HX18.out ((ji12) : Int) (of_decide_eq_true (by first | (with_reducible assumption) | assumption)) (by have h_ : ((ji12) : Int) < ((x9_1.length : Int) : Int) := of_decide_eq_true (by first | (with_reducible assumption) | assumption); first | exact h_ | (have e_ := (Kd.R_reads' HO_9.out).1; omega) | simpa using h_) (seg := [.int .i64 (wrap64 (x10_1 + 1))]) (j := 1) hcl18 hcc18 (show 2 ≤ 2 from by decide) (x' := (⟨(rd_T27 x9_1 (ji12)).f0, wrap64 (x10_1 + 1)⟩ : S27)) (k27_mkM _ _ _ (⟨(rd_T27 x9_1 (ji12)).f0, wrap64 (x10_1 + 1)⟩ : S27) ) (fun _ hk => hk)
                          have hx18_1 := hcc18 1 _ rfl
                          (try simp only [show (k27).sz = 2 from rfl, Nat.mul_one, Nat.add_zero] at hx18_1)
                          have hf18_1 := hfr18 1
                          (try simp only [show (k27).sz = 2 from rfl, Nat.mul_one, Nat.add_zero] at hf18_1)
                          clear hcl18 hcc18 hfr18 hM18
                          go_wp2_with (first | ((with_reducible refine gate_store (t := 3) (p := 50) rfl ?_); refine store_event (t := 3) (p := 50) (v := ?vo_w19) (w1 := (wc.setCell ⟨go16, ((ji12) : Int).toNat * 2 + 1, none⟩ (.int .i64 (wrap64 (x10_1 + 1))))) ?hg ?ho ?hn ?hr ?_; (case ho => rfl); (case hg => rfl); (case hn => rfl); (case hr => first | (go_simp; done) | (go_simp; rfl)); intro w19 hw; have hg : wc.grownBy w19 (some go16) := (by rw [hw]; exact HP18.2); have hp_ : Kd.R k27 27 w19 w.heap.size (fun _ => True) (.slice (some ⟨go16, 0, none⟩) x9_1.length co17) y146 := (by rw [hw, Ny146.out]; exact HP18.1); clear HP18; have n0_ := Aside0.mk (hp_); have n1_ := Aside0.mk ((by rw [hw]; exact below_set (HB.out) GB16.out : Below w.heap.size w w19)); clear HO_9; clear HB; have HO_9 := n0_; have HB := n1_; clear n0_ n1_; clear hg hw hp_))
                          refine Handed.intro kj4 ?measure ?_
                          rotate_left
                          go_step
                          (repeat apply Exists.intro)
                          refine ⟨?rel, (by first | rfl | (simp only [add_plain]; rfl))⟩
                          case measure => have := HK1.out; have := HJ4.out; omega
                          case rel => exact ⟨(y146), (wrap64 (x10_1 + 1)), (by first | rfl | (simp; done) | (simp [*]; done)), H', ⟨by have := HK1.out; have := HJ4.out; omega⟩, ⟨by (with_reducible repeat (first | apply Kd.R_alloc | apply Kd.R_drewN | apply Kd.R_drew)); exact HO_9.out⟩, ⟨by repeat (first | (with_reducible first | exact HB.out | apply below_alloc | apply pw_below_drewN | apply below_drew1) | exact HB.out)⟩⟩
                        · rw [if_neg c15] at H
                          have c15b0 : (((rd_T27 x9_1 (ji12)).f1) == x10_1) = false := beq_eq_false_iff_ne.mpr c15
                          have c15b1 : (((rd_T27 x9_1 (ji12)).f1) != x10_1) = true := bne_iff_ne.mpr c15
                          by_cases c20 : x9_1.length < 8796093022208
                          · rw [if_pos c20] at H
                            have LMc20 := Aside0.mk c20
                            clear c20
                            obtain ⟨y147, hy147⟩ : ∃ y_ : List (S27), y_ = (x9_1 ++ [(⟨x10_1, wrap64 (x10_1 + 1)⟩ : S27)]) := ⟨_, rfl⟩
                            replace H : (deckleref34_Spans.l0 kj4 l0 a2 a3 y147 (wrap64 (x10_1 + 1))) = some r := by first | (rw [hy147]; with_reducible exact H) | (have H2_ := (Option.bind_some _ _).symm.trans H; rw [hy147]; with_reducible exact H2_) | (have H2_ := (Option.bind_some _ _).symm.trans H; with_reducible exact H2_) | with_reducible exact H | (rw [hy147]; exact H) | exact H
                            have Ny147 := Aside0.mk hy147
                            clear hy147
                            have H' := Aside0.mk H
                            clear H
                            have p144 : 0 ≤ (x10_1 : Int) := of_decide_eq_true (by first | (with_reducible assumption) | assumption)
                            have q144 : x10_1 < (l0.length : Int) := of_decide_eq_true (by first | (with_reducible assumption) | assumption)
                            obtain ⟨ad144, e144, hx144_0⟩ := Kd.at_bool HR0.out x10_1 p144 q144
                            cases e144
                            replace hx144_0 := (HB.out.cell (World.block_lt_of_cell? w _ hx144_0)).trans hx144_0
                            replace p144 := eq_true p144
                            replace q144 := eq_true q144
                            obtain ⟨Ao21, co21, eo21⟩ := Kd.R_slice HO_9.out
                            subst eo21
                            have p145 : 0 ≤ ((ji12) : Int) := of_decide_eq_true (by first | (with_reducible assumption) | assumption)
                            have q145 : (ji12) < (x9_1.length : Int) := of_decide_eq_true (by first | (with_reducible assumption) | assumption)
                            obtain ⟨ad145, e145, hx145_0, hx145_1⟩ := at_T27 (Kd.R_reads' HO_9.out).2.2 (ji12) p145 q145
                            cases e145
                            replace p145 := eq_true p145
                            replace q145 := eq_true q145
                            go_wp2_with (first | ((with_reducible refine gate_builtin (b := .append) (xs := #[.tmp 51, .tmp 56]) rfl ?_); (try (refine gate_guard (by rfl) ?_; dsimp only)); at_builtin; refine Kd.R_append k27 (w0 := w) w.heap.size rfl (.tmp 51) (.tmp 56) 33 27 (.agg #[(.int .i64 0), (.int .i64 0)]) 16 rfl Try.underlying33 info27 rfl (by decide) (by omega) (.slice (some ad145) x9_1.length co21) x9_1 (⟨x10_1, wrap64 (x10_1 + 1)⟩ : S27) [.int .i64 x10_1, .int .i64 (wrap64 (x10_1 + 1))] (fun _ => True) (fun _ => False) rfl rfl ?aP (fun _ hk => hk.elim) ?aF ?aO ?aB ?aS ?aL ?_; (case aP => exact k27_mkM _ _ _ (⟨x10_1, wrap64 (x10_1 + 1)⟩ : S27)); (case aB => exact (by repeat (first | (with_reducible first | exact HB.out | apply below_alloc | apply pw_below_drewN | apply below_drew1) | exact HB.out))); (case aF => exact (fun _ _ => trivial)); (case aO => exact (by (with_reducible repeat (first | apply Kd.R_alloc | apply Kd.R_drewN | apply Kd.R_drew)); exact HO_9.out)); (case aS => exact (below_size (by repeat (first | (with_reducible first | exact HB.out | apply below_alloc | apply pw_below_drewN | apply below_drew1) | exact HB.out)))); (case aL => have := LMc20.out; omega); intro v148 w22 ho hb hg hat; rw [← Ny147.out] at ho; have n0_ := Aside0.mk (hb); have n1_ := Aside0.mk (ho); clear HB; clear HO_9; have HB := n0_; have HO149 := n1_; clear n0_ n1_; clear ho hb hg hat))
                            refine Handed.intro kj4 ?measure ?_
                            rotate_left
                            go_step
                            (repeat apply Exists.intro)
                            refine ⟨?rel, (by first | rfl | (simp only [add_plain]; rfl))⟩
                            case measure => have := HK1.out; have := HJ4.out; omega
                            case rel => exact ⟨(y147), (wrap64 (x10_1 + 1)), (by first | rfl | (simp; done) | (simp [*]; done)), H', ⟨by have := HK1.out; have := HJ4.out; omega⟩, ⟨by (with_reducible repeat (first | apply Kd.R_alloc | apply Kd.R_drewN | apply Kd.R_drew)); exact HO149.out⟩, ⟨by repeat (first | (with_reducible first | exact HB.out | apply below_alloc | apply pw_below_drewN | apply below_drew1) | exact HB.out)⟩⟩
                          · rw [if_neg c20] at H
                            exact absurd H (by simp)
                      · rw [if_neg c14] at H
                        exact absurd H (by simp)
                    · rw [if_neg c13] at H
                      exact absurd H (by simp)
                  · rw [if_neg c11] at H
                    have c11b0 : decide (0 < (x9_1.length : Int)) = false := decide_eq_false c11
                    have c11b1 : decide (0 < x9_1.length) = false := decide_eq_false (by omega)
                    clear c11
                    by_cases c23 : x9_1.length < 8796093022208
                    · rw [if_pos c23] at H
                      have LMc23 := Aside0.mk c23
                      clear c23
                      obtain ⟨y150, hy150⟩ : ∃ y_ : List (S27), y_ = (x9_1 ++ [(⟨x10_1, wrap64 (x10_1 + 1)⟩ : S27)]) := ⟨_, rfl⟩
                      replace H : (deckleref34_Spans.l0 kj4 l0 a2 a3 y150 (wrap64 (x10_1 + 1))) = some r := by first | (rw [hy150]; with_reducible exact H) | (have H2_ := (Option.bind_some _ _).symm.trans H; rw [hy150]; with_reducible exact H2_) | (have H2_ := (Option.bind_some _ _).symm.trans H; with_reducible exact H2_) | with_reducible exact H | (rw [hy150]; exact H) | exact H
                      have Ny150 := Aside0.mk hy150
                      clear hy150
                      have H' := Aside0.mk H
                      clear H
                      have p144 : 0 ≤ (x10_1 : Int) := of_decide_eq_true (by first | (with_reducible assumption) | assumption)
                      have q144 : x10_1 < (l0.length : Int) := of_decide_eq_true (by first | (with_reducible assumption) | assumption)
                      obtain ⟨ad144, e144, hx144_0⟩ := Kd.at_bool HR0.out x10_1 p144 q144
                      cases e144
                      replace hx144_0 := (HB.out.cell (World.block_lt_of_cell? w _ hx144_0)).trans hx144_0
                      replace p144 := eq_true p144
                      replace q144 := eq_true q144
                      obtain ⟨Ao24, co24, eo24⟩ := Kd.R_slice HO_9.out
                      subst eo24
                      go_wp2_with (first | ((with_reducible refine gate_builtin (b := .append) (xs := #[.tmp 51, .tmp 56]) rfl ?_); (try (refine gate_guard (by rfl) ?_; dsimp only)); at_builtin; refine Kd.R_append k27 (w0 := w) w.heap.size rfl (.tmp 51) (.tmp 56) 33 27 (.agg #[(.int .i64 0), (.int .i64 0)]) 16 rfl Try.underlying33 info27 rfl (by decide) (by omega) (.slice Ao24 x9_1.length co24) x9_1 (⟨x10_1, wrap64 (x10_1 + 1)⟩ : S27) [.int .i64 x10_1, .int .i64 (wrap64 (x10_1 + 1))] (fun _ => True) (fun _ => False) rfl rfl ?aP (fun _ hk => hk.elim) ?aF ?aO ?aB ?aS ?aL ?_; (case aP => exact k27_mkM _ _ _ (⟨x10_1, wrap64 (x10_1 + 1)⟩ : S27)); (case aB => exact (by repeat (first | (with_reducible first | exact HB.out | apply below_alloc | apply pw_below_drewN | apply below_drew1) | exact HB.out))); (case aF => exact (fun _ _ => trivial)); (case aO => exact (by (with_reducible repeat (first | apply Kd.R_alloc | apply Kd.R_drewN | apply Kd.R_drew)); exact HO_9.out)); (case aS => exact (below_size (by repeat (first | (with_reducible first | exact HB.out | apply below_alloc | apply pw_below_drewN | apply below_drew1) | exact HB.out)))); (case aL => have := LMc23.out; omega); intro v151 w25 ho hb hg hat; rw [← Ny150.out] at ho; have n0_ := Aside0.mk (hb); have n1_ := Aside0.mk (ho); clear HB; clear HO_9; have HB := n0_; have HO152 := n1_; clear n0_ n1_; clear ho hb hg hat))
                      refine Handed.intro kj4 ?measure ?_
                      rotate_left
                      go_step
                      (repeat apply Exists.intro)
                      refine ⟨?rel, (by first | rfl | (simp only [add_plain]; rfl))⟩
                      case measure => have := HK1.out; have := HJ4.out; omega
                      case rel => exact ⟨(y150), (wrap64 (x10_1 + 1)), (by first | rfl | (simp; done) | (simp [*]; done)), H', ⟨by have := HK1.out; have := HJ4.out; omega⟩, ⟨by (with_reducible repeat (first | apply Kd.R_alloc | apply Kd.R_drewN | apply Kd.R_drew)); exact HO152.out⟩, ⟨by repeat (first | (with_reducible first | exact HB.out | apply below_alloc | apply pw_below_drewN | apply below_drew1) | exact HB.out)⟩⟩
                    · rw [if_neg c23] at H
                      exact absurd H (by simp)
              · rw [if_neg c9] at H
                exact absurd H (by simp)
            · rw [if_neg c8] at H
              exact absurd H (by simp)
          · replace c7 := Bool.eq_false_iff.mpr c7
            subst c7
            have H1 : (some x9_1) = some r := by rw [if_neg (show ¬ (false = true) by decide)] at H; exact H
            clear H
            have H := H1
            clear H1
            obtain rfl := Option.some.inj H
            go_wp2
            go_ret
            exact ⟨_, by first | rfl | (simp [errW_none, errW_some] <;> rfl) | (simp [*, errW_none, errW_some] <;> rfl), by (with_reducible repeat (first | apply Kd.R_alloc | apply Kd.R_drewN | apply Kd.R_drew)); exact HO_9.out, by repeat (first | (with_reducible first | exact HB.out | apply below_alloc | apply pw_below_drewN | apply below_drew1) | exact HB.out)⟩

-- NOT PRINTED: function 20 (decklelaw34_asks)

end Go.Proofs.Ytaandjafmmpbkaa.PQ
