/- StoreHolds walked. -/
import Derived.Test.YtmpfadiehakcgaaHat
import Derived.Deep.CutBlock
import Derived.Deep.DeepCutAuto
namespace Go.Proofs.Ytmpfadiehakcgaa.PQ
open Go.RowKit Go.Proofs.YtmpfadiehakcgaaW.PrintWords Go.Proofs.YtmpfadiehakcgaaW.PrintLast Go.Proofs.YtmpfadiehakcgaaW.PrintMore
set_option linter.unusedVariables false
set_option linter.unusedSimpArgs false
set_option maxHeartbeats 16000000 in
set_option maxRecDepth 100000 in
theorem holds_core (a0 : Option Addr) (c0 : Nat) (zs : List S37) (a1 : Option Addr) (c1 : Nat) (ps : List Int) (w : World) (hr : Aside0 (Kd.C k37 w a0 zs.length zs)) (hp : Aside0 (ReadsInt w .i64 a1 ps.length ps)) :
    Calls Try.prog 4 #[.slice a0 zs.length c0, .slice a1 ps.length c1] w fun e w' => e = .returned (.bool true) ∧ Below w.heap.size w w' := by
  have q7 := Lib.hid (works_calls w)
  have q21 := Lib.hid geo_calls
  have qn := Lib.hid new0_calls
  have qz := Lib.hid (text_calls 0)
  have sz := Lib.hid (show (repN 0 64).size = 64 from repN_size 0 64)
  obtain ⟨z, hz⟩ : ∃ z, repN 0 64 = z := ⟨_, rfl⟩
  rw [hz] at qz sz qn
  have hzz := Lib.hid hz
  clear hz
  have hzm := Lib.hid (Kd.C_max hr.out)
  go_enter Try.func4, Try.ntmps4
  go_wp2_with fail
  refine q7.out.mono ?_
  rintro e w1 ⟨rfl, hb1⟩
  go_wp2_with fail
  refine (q21.out w1).mono ?_
  rintro e w2 ⟨rfl, hb2⟩
  go_wp2_with fail
  refine (qn.out w2).mono ?_
  rintro e w3 ⟨P, B, cap, mb, rfl, hb3, H3⟩
  have hB3 := Aside0.mk ((hb1.trans (hb2.mono hb1.size)).trans (hb3.mono (Nat.le_trans hb1.size hb2.size)))
  have hlo := Lib.hid (show w.heap.size ≤ w2.heap.size from Nat.le_trans hb1.size hb2.size)
  generalize w2.heap.size = lo at *
  have hup := Lib.hid (show w3.heap.size = w3.heap.size from rfl)
  obtain ⟨up, hupe⟩ : ∃ up, w3.heap.size = up := ⟨_, rfl⟩
  rw [hupe] at H3
  have hupe' := Lib.hid hupe
  clear q7 q21 qn hb1 hb2 hb3 hupe hup
  go_wp2_with fail
  refine (qz.out w3).mono ?_
  rintro e w4 ⟨rfl, hb4⟩
  have H4 := Aside0.mk (And.intro (H3.out.below hb4) (hB3.out.trans (hb4.mono hB3.out.size)))
  have hl4 := Lib.hid (show up ≤ w4.heap.size from hupe'.out ▸ hb4.size)
  clear H3 hB3 hb4
  have r0 := R_oneS w4 up hl4.out z
  have HV0 := Aside0.mk (And.intro (H4.out.1.alloc (.cells #[.string z] 9)) (H4.out.2.alloc (Nat.le_trans hlo.out (Nat.le_trans (Nat.le_trans H4.out.1.rP.1 (Nat.le_of_lt H4.out.1.rP.2)) hl4.out)) (.cells #[.string z] 9)))
  have lV0 := Lib.hid (show w4.heap.size + 1 = (w4.alloc (.cells #[.string z] 9)).heap.size from (World.size_alloc ..).symm)
  go_wp2_with fail
  refine (qz.out _).mono ?_
  rintro e w5 ⟨rfl, hb5⟩
  replace r0 := Kd.R_below r0 hb5
  have H5 := Aside0.mk (And.intro (HV0.out.1.below hb5) (HV0.out.2.trans (hb5.mono HV0.out.2.size)))
  have x01 := Lib.hid (show w4.heap.size < w5.heap.size from by have h1 := hb5.size; have h2 := lV0.out; omega)
  have hl5 := Lib.hid (show up ≤ w5.heap.size from by have h1 := x01.out; have h2 := hl4.out; omega)
  clear HV0 lV0 hb5 H4
  have r1 := R_oneS w5 up hl5.out z
  have HV1 := Aside0.mk (And.intro (H5.out.1.alloc (.cells #[.string z] 9)) (H5.out.2.alloc (Nat.le_trans hlo.out (Nat.le_trans (Nat.le_trans H5.out.1.rP.1 (Nat.le_of_lt H5.out.1.rP.2)) hl5.out)) (.cells #[.string z] 9)))
  have lV1 := Lib.hid (show w5.heap.size + 1 = (w5.alloc (.cells #[.string z] 9)).heap.size from (World.size_alloc ..).symm)
  replace r0 := Kd.R_alloc r0 (.cells #[.string z] 9)
  go_wp2_with fail
  refine (qz.out _).mono ?_
  rintro e w6 ⟨rfl, hb6⟩
  replace r0 := Kd.R_below r0 hb6
  replace r1 := Kd.R_below r1 hb6
  have H6 := Aside0.mk (And.intro (HV1.out.1.below hb6) (HV1.out.2.trans (hb6.mono HV1.out.2.size)))
  have x12 := Lib.hid (show w5.heap.size < w6.heap.size from by have h1 := hb6.size; have h2 := lV1.out; omega)
  have hl6 := Lib.hid (show up ≤ w6.heap.size from by have h1 := x12.out; have h2 := hl5.out; omega)
  clear HV1 lV1 hb6 H5
  have r2 := R_oneS w6 up hl6.out z
  have HV2 := Aside0.mk (And.intro (H6.out.1.alloc (.cells #[.string z] 9)) (H6.out.2.alloc (Nat.le_trans hlo.out (Nat.le_trans (Nat.le_trans H6.out.1.rP.1 (Nat.le_of_lt H6.out.1.rP.2)) hl6.out)) (.cells #[.string z] 9)))
  have lV2 := Lib.hid (show w6.heap.size + 1 = (w6.alloc (.cells #[.string z] 9)).heap.size from (World.size_alloc ..).symm)
  replace r0 := Kd.R_alloc r0 (.cells #[.string z] 9)
  replace r1 := Kd.R_alloc r1 (.cells #[.string z] 9)
  go_wp2_with fail
  refine (qz.out _).mono ?_
  rintro e w7 ⟨rfl, hb7⟩
  replace r0 := Kd.R_below r0 hb7
  replace r1 := Kd.R_below r1 hb7
  replace r2 := Kd.R_below r2 hb7
  have H7 := Aside0.mk (And.intro (HV2.out.1.below hb7) (HV2.out.2.trans (hb7.mono HV2.out.2.size)))
  have x23 := Lib.hid (show w6.heap.size < w7.heap.size from by have h1 := hb7.size; have h2 := lV2.out; omega)
  have hl7 := Lib.hid (show up ≤ w7.heap.size from by have h1 := x23.out; have h2 := hl6.out; omega)
  clear HV2 lV2 hb7 H6
  have r3 := R_oneS w7 up hl7.out z
  have HV3 := Aside0.mk (And.intro (H7.out.1.alloc (.cells #[.string z] 9)) (H7.out.2.alloc (Nat.le_trans hlo.out (Nat.le_trans (Nat.le_trans H7.out.1.rP.1 (Nat.le_of_lt H7.out.1.rP.2)) hl7.out)) (.cells #[.string z] 9)))
  have lV3 := Lib.hid (show w7.heap.size + 1 = (w7.alloc (.cells #[.string z] 9)).heap.size from (World.size_alloc ..).symm)
  replace r0 := Kd.R_alloc r0 (.cells #[.string z] 9)
  replace r1 := Kd.R_alloc r1 (.cells #[.string z] 9)
  replace r2 := Kd.R_alloc r2 (.cells #[.string z] 9)
  have HT := Aside0.mk (HAt.make HV3.out.1 r0 r1 r2 r3 x01.out x12.out x23.out hlo.out HV3.out.2)
  rw [← lV3.out] at HT
  have HI : HIn (fun _ => z) (fun _ => onlyS z) (fun _ => [z]) 0 := ⟨fun k s _ => by unfold onlyS updB; by_cases h : s = z <;> simp [h], fun k _ => List.mem_singleton.2 rfl, fun k s _ hs => by rw [List.mem_singleton.1 hs]; exact sz.out, fun k _ => Nat.le_refl _⟩
  replace HI := Aside0.mk HI
  clear r0 r1 r2 r3 HV3 lV3 x01 x12 x23 hl4 hl5 hl6 hl7 H7 hupe'
  go_upto_block 0 with (fail)
  generalize w7.heap.size + 1 = T at *
  generalize tv0 w4.heap.size w5.heap.size w6.heap.size w7.heap.size = tv at *
  go_cut [8] (fun y wx => ∃ (i cx : Nat) (d : Nat → ByteArray) (m : Nat → ByteArray → Bool) (tv : Nat → Value) (tl : Nat → List ByteArray), y = .int .i64 (i : Int) ∧ i ≤ 60 ∧ cx ≤ i + 1 ∧ Aside0 (HAt lo up cx d m P B cap mb T tv tl w wx) ∧ Aside0 (HIn d m tl i))
  case first =>
    go_wp2
    go_loopw [8] (fun y wr => ∃ (i cx : Nat) (d : Nat → ByteArray) (m : Nat → ByteArray → Bool) (tv : Nat → Value) (tl : Nat → List ByteArray), i ≤ zs.length ∧ i ≤ 60 ∧ cx ≤ i + 1 ∧ y = .int .i64 (i : Int) ∧ Aside0 (HAt lo up cx d m P B cap mb T tv tl w wr) ∧ Aside0 (HIn d m tl i)) (fun y _ => 60 - (intOf y).toNat)
    case atStart => exact ⟨0, 1, _, _, _, _, Nat.zero_le _, Nat.zero_le _, Nat.le_refl _, rfl, HT, HI⟩
    case round =>
      clear HT HI
      obtain ⟨i, cx, d, m, tv, tl, hi, hi60, hcx, rfl, HT, HI⟩ := hrel
      by_cases hlt : i < zs.length
      · have yk : decide ((i : Int) < (zs.length : Int)) = true := decide_eq_true (by omega)
        by_cases hlt2 : i < 60
        · have yk2 : decide ((i : Int) < 60) = true := decide_eq_true (by omega)
          obtain ⟨ad, A3, c3, rfl, d0, d1, d2, d3, _, _⟩ := at_T37 (Kd.C_below hr.out HT.out.bel) (i : Int) (by omega) (by omega)
          rw [Int.toNat_natCast] at d0 d1 d2 d3
          generalize rd_T37 zs (i : Int) = y at *
          obtain ⟨y0, y1, y2, y3⟩ := y
          dsimp only at *
          have HT1 := Aside0.mk (HT.out.alloc (.cells #[.int .i64 y0, .int .i64 y1, .string y2, .slice A3 y3.length c3] 37))
          have hX := heap_alloc_new wr (.cells #[.int .i64 y0, .int .i64 y1, .string y2, .slice A3 y3.length c3] 37)
          have g1 : (wr.alloc (.cells #[.int .i64 y0, .int .i64 y1, .string y2, .slice A3 y3.length c3] 37)).cell? ⟨wr.heap.size, 1, none⟩ = some (.int .i64 y1) := blk_cell hX 1
          obtain ⟨_, hb0, hb4⟩ := blw_f y1 4 (by decide) (by decide)
          have q23 := Lib.hid (blw_calls y1 4 (by decide) (by decide) (wr.alloc (.cells #[.int .i64 y0, .int .i64 y1, .string y2, .slice A3 y3.length c3] 37)))
          obtain ⟨j, hj⟩ : ∃ j : Nat, blw y1 4 = (j : Int) := ⟨(blw y1 4).toNat, (Int.toNat_of_nonneg hb0).symm⟩
          rw [hj] at q23 hb4
          have hj4 : j < 4 := by omega
          clear hb0 hb4 hj
          go_wp2_with fail
          refine q23.out.mono ?_
          rintro e w8 ⟨rfl, hb8⟩
          have HT2 := Aside0.mk (HT1.out.below hb8)
          have hX8 := blk_below hX hb8
          have e0 : w8.cell? ⟨wr.heap.size, 0, none⟩ = some (.int .i64 y0) := blk_cell hX8 0
          have e2 : w8.cell? ⟨wr.heap.size, 2, none⟩ = some (.string y2) := blk_cell hX8 2
          clear q23 HT HT1 hX g1 d0 d1 d2 d3 hb8
          go_wp2_with fail
          have q22 := Lib.hid (text_calls ((y2.size : Int) % 256) w8)
          have sz9 := Lib.hid (show (repN ((y2.size : Int) % 256) 64).size = 64 from repN_size _ 64)
          generalize repN ((y2.size : Int) % 256) 64 = s9 at *
          refine q22.out.mono ?_
          rintro e w9 ⟨rfl, hb9⟩
          have HT3 := Aside0.mk (HT2.out.below hb9)
          have e0' : w9.cell? ⟨wr.heap.size, 0, none⟩ = some (.int .i64 y0) := blk_cell (blk_below hX8 hb9) 0
          clear HT2 e0 e2 hX8 q22 hb9
          go_upto_block 2 with (fail)
          go_cut [11] (fun p wx => ∃ (s : ByteArray) (cx' : Nat) (d' : Nat → ByteArray) (m' : Nat → ByteArray → Bool), p = .string s ∧ cx' ≤ i + 2 ∧ Aside0 (HAt lo up cx' d' m' P B cap mb T tv tl w wx) ∧ Aside0 (HIn d' m' (updL tl j s) (i + 1)) ∧ Aside0 (s.size = 64))
          case first =>
            by_cases h0 : y0 = 0
            · subst h0
              have q8 := Lib.hid (write_at (Aside0.mk HT3.out.s) j hj4 s9 (by rw [sz9.out]; rfl) (by rw [sz9.out]; decide) (by omega))
              go_wp2_with fail
              refine q8.out.mono ?_
              rintro e w10 ⟨rfl, hA⟩
              have F := Aside0.mk (HT3.out.store hA.out.1 hA.out.2)
              clear q8 hA HT3
              go_wp2
              go_meet
              exact ⟨s9, cx + 1, _, _, rfl, by omega, F, ⟨HI.out.write hj4 sz9.out⟩, ⟨sz9.out⟩⟩
            · have z0 : (y0 == 0) = false := by rw [beq_eq_false_iff_ne]; exact h0
              by_cases h1 : y0 = 1
              · subst h1
                have q8 := Lib.hid (trim_at (Aside0.mk HT3.out.s) (by decide) j hj4 (by omega))
                rw [show repN 0 geo0.f2.toNat = z from hzz.out] at q8
                go_wp2_with fail
                refine q8.out.mono ?_
                rintro e w10 ⟨rfl, hA⟩
                have F := Aside0.mk (HT3.out.store hA.out.1 hA.out.2)
                clear q8 hA HT3
                go_wp2_with fail
                refine (qz.out w10).mono ?_
                rintro e w11 ⟨rfl, hb11⟩
                replace F := Aside0.mk (F.out.below hb11)
                clear hb11
                go_wp2
                go_meet
                exact ⟨z, cx + 1, _, _, rfl, by omega, F, ⟨HI.out.write hj4 sz.out⟩, ⟨sz.out⟩⟩
              · have z1 : (y0 == 1) = false := by rw [beq_eq_false_iff_ne]; exact h1
                have q8 := Lib.hid (issue_at (Aside0.mk HT3.out.s) j hj4 s9 (by rw [sz9.out]; rfl) (by rw [sz9.out]; decide) (by omega))
                go_wp2_with fail
                refine q8.out.mono ?_
                rintro e w10 ⟨rfl, hA⟩
                have F := Aside0.mk (HT3.out.store hA.out.1 hA.out.2)
                clear q8 hA HT3
                go_wp2
                go_meet
                exact ⟨s9, cx + 1, _, _, rfl, by omega, F, ⟨HI.out.issue hj4 sz9.out⟩, ⟨sz9.out⟩⟩
          case rest =>
            clear HT3 HI e0' sz9
            obtain ⟨s, cx', d', m', rfl, hcx', HT4, HI4, hs4⟩ := hcut
            have ht := (HT4.out.cell hj4)
            have hlen := Lib.hid (show (tl j).length ≤ 100 from by have := HI4.out.len j hj4; unfold updL at this; rw [if_pos rfl, List.length_append, List.length_singleton] at this; omega)
            obtain ⟨ht0, ht1⟩ := ht
            go_wp2_with (first | ((with_reducible refine gate_builtin (b := .append) (xs := #[.tmp 86, .tmp 88]) rfl ?_); at_builtin; refine Kd.R_append Kd.string (w0 := wc) up rfl (.tmp 86) (.tmp 88) 29 9 (.string ⟨#[]⟩) 16 rfl Try.underlying29 info9 rfl (by decide) (by omega) (tv j) (tl j) s [.string s] (fun _ => True) (fun _ => False) rfl rfl ?aP (fun _ hk => hk.elim) ?aF ?aO ?aB ?aS ?aL ?_; (case aP => exact rfl); (case aF => exact (fun _ _ => trivial)); (case aO => exact HT4.out.row j hj4); (case aB => exact Below.refl _ _); (case aS => exact HT4.out.s.hw); (case aL => have := hlen.out; omega); intro v1 w8 ho hb hg hat; obtain ⟨A1, c1, he⟩ := Kd.R_slice ho; rw [List.length_append, List.length_singleton] at he; subst he; obtain ⟨c8, f8⟩ := HT4.out.cellG hj4 hg; have F := Aside0.mk (HT4.out.told hj4 s ho hb hg hat); clear ho hb hg hat ht0 ht1) | fail)
            generalize w8.setCell ⟨T, j, none⟩ (.slice A1 ((tl j).length + 1) c1) = W9 at *
            clear c8 f8 HT4
            go_loopw [91] (fun y wr2 => ∃ k : Nat, k ≤ 4 ∧ y = .int .i64 (k : Int) ∧ Aside0 (W9 = wr2)) (fun y _ => 4 - (intOf y).toNat)
            case atStart => exact ⟨0, by decide, rfl, ⟨rfl⟩⟩
            case round =>
              obtain ⟨k, hk, rfl, ⟨rfl⟩⟩ := hrel
              by_cases hk4 : k < 4
              · have yk3 : decide ((k : Int) < 4) = true := decide_eq_true (by omega)
                have q18 := Lib.hid (read_at (Aside0.mk F.out.s) k hk4)
                have q19 := Lib.hid (may_text (Aside0.mk F.out.s) k hk4 (d' k) (by rw [HI4.out.size k _ hk4 (HI4.out.held k hk4)]; decide) true ((HI4.out.may k _ hk4).2 (HI4.out.held k hk4)))
                generalize d' k = dk at *
                go_wp2_with fail
                refine q18.out.mono ?_
                rintro e w10 ⟨rfl, rfl⟩
                go_wp2_with fail
                refine q19.out.mono ?_
                rintro e w11 ⟨rfl, rfl⟩
                go_wp2
                go_roundw
                case rel => exact ⟨k + 1, by omega, rfl, ⟨trivial⟩⟩
                case measure => (simp [intOf]; omega)
              · obtain rfl : k = 4 := by omega
                have yk3 : decide (((4 : Nat) : Int) < 4) = false := rfl
                go_wp2
                go_roundw
                case rel => exact ⟨i + 1, cx', d', m', _, _, by omega, by omega, by omega, rfl, F, HI4⟩
                case measure => (simp [intOf]; omega)
        · have yk2 : decide ((i : Int) < 60) = false := decide_eq_false (by omega)
          go_wp2
          go_meet
          exact ⟨i, cx, d, m, tv, tl, rfl, hi60, hcx, HT, HI⟩
      · have yk : decide ((i : Int) < (zs.length : Int)) = false := decide_eq_false (by omega)
        go_wp2
        go_meet
        exact ⟨i, cx, d, m, tv, tl, rfl, hi60, hcx, HT, HI⟩
  case rest =>
    clear HT HI
    obtain ⟨i, cx, d, m, tv, tl, rfl, hi60, hcx, HT, HI⟩ := hcut
    go_wp2
    go_loopw [15, 110] (fun hv y wr => ∃ (k : Nat) (hl : List ByteArray), k ≤ 4 ∧ y = .int .i64 (k : Int) ∧ Aside0 (GAt lo up cx d m P B cap mb T tv tl hv hl w wr) ∧ Aside0 (hl.length = k ∧ ∀ i, i < k → sd hl i ∈ tl i)) (fun _ y _ => 4 - (intOf y).toNat)
    case atStart => exact ⟨0, [], by decide, rfl, ⟨⟨HT.out, Kd.R_nil _ _ _ _ _, fun k hk b hb e => by simp [Value.ownBlock] at e⟩⟩, ⟨rfl, fun i hi => absurd hi (Nat.not_lt_zero i)⟩⟩
    case round =>
      clear HT
      obtain ⟨k, hl, hk, rfl, HG, HL⟩ := hrel
      by_cases hk4 : k < 4
      · have yk3 : decide ((k : Int) < 4) = true := decide_eq_true (by omega)
        have hlen := Lib.hid (show 0 < (tl k).length ∧ (tl k).length ≤ 61 from ⟨List.length_pos_of_mem (HI.out.held k hk4), by have := HI.out.len k hk4; omega⟩)
        go_upto_if 116 with (fail)
        go_cut [17] (fun x wx => ∃ n : Nat, x = .int .i64 (n : Int) ∧ Aside0 (n < (tl k).length) ∧ Aside0 (GAt lo up cx d m P B cap mb T tv tl u15 hl w wx))
        case first =>
          by_cases hkp : k < ps.length
          · have yk4 : decide ((k : Int) < (ps.length : Int)) = true := decide_eq_true (by omega)
            obtain ⟨ap, rfl, dp⟩ := (hp.out.below HG.out.h.bel).at_ (k : Int) (by omega) (by omega)
            rw [Int.toNat_natCast] at dp
            obtain ⟨At, ct, hvt⟩ := Kd.R_slice (HG.out.h.row k hk4)
            have ht := (HG.out.h.cell hk4).1
            rw [hvt] at ht
            obtain ⟨_, hb0, hbn⟩ := blw_f (rd ps (k : Int)) ((tl k).length : Int) (by have := hlen.out; omega) (by have := hlen.out; omega)
            have q23 := blw_quiet (rd ps (k : Int)) ((tl k).length : Int) (by have := hlen.out; omega) (by have := hlen.out; omega) wr
            obtain ⟨n, hn⟩ : ∃ n : Nat, blw (rd ps (k : Int)) ((tl k).length : Int) = (n : Int) := ⟨_, (Int.toNat_of_nonneg hb0).symm⟩
            rw [hn] at q23 hbn
            have hnl := Aside0.mk (show n < (tl k).length from by omega)
            clear hb0 hbn hn hvt
            generalize rd ps (k : Int) = pv at *
            go_wp2_with fail
            go_quiet (first | (with_reducible exact q23 _))
            go_wp2
            go_meet
            exact ⟨n, rfl, hnl, ⟨HG.out.below (pw_below_drewN (Below.refl _ _) _)⟩⟩
          · have yk4 : decide ((k : Int) < (ps.length : Int)) = false := decide_eq_false (by omega)
            go_wp2
            go_meet
            exact ⟨0, rfl, ⟨hlen.out.1⟩, HG⟩
        case rest =>
          clear HG
          obtain ⟨n, rfl, hn, HG⟩ := hcut
          obtain ⟨gk, ck, hvk, s1⟩ := HG.out.h.toldAt hk4 hn.out
          have c1' := (HG.out.h.toldIs hk4 hn.out hvk).1
          have hsm := Aside0.mk (sd_mem hn.out)
          have hve := Lib.hid hvk
          have hL1 := Lib.hid HL.out.1
          obtain ⟨s, hse⟩ : ∃ s, sd (tl k) n = s := ⟨_, rfl⟩
          rw [hse] at s1 hsm
          replace hse := Lib.hid hse
          clear hvk
          have hnv := hn.out
          go_wp2_with (first | ((with_reducible refine gate_builtin (b := .append) (xs := #[.tmp 127, .tmp 135]) rfl ?_); at_builtin; refine Kd.R_append Kd.string (w0 := wc) up rfl (.tmp 127) (.tmp 135) 29 9 (.string ⟨#[]⟩) 16 rfl Try.underlying29 info9 rfl (by decide) (by omega) u15 hl s [.string s] (fun _ => True) (fun _ => False) rfl rfl ?aP (fun _ hk => hk.elim) ?aF ?aO ?aB ?aS ?aL ?_; (case aP => exact rfl); (case aF => exact (fun _ _ => trivial)); (case aO => exact HG.out.hr); (case aB => exact Below.refl _ _); (case aS => exact HG.out.h.s.hw); (case aL => have := hL1.out; omega); intro v1 w8 ho hb hg hat; have F := Aside0.mk (HG.out.push s ho hb hg hat); obtain ⟨c8, s8⟩ := F.out.h.toldIs hk4 hn.out hve.out; rw [hse.out] at s8; clear ho hb hg hat c1' s1) | fail)
          have q19 := Lib.hid (may_text (Aside0.mk F.out.h.s) k hk4 s (by rw [HI.out.size k _ hk4 hsm.out]; decide) true ((HI.out.may k _ hk4).2 hsm.out))
          refine q19.out.mono ?_
          rintro e w9 ⟨rfl, rfl⟩
          clear q19 c8 s8
          go_wp2
          go_roundw
          case rel =>
            refine ⟨k + 1, hl ++ [s], by omega, rfl, F, ⟨by rw [List.length_append, List.length_singleton, HL.out.1], fun i hi => ?_⟩⟩
            by_cases hik : i < k
            · rw [sd_snoc_lt (by rw [HL.out.1]; exact hik)]
              exact HL.out.2 i hik
            · obtain rfl : i = k := by omega
              have := HL.out.1
              subst this
              rw [sd_snoc]
              exact hsm.out
          case measure => (simp [intOf]; omega)
      · obtain rfl : k = 4 := by omega
        have yk3 : decide (((4 : Nat) : Int) < 4) = false := rfl
        obtain ⟨Ah, ch, hu⟩ := Kd.R_slice HG.out.hr
        have hL4 := HL.out.1
        subst hu
        have hws : ∀ s ∈ hl, s.size ≤ maxLen := by
          intro s hs
          obtain ⟨j, hj⟩ := List.mem_iff_getElem?.1 hs
          obtain ⟨hj1, hj2⟩ := List.getElem?_eq_some_iff.1 hj
          have h1 := HL.out.2 j (by omega)
          rw [sd_get hj1, hj2] at h1
          rw [HI.out.size j s (by omega) h1]
          decide
        have q16 := Lib.hid (cut_calls (Aside0.mk HG.out.h.s) Ah ch hl hL4 ⟨fun wr' hC => (Kd.R_reads' (R_keepS HG.out.hr (fun b _ h1 h2 => hC.block b h2 (fun h => by have := h.2; omega)))).2.2⟩ ⟨hws⟩ (by omega))
        clear hws hL4
        go_wp2_with fail
        refine q16.out.mono ?_
        rintro e w9 ⟨r, rfl, hR⟩
        cases hR with
        | no i hi h =>
          rw [(HI.out.may i _ hi).2 (HL.out.2 i hi)] at h
          exact absurd h (by decide)
        | yes w' hall hA hC =>
          have HG9 := Aside0.mk (HG.out.store hA hC)
          clear hall hA hC HG q16
          go_wp2
          go_loopw [153] (fun y wr2 => ∃ k : Nat, k ≤ 4 ∧ y = .int .i64 (k : Int) ∧ Aside0 (GAt lo up (cx + 4) (cutD d hl 4) (flM (cutD d hl 4) m 4) P B cap mb T tv tl (.slice Ah hl.length ch) hl w wr2)) (fun y _ => 4 - (intOf y).toNat)
          case atStart => exact ⟨0, by decide, rfl, HG9⟩
          case round =>
            clear HG9
            obtain ⟨k, hk, rfl, HG⟩ := hrel
            by_cases hk4 : k < 4
            · have yk3 : decide ((k : Int) < 4) = true := decide_eq_true (by omega)
              have hcd : cutD d hl 4 k = sd hl k := by unfold cutD; rw [if_pos hk4]
              have q18 := Lib.hid (read_at (Aside0.mk HG.out.h.s) k hk4)
              rw [hcd] at q18
              have hkl : k < hl.length := by rw [HL.out.1]; exact hk4
              obtain ⟨gh, cc, eh, sh⟩ := HG.out.heldAt hkl
              injection eh with e1 e2 e3
              subst e1 e3
              obtain ⟨At, ct, hvt⟩ := Kd.R_slice (HG.out.h.row k hk4)
              have ht := (HG.out.h.cell hk4).1
              rw [hvt] at ht
              have hve := Lib.hid hvt
              clear hvt hcd e2
              obtain ⟨sk, hsk⟩ : ∃ s, sd hl k = s := ⟨_, rfl⟩
              rw [hsk] at q18 sh
              replace hsk := Lib.hid hsk
              go_wp2_with fail
              refine q18.out.mono ?_
              rintro e w10 ⟨rfl, rfl⟩
              clear q18
              go_wp2
              go_loopw [177] (fun y wr2 => ∃ n : Nat, n ≤ (tl k).length ∧ y = .int .i64 (n : Int) ∧ Aside0 (GAt lo up (cx + 4) (cutD d hl 4) (flM (cutD d hl 4) m 4) P B cap mb T tv tl (.slice (some ⟨gh, 0, none⟩) hl.length ch) hl w wr2)) (fun y _ => (tl k).length - (intOf y).toNat)
              case atStart => exact ⟨0, Nat.zero_le _, rfl, HG⟩
              case round =>
                clear HG ht sh
                obtain ⟨n, hn, rfl, HG⟩ := hrel
                have hlen := Lib.hid (show (tl k).length ≤ 61 from by have := HI.out.len k hk4; omega)
                by_cases hnl : n < (tl k).length
                · have yk4 : decide ((n : Int) < ((tl k).length : Int)) = true := decide_eq_true (by omega)
                  have hn61 : n < 61 := by have := hlen.out; omega
                  obtain ⟨gk, ck, hvk, s1⟩ := HG.out.h.toldAt hk4 hnl
                  rw [hve.out] at hvk
                  injection hvk with e1 e2 e3
                  subst e1 e3
                  clear e2
                  obtain ⟨g', c', eh, sh⟩ := HG.out.heldAt hkl
                  injection eh with e1 e2 e3
                  injection e1 with e1
                  injection e1 with e1
                  subst e1 e3
                  clear e2
                  rw [hsk.out] at sh
                  have hxm := sd_mem hnl
                  have hxs := HI.out.size k _ hk4 hxm
                  have hfl : flM (cutD d hl 4) m 4 k = onlyS sk := by rw [flM_at hk4, ← hsk.out]; unfold cutD; rw [if_pos hk4]
                  generalize sd (tl k) n = x at *
                  by_cases hx : x = sk
                  · subst hx
                    have q19 := may_quiet (Aside0.mk HG.out.h.s) k hk4 x (by rw [hxs]; decide) true (by rw [hfl]; exact updB_at)
                    clear hfl hxs hxm
                    go_wp2_with fail
                    go_quiet (first | (with_reducible exact q19 _))
                    go_wp2
                    go_roundw
                    case rel => exact ⟨n + 1, by omega, rfl, ⟨HG.out.below (pw_below_drewN (Below.refl _ _) _)⟩⟩
                    case measure => (simp [intOf]; omega)
                  · have q19 := may_quiet (Aside0.mk HG.out.h.s) k hk4 x (by rw [hxs]; decide) false (by rw [hfl]; exact updB_ne hx)
                    have hbn := bytes_ne hx
                    clear hfl hxs hxm
                    go_wp2_with fail
                    go_quiet (first | (with_reducible exact q19 _))
                    go_wp2
                    go_roundw
                    case rel => exact ⟨n + 1, by omega, rfl, ⟨HG.out.below (pw_below_drewN (Below.refl _ _) _)⟩⟩
                    case measure => (simp [intOf]; omega)
                · obtain rfl : n = (tl k).length := by omega
                  have yk4 : decide (((tl k).length : Int) < ((tl k).length : Int)) = false := decide_eq_false (by omega)
                  go_wp2
                  go_roundw
                  case rel => exact ⟨k + 1, by omega, rfl, HG⟩
                  case measure => (simp [intOf]; omega)
            · obtain rfl : k = 4 := by omega
              have yk3 : decide (((4 : Nat) : Int) < 4) = false := rfl
              have hbel := Lib.hid HG.out.h.bel
              clear HG
              go_wp2
              go_ret
              exact ⟨rfl, hbel.out⟩
end Go.Proofs.Ytmpfadiehakcgaa.PQ
