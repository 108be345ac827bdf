/- The law HeatCounts: its function answers true. -/
import Derived.Test.YtihggmhmfocnpaaDuo
import Derived.Deep.RegionHeld3
import Derived.Deep.DeepCutAuto
namespace Go.Proofs.Ytihggmhmfocnpaa.PQ
open Go.RowKit Go.Proofs.YtihggmhmfocnpaaW.PrintWords Go.Proofs.YtihggmhmfocnpaaW.PrintLast Go.Proofs.YtihggmhmfocnpaaW.PrintMore
set_option linter.unusedVariables false
set_option linter.unusedSimpArgs false
set_option maxHeartbeats 16000000 in
set_option maxRecDepth 100000 in
theorem count_core (a0 : Int) (A0 : Option Addr) (c0 : Nat) (l : List Int) (a2 : Int) (w : World) (hr : Aside0 (Kd.C (Kd.int .i64) w A0 l.length l)) : Calls Try.prog 3 #[.int .i64 a0, .slice A0 l.length c0, .int .i64 a2] w fun e w' => e = .returned (.bool true) ∧ Below w.heap.size w w' := by
  by_cases hin : 1 ≤ a0 ∧ a0 ≤ 4096
  · obtain ⟨n, rfl⟩ := Int.eq_ofNat_of_zero_le (show 0 ≤ a0 by omega)
    have z1 : decide ((1 : Int) ≤ (n : Int)) = true := decide_eq_true (by omega)
    have z2 : decide ((n : Int) ≤ 4096) = true := decide_eq_true (by omega)
    have hN := Lib.hid (new_calls n w (by omega) (by omega))
    have hW := Lib.hid works_calls
    go_enter Try.func3, Try.ntmps3
    go_wp2_with fail
    refine hN.out.mono ?_
    rintro e w4 ⟨⟨P, B, c, rfl, hO⟩⟩
    have O4 := Aside0.mk hO
    clear hO hN
    by_cases hbig : 100 < (n : Int) ∨ 2000 < (l.length : Int)
    · have z : (if decide (100 < (n : Int)) = true then true else decide (2000 < (l.length : Int))) = true := by simp; omega
      by_cases hb1 : 100 < (n : Int)
      · have z3 : decide (100 < (n : Int)) = true := decide_eq_true hb1
        go_wp2_with fail
        refine (hW.out _).mono ?_
        rintro e w5 ⟨rfl, hb⟩
        have O5 := Aside0.mk (O4.out.below hb)
        go_wp2
        go_ret
        exact ⟨rfl, O5.out.bel⟩
      · have z3 : decide (100 < (n : Int)) = false := decide_eq_false hb1
        have z4 : decide (2000 < (l.length : Int)) = true := decide_eq_true (by omega)
        go_wp2_with fail
        refine (hW.out _).mono ?_
        rintro e w5 ⟨rfl, hb⟩
        have O5 := Aside0.mk (O4.out.below hb)
        go_wp2
        go_ret
        exact ⟨rfl, O5.out.bel⟩
    · have z3 : decide (100 < (n : Int)) = false := decide_eq_false (by omega)
      have z4 : decide (2000 < (l.length : Int)) = false := decide_eq_false (by omega)
      go_wp2_with ((with_reducible refine gate_dst (N := 50) rfl ?_); refine Kd.R_make (Kd.int .i64) w4.heap.size 3 rfl (N := 50) rfl 22 _ _ rfl (n : Int) rfl rfl Try.underlying22 (.int .i64 0) 8 info3h rfl (by decide) (by omega) 0 (ok := fun _ => True) (okp := fun _ => True) rfl (fun _ hk => hk) trivial (by omega) (by omega) (Below.refl _ _) (Nat.le_refl _) ?_; intro v1 w5 ho hb hg hn; clear hg hn; rw [Int.toNat_natCast] at ho; (obtain ⟨A, cap, rfl, HO⟩ := duo_new O4.out ho hb); have HO1 := Aside0.mk HO; clear HO ho hb)
      generalize w5.heap.size = X at *
      generalize w5.alloc (.cells #[.slice (some ⟨A, 0, none⟩) n cap, .int .i64 0] 29) = w6 at *
      go_loopw [11, 12] (fun y d wr => ∃ (k : Nat) (cs : List Int) (t : Int) (A cap : Nat), k ≤ l.length ∧ y = .int .i64 k ∧ cs.length = n ∧ Aside0 (Duo cs t cs t P B c X A cap w wr)) (fun y _ _ => l.length - (intOf y).toNat)
      case atStart => exact ⟨0, List.replicate n 0, 0, A, cap, Nat.zero_le _, rfl, List.length_replicate, HO1⟩
      case round =>
        clear HO1 O4
        obtain ⟨k, cs, t, A, cap, hk, rfl, hcn, HO⟩ := hrel
        replace hcn := Lib.hid hcn
        by_cases hlt : k < l.length
        · have yk : decide ((k : Int) < (l.length : Int)) = true := decide_eq_true (by omega)
          have z0 : decide ((0 : Int) ≤ (k : Int)) = true := decide_eq_true (by omega)
          obtain ⟨ad, e1, d0⟩ := Kd.at_int (Kd.C_below hr.out HO.out.own.bel) (k : Int) (by omega) (by omega)
          cases e1
          have hel := Lib.hid fun (w' : World) (hb : Below w.heap.size w w') => (show w'.cell? (ad.add k) = some (.int .i64 (rd l (k : Int))) from by
            obtain ⟨ad', e1, d0⟩ := Kd.at_int (Kd.C_below hr.out hb) (k : Int) (by omega) (by omega)
            cases e1
            rw [Int.toNat_natCast] at d0
            exact d0)
          rw [Int.toNat_natCast] at d0
          generalize rd l (k : Int) = a at *
          by_cases hia : 0 ≤ a ∧ a < (n : Int)
          · obtain ⟨x, rfl⟩ := Int.eq_ofNat_of_zero_le hia.1
            have za : decide ((0 : Int) ≤ (x : Int)) = true := decide_eq_true hia.1
            have zb : decide ((x : Int) < (n : Int)) = true := decide_eq_true hia.2
            have hxl : x < cs.length := by have := hcn.out; omega
            have hC := Lib.hid (HO.out.own.touch x hxl)
            have hch := Lib.hid fun (w' : World) (h : Own (touchC cs t x).1 (touchC cs t x).2 P B c w w') (hc : Ch (fun k => k = P ∨ k = B) _ w') => HO.out.ch h hc
            have hC9 := Lib.hid (refTouch HO.out.own.ok x hxl)
            have htl := Lib.hid (touch_len cs t x)
            have hok := HO.out.own.ok
            generalize (touchC cs t x).1 = cs2 at *
            generalize (touchC cs t x).2 = t2 at *
            go_wp2_with fail
            refine hC.out.mono ?_
            rintro e w7 ⟨rfl, ⟨hO, hc⟩⟩
            have HO7 := Aside0.mk (hch.out w7 hO hc)
            clear hO hc hC hch d0
            have d0 := hel.out w7 HO7.out.own.bel
            have d1 := HO7.out.cells.1
            have d2 := HO7.out.cells.2
            have hD := Lib.hid (deckleref38_Touch.calls 9000 (some ⟨A, 0, none⟩) cap cs t (x : Int) cs2 t2 w7.drew HO7.out.drew.readC.1 HO7.out.drew.readC.2 hC9.out)
            have hRen := Lib.hid fun (w' : World) (v0 : Value) (hb : Below w7.drew.heap.size w7.drew w') (hR : Kd.R (Kd.int .i64) 3 w' w7.drew.heap.size (fun _ => True) v0 cs2) => (HO7.out.drew.renew hb hR (by have := htl.out; omega) t2)
            have hBel := Lib.hid fun (w' : World) (hb : Below w7.drew.heap.size w7.drew w') => (show (∃ q0, w'.cell? ⟨X, 0, none⟩ = some q0) ∧ (∃ q1, w'.cell? ⟨X, 1, none⟩ = some q1) ∧ w'.frozen? ⟨X, 0, none⟩ = false ∧ w'.frozen? ⟨X, 1, none⟩ = false from ⟨⟨_, (HO7.out.drew.below hb).cells.1⟩, ⟨_, (HO7.out.drew.below hb).cells.2⟩, blk_frozen (HO7.out.drew.below hb).box 0, blk_frozen (HO7.out.drew.below hb).box 1⟩)
            clear hxl hok
            go_wp2_with fail
            go_region_with (go_at_call 9; with_reducible refine hD.out.mono ?_; rintro e w8 ⟨v0, rfl, hR, hb⟩; (obtain ⟨A', cap', rfl, HD⟩ := hRen.out _ _ hb hR); (obtain ⟨⟨q0, g1⟩, ⟨q1, g2⟩, g3, g4⟩ := hBel.out _ hb); have HD8 := Aside0.mk HD; clear HD hR hb)
            all_goals
              generalize ((w8.setCell ⟨X, 0, none⟩ (.slice (some ⟨A', 0, none⟩) cs2.length cap')).setCell ⟨X, 1, none⟩ (.int .i64 t2)) = w9 at *
              clear g1 g2 g3 g4 d0 d1 d2 hBel hRen hD hC9 HO7
              have c10 := Lib.hid fun (w' : World) (h : Duo cs2 t2 cs2 t2 P B c X A' cap' w w') => h.own.count (x : Int)
              have c11 := Lib.hid fun (w' : World) (h : Duo cs2 t2 cs2 t2 P B c X A' cap' w w') => deckleref38_Count.calls (some ⟨A', 0, none⟩) cap' cs2 t2 (x : Int) (cntC cs2 (x : Int)) w' h.readC.1 h.readC.2 (refCount cs2 t2 (x : Int))
              have c12 := Lib.hid fun (w' : World) (h : Duo cs2 t2 cs2 t2 P B c X A' cap' w w') => h.own.hot (x : Int)
              have c13 := Lib.hid fun (w' : World) (h : Duo cs2 t2 cs2 t2 P B c X A' cap' w w') => deckleref38_Hot.calls 5000 (some ⟨A', 0, none⟩) cap' cs2 t2 (x : Int) (hotC cs2 (x : Int)) w' h.readC.1 h.readC.2 (refHot h.own.ok t2 (x : Int))
              have hss := Lib.hid fun (w' : World) (h : Duo cs2 t2 cs2 t2 P B c X A' cap' w w') => (show w'.cell? ⟨X, 0, none⟩ = some (.slice (some ⟨A', 0, none⟩) cs2.length cap') ∧ w'.cell? ⟨X, 1, none⟩ = some (.int .i64 t2) ∧ w'.cell? (ad.add k) = some (.int .i64 (x : Int)) ∧ Aside0 (Duo cs2 t2 cs2 t2 P B c X A' cap' w w') from ⟨h.cells.1, h.cells.2, hel.out w' h.own.bel, ⟨h⟩⟩)
              generalize cntC cs2 (x : Int) = cn at *
              generalize hotC cs2 (x : Int) = ht at *
              go_wp2_with fail
              go_region_held3 (fun w' => w'.cell? ⟨X, 0, none⟩ = some (.slice (some ⟨A', 0, none⟩) cs2.length cap') ∧ w'.cell? ⟨X, 1, none⟩ = some (.int .i64 t2) ∧ w'.cell? (ad.add k) = some (.int .i64 (x : Int)) ∧ Aside0 (Duo cs2 t2 cs2 t2 P B c X A' cap' w w')) ((refine hss.out _ ?_; (with_reducible repeat (first | exact Aside0.out (by assumption) | exact getDuo (by assumption) | refine Duo.drew ?_ | refine Duo.drewN ?_ _ | refine Duo.drawn ?_ (by assumption) | refine Duo.alloc ?_ _))))
                (first | (go_at_call 10; (with_reducible refine (c10.out _ (getDuo (by assumption))).mono ?_); rintro e w' ⟨rfl, rfl⟩) | (go_at_call 11; (with_reducible refine (c11.out _ (getDuo (by assumption))).mono ?_); rintro e w' ⟨rfl, hb⟩; have hk := Aside0.mk (Duo.below (getDuo (by assumption)) hb)) | (go_at_call 12; (with_reducible refine (c12.out _ (getDuo (by assumption))).mono ?_); rintro e w' ⟨rfl, ⟨hO, hb⟩⟩; have hk := Aside0.mk (Duo.below (getDuo (by assumption)) hb)) | (go_at_call 13; (with_reducible refine (c13.out _ (getDuo (by assumption))).mono ?_); rintro e w' ⟨rfl, hb⟩; have hk := Aside0.mk (Duo.below (getDuo (by assumption)) hb)))
              all_goals
                go_wp2
                go_roundw
                case rel => exact ⟨k + 1, cs2, t2, A', cap', by omega, by go_num, (htl.out.trans hcn.out), ⟨getDuo (by assumption)⟩⟩
                case measure => simp [intOf]; omega
          · have hC := Lib.hid (touch_no cs t P B c wr a ⟨HO.out.own.at_⟩ (by have := hcn.out; omega))
            have zz : (decide ((0 : Int) ≤ a) = true ∧ decide (a < (n : Int)) = false) ∨ decide ((0 : Int) ≤ a) = false := by
              by_cases ha : 0 ≤ a
              · exact .inl ⟨decide_eq_true ha, decide_eq_false (by omega)⟩
              · exact .inr (decide_eq_false ha)
            rcases zz with ⟨za, zb⟩ | za
            all_goals
              go_wp2_with fail
              refine hC.out.mono ?_
              rintro e w7 ⟨rfl, rfl⟩
              clear hC
              have c10 := Lib.hid fun (w' : World) (h : Duo cs t cs t P B c X A cap w w') => h.own.count a
              have c11 := Lib.hid fun (w' : World) (h : Duo cs t cs t P B c X A cap w w') => deckleref38_Count.calls (some ⟨A, 0, none⟩) cap cs t a (cntC cs a) w' h.readC.1 h.readC.2 (refCount cs t a)
              have c12 := Lib.hid fun (w' : World) (h : Duo cs t cs t P B c X A cap w w') => h.own.hot a
              have c13 := Lib.hid fun (w' : World) (h : Duo cs t cs t P B c X A cap w w') => deckleref38_Hot.calls 5000 (some ⟨A, 0, none⟩) cap cs t a (hotC cs a) w' h.readC.1 h.readC.2 (refHot h.own.ok t a)
              have hss := Lib.hid fun (w' : World) (h : Duo cs t cs t P B c X A cap w w') => (show w'.cell? ⟨X, 0, none⟩ = some (.slice (some ⟨A, 0, none⟩) cs.length cap) ∧ w'.cell? ⟨X, 1, none⟩ = some (.int .i64 t) ∧ w'.cell? (ad.add k) = some (.int .i64 a) ∧ Aside0 (Duo cs t cs t P B c X A cap w w') from ⟨h.cells.1, h.cells.2, hel.out w' h.own.bel, ⟨h⟩⟩)
              generalize cntC cs a = cn at *
              generalize hotC cs a = ht at *
              go_wp2_with fail
              go_region_held3 (fun w' => w'.cell? ⟨X, 0, none⟩ = some (.slice (some ⟨A, 0, none⟩) cs.length cap) ∧ w'.cell? ⟨X, 1, none⟩ = some (.int .i64 t) ∧ w'.cell? (ad.add k) = some (.int .i64 a) ∧ Aside0 (Duo cs t cs t P B c X A cap w w')) ((refine hss.out _ ?_; (with_reducible repeat (first | exact Aside0.out (by assumption) | exact getDuo (by assumption) | refine Duo.drew ?_ | refine Duo.drewN ?_ _ | refine Duo.drawn ?_ (by assumption) | refine Duo.alloc ?_ _))))
                (first | (go_at_call 10; (with_reducible refine (c10.out _ (getDuo (by assumption))).mono ?_); rintro e w' ⟨rfl, rfl⟩) | (go_at_call 11; (with_reducible refine (c11.out _ (getDuo (by assumption))).mono ?_); rintro e w' ⟨rfl, hb⟩; have hk := Aside0.mk (Duo.below (getDuo (by assumption)) hb)) | (go_at_call 12; (with_reducible refine (c12.out _ (getDuo (by assumption))).mono ?_); rintro e w' ⟨rfl, ⟨hO, hb⟩⟩; have hk := Aside0.mk (Duo.below (getDuo (by assumption)) hb)) | (go_at_call 13; (with_reducible refine (c13.out _ (getDuo (by assumption))).mono ?_); rintro e w' ⟨rfl, hb⟩; have hk := Aside0.mk (Duo.below (getDuo (by assumption)) hb)))
              all_goals
                go_wp2
                go_roundw
                case rel => exact ⟨k + 1, cs, t, A, cap, by omega, by go_num, (hcn.out), ⟨getDuo (by assumption)⟩⟩
                case measure => simp [intOf]; omega
        · obtain rfl : k = l.length := by omega
          clear hr
          go_wp2
          go_loopw [13] (fun y wq => ∃ i : Nat, i ≤ n ∧ y = .int .i64 i ∧ Aside0 (Duo cs t cs t P B c X A cap w wq)) (fun y _ => n - (intOf y).toNat)
          case atStart => exact ⟨0, Nat.zero_le _, rfl, HO⟩
          case round =>
            clear HO
            obtain ⟨i, hi, rfl, HO⟩ := hrel
            by_cases hlt2 : i < n
            · have yi : decide ((i : Int) < (n : Int)) = true := decide_eq_true (by omega)
              have z0 : decide ((0 : Int) ≤ (i : Int)) = true := decide_eq_true (by omega)
              have hil : i < cs.length := by have := hcn.out; omega
              have zl : decide ((i : Int) < (cs.length : Int)) = true := decide_eq_true (by omega)
              have c10 := Lib.hid fun (w' : World) (h : Duo cs t cs t P B c X A cap w w') => h.own.count (i : Int)
              rw [cnt_rd hil] at c10
              have c12 := Lib.hid fun (w' : World) (h : Duo cs t cs t P B c X A cap w w') => h.own.hot (i : Int)
              have c13 := Lib.hid fun (w' : World) (h : Duo cs t cs t P B c X A cap w w') => deckleref38_Hot.calls 5000 (some ⟨A, 0, none⟩) cap cs t (i : Int) (hotC cs (i : Int)) w' h.readC.1 h.readC.2 (refHot h.own.ok t (i : Int))
              have hss := Lib.hid fun (w' : World) (h : Duo cs t cs t P B c X A cap w w') => (show w'.cell? ⟨X, 0, none⟩ = some (.slice (some ⟨A, 0, none⟩) cs.length cap) ∧ w'.cell? ⟨X, 1, none⟩ = some (.int .i64 t) ∧ w'.cell? ⟨A, i, none⟩ = some (.int .i64 (rd cs (i : Int))) ∧ Aside0 (Duo cs t cs t P B c X A cap w w') from ⟨h.cells.1, h.cells.2, h.elem i hil, ⟨h⟩⟩)
              generalize rd cs (i : Int) = cn at *
              generalize hotC cs (i : Int) = ht at *
              go_wp2_with fail
              go_region_held3 (fun w' => w'.cell? ⟨X, 0, none⟩ = some (.slice (some ⟨A, 0, none⟩) cs.length cap) ∧ w'.cell? ⟨X, 1, none⟩ = some (.int .i64 t) ∧ w'.cell? ⟨A, i, none⟩ = some (.int .i64 cn) ∧ Aside0 (Duo cs t cs t P B c X A cap w w')) ((refine hss.out _ ?_; (with_reducible repeat (first | exact Aside0.out (by assumption) | exact getDuo (by assumption) | refine Duo.drew ?_ | refine Duo.drewN ?_ _ | refine Duo.drawn ?_ (by assumption) | refine Duo.alloc ?_ _))))
                (first | (go_at_call 10; (with_reducible refine (c10.out _ (getDuo (by assumption))).mono ?_); rintro e w' ⟨rfl, rfl⟩) | (go_at_call 12; (with_reducible refine (c12.out _ (getDuo (by assumption))).mono ?_); rintro e w' ⟨rfl, ⟨hO, hb⟩⟩; have hk := Aside0.mk (Duo.below (getDuo (by assumption)) hb)) | (go_at_call 13; (with_reducible refine (c13.out _ (getDuo (by assumption))).mono ?_); rintro e w' ⟨rfl, hb⟩; have hk := Aside0.mk (Duo.below (getDuo (by assumption)) hb)))
              all_goals
                go_wp2
                go_roundw
                case rel => exact ⟨i + 1, by omega, by go_num, ⟨getDuo (by assumption)⟩⟩
                case measure => simp [intOf]; omega
            · obtain rfl : i = n := by omega
              have hR := Lib.hid (rank_calls cs t P B c _ a2 ⟨HO.out.own.at_⟩ ⟨HO.out.own.ok⟩)
              have hshort := Lib.hid (rankL_short HO.out.own.ok a2)
              have hRf := Lib.hid (refRank HO.out.own.ok t a2)
              generalize 255 * (cs.length + 2) + 1 = fuel at *
              have c14 := Lib.hid fun (w' : World) (h : Duo cs t cs t P B c X A cap w w') => rank_calls cs t P B c w' a2 ⟨h.own.at_⟩ ⟨h.own.ok⟩
              generalize rankL cs a2 = R at *
              go_wp2_with fail
              refine hR.out.mono ?_
              rintro e w8 ⟨⟨v, rfl, hRk⟩⟩
              have RK := Aside0.mk hRk
              obtain ⟨A1, rfl, hCg, _⟩ := hRk.read
              have D8 : Aside0 (Duo2 cs t P B c X A cap w w8 w8) := ⟨⟨HO.out.below hRk.bel, Below.refl _ _⟩⟩
              have HCg := Aside0.mk hCg
              clear hRk hCg hR
              have hsp := Lib.hid fun (w' : World) (h : Duo2 cs t P B c X A cap w w8 w') => spoil_duo HO.out hshort.out RK.out h.bel
              have c16 := Lib.hid fun (w' : World) (h : Duo2 cs t P B c X A cap w w8 w') => deckleref38_Rank.calls fuel (some ⟨A, 0, none⟩) cap cs t a2 R w' h.duo.readC.1 h.duo.readC.2 hRf.out
              have c15 := Lib.hid fun (w' : World) (h : Duo2 cs t P B c X A cap w w8 w') (A2 : Option Addr) (c2 : Nat) (hC : Kd.C (Kd.int .i64) w' A2 R.length R) (hc2 : R.length ≤ c2) => same_calls R (by have := hshort.out; omega) A1 A2 R.length c2 w' (Kd.C_below HCg.out h.bel) (Nat.le_refl _) hC hc2
              have c17 := Lib.hid fun (w' : World) (h : Duo2 cs t P B c X A cap w w8 w') => h.duo.own.total
              have c18 := Lib.hid fun (w' : World) (h : Duo2 cs t P B c X A cap w w8 w') => deckleref38_Total.calls 5000 (some ⟨A, 0, none⟩) cap cs t (sumC cs) w' h.duo.readC.1 h.duo.readC.2 (refTotal h.duo.own.ok t)
              have hss := Lib.hid fun (w' : World) (h : Duo2 cs t P B c X A cap w w8 w') => (show w'.cell? ⟨X, 0, none⟩ = some (.slice (some ⟨A, 0, none⟩) cs.length cap) ∧ w'.cell? ⟨X, 1, none⟩ = some (.int .i64 t) ∧ Aside0 (Duo2 cs t P B c X A cap w w8 w') from ⟨h.duo.cells.1, h.duo.cells.2, ⟨h⟩⟩)
              have ha16 := Lib.hid fun (w' : World) (h : Duo cs t cs t P B c X A cap w w') => deckleref38_Rank.calls fuel (some ⟨A, 0, none⟩) cap cs t a2 R w' h.readC.1 h.readC.2 hRf.out
              have ha15 := Lib.hid fun (w' : World) (A1 A2 : Option Addr) (c2 : Nat) (hCg : Kd.C (Kd.int .i64) w' A1 R.length R) (hC : Kd.C (Kd.int .i64) w' A2 R.length R) (hc2 : R.length ≤ c2) => same_calls R (by have := hshort.out; omega) A1 A2 R.length c2 w' hCg (Nat.le_refl _) hC hc2
              have hss2 := Lib.hid fun (w' : World) (h : Duo cs t cs t P B c X A cap w w') => (show w'.cell? ⟨X, 0, none⟩ = some (.slice (some ⟨A, 0, none⟩) cs.length cap) ∧ w'.cell? ⟨X, 1, none⟩ = some (.int .i64 t) ∧ True ∧ Aside0 (Duo cs t cs t P B c X A cap w w') from ⟨h.cells.1, h.cells.2, trivial, ⟨h⟩⟩)
              generalize sumC cs = sm at *
              clear HO
              go_wp2_with fail
              go_region_held3 (fun w' => w'.cell? ⟨X, 0, none⟩ = some (.slice (some ⟨A, 0, none⟩) cs.length cap) ∧ w'.cell? ⟨X, 1, none⟩ = some (.int .i64 t) ∧ Aside0 (Duo2 cs t P B c X A cap w w8 w')) ((refine hss.out _ ?_; (with_reducible repeat (first | exact Aside0.out (by assumption) | exact getDuo2 (by assumption) | refine Duo2.drew ?_ | refine Duo2.drewN ?_ _ | refine Duo2.drawn ?_ (by assumption) | refine Duo2.alloc ?_ _))))
                (first | (go_at_call 16; (with_reducible refine (c16.out _ (getDuo2 (by assumption))).mono ?_); rintro e w' ⟨v0, rfl, hR, hb⟩; (obtain ⟨A2, c2, rfl, hc2, hC2⟩ := Kd.R_reads hR); have HC2 := Aside0.mk hC2; have HCC2 := Aside0.mk hc2; have hk := Aside0.mk (Duo2.below (getDuo2 (by assumption)) hb); clear hR hC2 hc2) | (go_at_call 15; (with_reducible refine (c15.out _ (getDuo2 (by assumption)) _ _ HC2.out HCC2.out).mono ?_); rintro e w' ⟨rfl, hb⟩; have hk := Aside0.mk (Duo2.below (getDuo2 (by assumption)) hb)) | (go_at_call 17; (with_reducible refine (c17.out _ (getDuo2 (by assumption))).mono ?_); rintro e w' ⟨rfl, rfl⟩) | (go_at_call 18; (with_reducible refine (c18.out _ (getDuo2 (by assumption))).mono ?_); rintro e w' ⟨rfl, hb⟩; have hk := Aside0.mk (Duo2.below (getDuo2 (by assumption)) hb)))
              all_goals
                go_wp2_with fail
                refine (hsp.out _ (getDuo2 (by assumption))).mono ?_
                rintro e w20 ⟨rfl, ⟨hD⟩⟩
                have D20 := Aside0.mk hD
                clear hD hsp hss c15 c16 c17 c18 RK HCg D8
                go_wp2_with fail
                go_region_held3 (fun w' => w'.cell? ⟨X, 0, none⟩ = some (.slice (some ⟨A, 0, none⟩) cs.length cap) ∧ w'.cell? ⟨X, 1, none⟩ = some (.int .i64 t) ∧ True ∧ Aside0 (Duo cs t cs t P B c X A cap w w')) ((refine hss2.out _ ?_; (with_reducible repeat (first | exact Aside0.out (by assumption) | exact getDuo (by assumption) | refine Duo.drew ?_ | refine Duo.drewN ?_ _ | refine Duo.drawn ?_ (by assumption) | refine Duo.alloc ?_ _))))
                  (first | (go_at_call 14; (with_reducible refine (c14.out _ (getDuo (by assumption))).mono ?_); rintro e w' ⟨⟨v, rfl, hRk⟩⟩; (obtain ⟨A3, rfl, hCg, _⟩ := hRk.read); have HC3 := Aside0.mk hCg; have hk := Aside0.mk (Duo.below (getDuo (by assumption)) hRk.bel); clear hCg hRk) | (go_at_call 16; (with_reducible refine (ha16.out _ (getDuo (by assumption))).mono ?_); rintro e w' ⟨v0, rfl, hR, hb⟩; (obtain ⟨A2, c2, rfl, hc2, hC2⟩ := Kd.R_reads hR); have HC2 := Aside0.mk hC2; have HCC2 := Aside0.mk hc2; have HC4 := Aside0.mk (Kd.C_below HC3.out hb); have hk := Aside0.mk (Duo.below (getDuo (by assumption)) hb); clear hR hC2 hc2) | (go_at_call 15; (with_reducible refine (ha15.out _ _ _ _ HC4.out HC2.out HCC2.out).mono ?_); rintro e w' ⟨rfl, hb⟩; have hk := Aside0.mk (Duo.below (getDuo (by assumption)) hb)) | (go_at_call 7; (with_reducible refine (hW.out _).mono ?_); rintro e w' ⟨rfl, hb⟩; have hk := Aside0.mk (Duo.below (getDuo (by assumption)) hb)))
                all_goals
                  go_wp2
                  go_ret
                  exact ⟨rfl, (getDuo (by assumption)).own.bel⟩
  · have hN := Lib.hid (new_no a0 w hin)
    have hW := Lib.hid (works_calls w)
    have z : (decide ((1 : Int) ≤ a0) = true ∧ decide (a0 ≤ 4096) = false) ∨ decide ((1 : Int) ≤ a0) = false := by
      by_cases ha : 1 ≤ a0
      · exact .inl ⟨decide_eq_true ha, decide_eq_false (by omega)⟩
      · exact .inr (decide_eq_false ha)
    go_enter Try.func3, Try.ntmps3
    go_wp2_with fail
    refine hN.out.mono ?_
    rintro e w4 ⟨rfl, rfl⟩
    clear hN
    rcases z with ⟨za, zb⟩ | za
    all_goals
      go_wp2_with fail
      refine hW.out.mono ?_
      rintro e w5 ⟨rfl, hb⟩
      have B5 := Aside0.mk hb
      clear hb
      go_wp2
      go_ret
      exact ⟨rfl, B5.out⟩
theorem heatCounts_walk (a0 : Int) (a1 : Option Addr) (len1 cap1 : Nat) (zs1 : List Int) (a2 : Int) (W : World) (hn : (Lit.int .i64 a0).wf = true)
    (h : (a1 = none ∧ len1 = 0 ∧ cap1 = 0 ∧ zs1 = []) ∨ ∃ x, a1 = some x ∧ len1 ≤ cap1 ∧ cap1 ≤ maxLen ∧ zs1.length = cap1 ∧ (∀ i, i < zs1.length → W.cell? (x.add i) = some (.int .i64 (zs1.getD i 0))) ∧ ∀ n ∈ zs1, (Lit.int .i64 n).wf = true)
    (hs : len1 * 8 ≤ 140737488351232) (hn2 : (Lit.int .i64 a2).wf = true) :
    Calls Try.prog 3 #[.int .i64 a0, .slice a1 len1 cap1, .int .i64 a2] W fun e w' => e = .returned (.bool true) ∧ Below W.heap.size W w' := by
  obtain ⟨l, rfl, hr, hm, hw, hcc⟩ := ReadsInt.ofRowC h
  exact count_core a0 a1 cap1 l a2 W ⟨Kd.C_of_reads (d := (0 : Int)) (h1 := fun _ => rfl) hr⟩
end Go.Proofs.Ytihggmhmfocnpaa.PQ
