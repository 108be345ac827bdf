/- SpanOrder walked. -/
import Derived.Test.YtaandjafmmpbkaaAct
import Derived.Outline
import Derived.OwnWalk
namespace Go.Proofs.Ytaandjafmmpbkaa.PQ
open Go.RowKit Go.Proofs.YtaandjafmmpbkaaW.PrintWords Go.Proofs.YtaandjafmmpbkaaW.PrintLast Go.Proofs.YtaandjafmmpbkaaW.PrintMore
set_option linter.unusedVariables false
set_option linter.unusedSimpArgs false
/-- Where the first k spans end. -/
def lastK (l : List S27) : Nat → Int
  | 0 => -1
  | k + 1 => (rd_T27 l k).f1
/-- All numbers of a set are below 60. -/
def Lo60 (l : List S27) : Prop := ∀ n, inB l n = true → n < 60
theorem Lo60.add {l l' : List S27} {a b : Int} (h : Lo60 l) (hp : AddP l l' a b) (hb : b < 60) : Lo60 l' := fun n hn => by
  rcases (hp n).1 hn with q | q
  · exact h n q
  · omega
theorem Lo60.rem {l l' : List S27} {a b : Int} (h : Lo60 l) (hp : RemP l l' a b) : Lo60 l' := fun n hn => h n ((hp n).1 hn).1
theorem Lo60.f1 {l : List S27} (h : Lo60 l) (hs : Sp (-1) l) (k : Nat) (hk : k < l.length) : (rd_T27 l k).f1 ≤ 60 := by
  have h1 := hs.each k hk
  have := h ((rd_T27 l k).f1 - 1) ((in_iff _ _).2 ⟨k, hk, by omega, by omega⟩)
  omega
theorem lastK_lt {l : List S27} (hs : Sp (-1) l) (k : Nat) (hk : k < l.length) : lastK l k < (rd_T27 l k).f0 := by
  rcases k with _ | k
  · exact (hs.each 0 hk).1
  · exact hs.mono k (k + 1) (by omega) hk
theorem not_in_lo {l : List S27} (hs : Sp (-1) l) (k : Nat) (hk : k < l.length) : inB l ((rd_T27 l k).f0 - 1) = false := by
  rw [← Bool.not_eq_true, in_iff]
  rintro ⟨j, hj, h0, h1⟩
  rcases Nat.lt_trichotomy j k with c | c | c
  · have := hs.mono j k c hk; omega
  · subst c; omega
  · have := hs.mono k j c hj; have := hs.each k hk; omega
theorem not_in_hi {l : List S27} (hs : Sp (-1) l) (k : Nat) (hk : k < l.length) : inB l (rd_T27 l k).f1 = false := by
  rw [← Bool.not_eq_true, in_iff]
  rintro ⟨j, hj, h0, h1⟩
  rcases Nat.lt_trichotomy j k with c | c | c
  · have := hs.mono j k c hk; have := hs.each k hk; omega
  · subst c; omega
  · have := hs.mono k j c hj; omega
theorem in_mid (l : List S27) (k : Nat) (hk : k < l.length) (n : Int) (h0 : (rd_T27 l k).f0 ≤ n) (h1 : n < (rd_T27 l k).f1) : inB l n = true := (in_iff _ _).2 ⟨k, hk, h0, h1⟩
theorem last_all {l : List S27} (hs : Sp (-1) l) (n : Int) (h : inB l n = true) : n < lastK l l.length := by
  obtain ⟨j, hj, h0, h1⟩ := (in_iff _ _).1 h
  obtain ⟨m, hm⟩ : ∃ m, l.length = m + 1 := ⟨l.length - 1, by omega⟩
  rw [hm]
  show n < (rd_T27 l m).f1
  have := hs.monoT j m (by omega) (by omega)
  omega
theorem next_end {l : List S27} (hs : Sp (-1) l) {x : Int} (h : NextP l (lastK l l.length + 1) x) : x = -1 := by
  rcases h with ⟨h, _⟩ | ⟨h0, h1, _⟩
  · exact h
  · have := last_all hs x h1; omega
set_option maxHeartbeats 4000000 in
set_option maxRecDepth 100000 in
theorem order_core (A0 : Option Addr) (c0 : Nat) (zs : List S29) (w : World) (hr : Aside0 (Kd.C k29 w A0 zs.length zs)) :
    Calls Try.prog 3 #[.slice A0 zs.length c0] w fun e w' => e = .returned (.bool true) ∧ Below w.heap.size w w' := by
  have hW := Lib.hid (works_calls w)
  go_enter Try.func3, Try.ntmps3
  go_wp2_with fail
  refine hW.out.mono ?_
  rintro e w1 ⟨rfl, hb⟩
  have HB1 := Aside0.mk hb
  have hN := Lib.hid (new_core w1)
  clear hb hW
  go_wp2_with fail
  refine hN.out.mono ?_
  rintro e w2 ⟨rfl, ⟨hs, hb⟩⟩
  have hL := LawAt.new hs hb
  have L2 := Aside0.mk (show LawAt [] w1.heap.size w w2 from ⟨hL.set, hL.sp, HB1.out.trans (hL.bel.mono HB1.out.size), HB1.out.size⟩)
  clear hL hs hb hN
  generalize w1.heap.size = P at *
  clear HB1
  go_wp2
  go_loopw [4] (fun y wr => ∃ (k : Nat) (L : List S27), k ≤ zs.length ∧ k ≤ 100 ∧ y = .int .i64 k ∧ Aside0 (LawAt L P w wr) ∧ Aside0 (Lo60 L)) (fun y _ => zs.length - (intOf y).toNat)
  case atStart => exact ⟨0, [], Nat.zero_le _, by omega, rfl, L2, ⟨fun n hn => absurd hn (in_nil n)⟩⟩
  case round =>
    clear L2
    obtain ⟨k, L, hk, hk1, rfl, HL, HS⟩ := hrel
    by_cases hc : k < zs.length ∧ k < 100
    · obtain ⟨c1, c2⟩ := hc
      have yk : decide ((k : Int) < (zs.length : Int)) = true := decide_eq_true (by omega)
      have y2 : decide ((k : Int) < 100) = true := decide_eq_true (by omega)
      have i0 : decide ((0 : Int) ≤ (k : Int)) = true := decide_eq_true (by omega)
      obtain ⟨ad, e1, d0, d1, d2, d3⟩ := at_T29 (Kd.C_below hr.out HL.out.bel) (k : Int) (by omega) (by omega)
      cases e1
      rw [Int.toNat_natCast] at d0 d1 d2 d3
      generalize (rd_T29 zs (k : Int)).f0 = m0 at *
      generalize (rd_T29 zs (k : Int)).f1 = m1 at *
      generalize (rd_T29 zs (k : Int)).f2.f0 = x0 at *
      generalize (rd_T29 zs (k : Int)).f2.f1 = x1 at *
      have hO := Lib.hid (of_calls x0 x1 wr)
      by_cases hm : m0 = 0
      · subst hm
        go_wp2_with fail
        refine hO.out.mono ?_
        rintro e w3 ⟨⟨a, b, rfl, ha, hab, hb, hbel⟩⟩
        have L3 := Aside0.mk (HL.out.below hbel)
        have hC := Lib.hid (law_add _ _ a b _ _ L3)
        clear d0 d1 d2 d3 hO hbel
        go_wp2_with fail
        refine hC.out.mono ?_
        rintro e w4 ⟨rfl, ⟨L', hl, hcc, hp⟩⟩
        have L4 := Aside0.mk hl
        have S4 := Aside0.mk (HS.out.add hp hb)
        clear hl hcc hp hC L3 HL HS
        go_wp2
        go_roundw
        case rel => exact ⟨k + 1, L', by omega, by omega, by go_num, L4, S4⟩
        case measure => simp [intOf]; omega
      · have z : (m0 == 0) = false := beq_eq_false_iff_ne.2 hm
        go_wp2_with fail
        refine hO.out.mono ?_
        rintro e w3 ⟨⟨a, b, rfl, ha, hab, hb, hbel⟩⟩
        have L3 := Aside0.mk (HL.out.below hbel)
        have hC := Lib.hid (law_rem _ _ a b _ _ L3)
        clear d0 d1 d2 d3 hO hbel
        go_wp2_with fail
        refine hC.out.mono ?_
        rintro e w4 ⟨rfl, ⟨L', hl, hcc, hp⟩⟩
        have L4 := Aside0.mk hl
        have S4 := Aside0.mk (HS.out.rem hp)
        clear hl hcc hp hC L3 HL HS
        go_wp2
        go_roundw
        case rel => exact ⟨k + 1, L', by omega, by omega, by go_num, L4, S4⟩
        case measure => simp [intOf]; omega
    · have hex : zs.length ≤ k ∨ (k < zs.length ∧ 100 ≤ k) := by omega
      have hSp := Lib.hid (law_spans _ _ _ _ HL)
      clear hr hc
      rcases hex with hx | ⟨hx, hx2⟩
      · have yk : decide ((k : Int) < (zs.length : Int)) = false := decide_eq_false (by omega)
        go_wp2_with fail
        refine hSp.out.mono ?_
        rintro e w3 ⟨⟨u, rfl, ho, hb⟩⟩
        have L3 := Aside0.mk (HL.out.below hb)
        obtain ⟨A, c, rfl⟩ := Kd.R_slice ho
        have hCr := Aside0.mk (Kd.R_reads' ho).2.2
        clear ho hb hSp HL
        have hl9 := L3.out.sp.short
        go_wp2
        go_loopw [5, 6, 50] (fun a s y wr => ∃ k : Nat, k ≤ L.length ∧ y = .int .i64 k ∧ a = .int .i64 (lastK L k) ∧ s = .int .i64 (cntK L k) ∧ Aside0 (Below w3.heap.size w3 wr)) (fun _ _ y _ => L.length - (intOf y).toNat)
        case atStart => exact ⟨0, Nat.zero_le _, rfl, rfl, rfl, ⟨Below.refl _ _⟩⟩
        case round =>
          rename_i wr' _
          obtain ⟨k, hk, rfl, rfl, rfl, HB⟩ := hrel
          have hH := Lib.hid fun (n : Int) (W : World) (hb : Below w3.heap.size w3 W) => law_has L P w W ⟨L3.out.below hb⟩ n
          by_cases hlt : k < L.length
          · have yk : decide ((k : Int) < (L.length : Int)) = true := decide_eq_true (by omega)
            have i0 : decide ((0 : Int) ≤ (k : Int)) = true := decide_eq_true (by omega)
            obtain ⟨ad, e1, c0, c1⟩ := at_T27 (Kd.C_below hCr.out HB.out) (k : Int) (by omega) (by omega)
            cases e1
            rw [Int.toNat_natCast] at c0 c1
            have hK := Lib.hid (show cntK L (k + 1) = cntK L k + ((rd_T27 L k).f1 - (rd_T27 L k).f0) from rfl)
            have hLk := Lib.hid (show lastK L (k + 1) = (rd_T27 L k).f1 from rfl)
            have b1 := cntK_bd L3.out.sp (by omega) k hk
            have b2 := L3.out.sp.each k hlt
            have b3 := lastK_lt L3.out.sp k hlt
            have b4 := HS.out.f1 L3.out.sp k hlt
            have n1 := Lib.hid (not_in_lo L3.out.sp k hlt)
            have n2 := Lib.hid (not_in_hi L3.out.sp k hlt)
            have n3 := Lib.hid (in_mid L k hlt)
            generalize (rd_T27 L k).f0 = x0 at *
            generalize (rd_T27 L k).f1 = x1 at *
            generalize cntK L k = s at *
            generalize lastK L k = a at *
            have z1 : decide (x0 ≤ a) = false := decide_eq_false (by omega)
            have z2 : decide (x1 ≤ x0) = false := decide_eq_false (by omega)
            have z3 : decide (60 < x1) = false := decide_eq_false (by omega)
            have hB0 := Aside0.mk (HB.out.alloc HB.out.size (.cells #[.int .i64 x0, .int .i64 x1] 27))
            have HX0 := Aside0.mk (heap_alloc_new wr (.cells #[.int .i64 x0, .int .i64 x1] 27))
            go_wp2_with fail
            generalize wr.alloc (.cells #[.int .i64 x0, .int .i64 x1] 27) = W at *
            generalize wr.heap.size = X at *
            have hC := hH.out (x0 - 1) W hB0.out
            rw [n1.out] at hC
            refine hC.mono ?_
            rintro e w4 ⟨rfl, hb⟩
            have HB4 := Aside0.mk (hB0.out.trans (hb.mono hB0.out.size))
            have HX4 := Aside0.mk (blk_below HX0.out hb)
            clear hb hC hB0 HX0 c0 c1
            have d0 := (blk_cell HX4.out 0).trans (rfl : _ = some (Value.int .i64 x0))
            have d1 := (blk_cell HX4.out 1).trans (rfl : _ = some (Value.int .i64 x1))
            go_wp2_with fail
            have hC := hH.out x1 w4 HB4.out
            rw [n2.out] at hC
            refine hC.mono ?_
            rintro e w5 ⟨rfl, hb⟩
            have HB5 := Aside0.mk (HB4.out.trans (hb.mono HB4.out.size))
            have HX5 := Aside0.mk (blk_below HX4.out hb)
            clear hb hC d0 d1 HB4 HX4
            have d0 := (blk_cell HX5.out 0).trans (rfl : _ = some (Value.int .i64 x0))
            have d1 := (blk_cell HX5.out 1).trans (rfl : _ = some (Value.int .i64 x1))
            go_wp2
            clear d0 d1
            go_loopw [9] (fun y wq => ∃ q : Int, x0 ≤ q ∧ q ≤ x1 ∧ y = .int .i64 q ∧ Aside0 (wq.heap[X]? = some (.cells #[.int .i64 x0, .int .i64 x1] 27 (0, 0))) ∧ Aside0 (Below w3.heap.size w3 wq)) (fun y _ => (x1 - intOf y).toNat)
            case atStart => exact ⟨x0, Int.le_refl _, by omega, rfl, HX5, HB5⟩
            case round =>
              clear HX5 HB5
              obtain ⟨q, hq0, hq1, rfl, HXq, HBq⟩ := hrel
              have d0 := (blk_cell HXq.out 0).trans (rfl : _ = some (Value.int .i64 x0))
              have d1 := (blk_cell HXq.out 1).trans (rfl : _ = some (Value.int .i64 x1))
              by_cases hq : q < x1
              · have zq : decide (q < x1) = true := decide_eq_true hq
                go_wp2_with fail
                have hC := hH.out q _ HBq.out
                rw [n3.out q hq0 hq] at hC
                refine hC.mono ?_
                rintro e w6 ⟨rfl, hb⟩
                have HB6 := Aside0.mk (HBq.out.trans (hb.mono HBq.out.size))
                have HX6 := Aside0.mk (blk_below HXq.out hb)
                clear hb hC d0 d1 HBq HXq
                go_wp2
                go_roundw
                case rel => exact ⟨q + 1, by omega, by omega, by go_num, HX6, HB6⟩
                case measure => simp [intOf]; omega
              · have zq : decide (q < x1) = false := decide_eq_false hq
                obtain rfl : q = x1 := by omega
                go_wp2
                go_roundw
                case rel => exact ⟨k + 1, by omega, by go_num, by rw [hLk.out], by rw [hK.out], HBq⟩
                case measure => simp [intOf]; omega
          · obtain rfl : k = L.length := by omega
            have b5 : -1 ≤ lastK L L.length ∧ lastK L L.length ≤ 4096 := by
              rcases hLl : L.length with _ | m
              · exact ⟨by simp [lastK], by simp [lastK]⟩
              · have := L3.out.sp.each m (by omega)
                exact ⟨by show -1 ≤ (rd_T27 L m).f1; omega, by show (rd_T27 L m).f1 ≤ 4096; omega⟩
            have L4 := Aside0.mk (L3.out.below HB.out)
            have hC := Lib.hid (law_count _ _ _ _ L4)
            have hNx := Lib.hid fun (x : Int) (h : NextP L (lastK L L.length + 1) x) => next_end L3.out.sp h
            have hNc := Lib.hid fun (W : World) (hb : Below w3.heap.size w3 W) => law_next L P w W ⟨L3.out.below hb⟩ (lastK L L.length + 1)
            generalize cntK L L.length = s at *
            generalize lastK L L.length = a at *
            go_wp2_with fail
            refine hC.out.mono ?_
            rintro e w7 ⟨rfl, hb⟩
            have HB7 := Aside0.mk (HB.out.trans (hb.mono HB.out.size))
            clear hb hC HB L4
            go_wp2_with fail
            refine (hNc.out _ HB7.out).mono ?_
            rintro e w8 ⟨⟨x, rfl, hx9, hb⟩⟩
            obtain rfl := hNx.out x hx9
            have hfin := Aside0.mk (L3.out.bel.trans ((HB7.out.trans (hb.mono HB7.out.size)).mono L3.out.bel.size))
            clear hb hx9 hNx hNc
            go_wp2
            go_ret
            exact ⟨rfl, hfin.out⟩
      · have yk : decide ((k : Int) < (zs.length : Int)) = true := decide_eq_true (by omega)
        have y2 : decide ((k : Int) < 100) = false := decide_eq_false (by omega)
        go_wp2_with fail
        refine hSp.out.mono ?_
        rintro e w3 ⟨⟨u, rfl, ho, hb⟩⟩
        have L3 := Aside0.mk (HL.out.below hb)
        obtain ⟨A, c, rfl⟩ := Kd.R_slice ho
        have hCr := Aside0.mk (Kd.R_reads' ho).2.2
        clear ho hb hSp HL
        have hl9 := L3.out.sp.short
        go_wp2
        go_loopw [5, 6, 50] (fun a s y wr => ∃ k : Nat, k ≤ L.length ∧ y = .int .i64 k ∧ a = .int .i64 (lastK L k) ∧ s = .int .i64 (cntK L k) ∧ Aside0 (Below w3.heap.size w3 wr)) (fun _ _ y _ => L.length - (intOf y).toNat)
        case atStart => exact ⟨0, Nat.zero_le _, rfl, rfl, rfl, ⟨Below.refl _ _⟩⟩
        case round =>
          rename_i wr' _
          obtain ⟨k, hk, rfl, rfl, rfl, HB⟩ := hrel
          have hH := Lib.hid fun (n : Int) (W : World) (hb : Below w3.heap.size w3 W) => law_has L P w W ⟨L3.out.below hb⟩ n
          by_cases hlt : k < L.length
          · have yk : decide ((k : Int) < (L.length : Int)) = true := decide_eq_true (by omega)
            have i0 : decide ((0 : Int) ≤ (k : Int)) = true := decide_eq_true (by omega)
            obtain ⟨ad, e1, c0, c1⟩ := at_T27 (Kd.C_below hCr.out HB.out) (k : Int) (by omega) (by omega)
            cases e1
            rw [Int.toNat_natCast] at c0 c1
            have hK := Lib.hid (show cntK L (k + 1) = cntK L k + ((rd_T27 L k).f1 - (rd_T27 L k).f0) from rfl)
            have hLk := Lib.hid (show lastK L (k + 1) = (rd_T27 L k).f1 from rfl)
            have b1 := cntK_bd L3.out.sp (by omega) k hk
            have b2 := L3.out.sp.each k hlt
            have b3 := lastK_lt L3.out.sp k hlt
            have b4 := HS.out.f1 L3.out.sp k hlt
            have n1 := Lib.hid (not_in_lo L3.out.sp k hlt)
            have n2 := Lib.hid (not_in_hi L3.out.sp k hlt)
            have n3 := Lib.hid (in_mid L k hlt)
            generalize (rd_T27 L k).f0 = x0 at *
            generalize (rd_T27 L k).f1 = x1 at *
            generalize cntK L k = s at *
            generalize lastK L k = a at *
            have z1 : decide (x0 ≤ a) = false := decide_eq_false (by omega)
            have z2 : decide (x1 ≤ x0) = false := decide_eq_false (by omega)
            have z3 : decide (60 < x1) = false := decide_eq_false (by omega)
            have hB0 := Aside0.mk (HB.out.alloc HB.out.size (.cells #[.int .i64 x0, .int .i64 x1] 27))
            have HX0 := Aside0.mk (heap_alloc_new wr (.cells #[.int .i64 x0, .int .i64 x1] 27))
            go_wp2_with fail
            generalize wr.alloc (.cells #[.int .i64 x0, .int .i64 x1] 27) = W at *
            generalize wr.heap.size = X at *
            have hC := hH.out (x0 - 1) W hB0.out
            rw [n1.out] at hC
            refine hC.mono ?_
            rintro e w4 ⟨rfl, hb⟩
            have HB4 := Aside0.mk (hB0.out.trans (hb.mono hB0.out.size))
            have HX4 := Aside0.mk (blk_below HX0.out hb)
            clear hb hC hB0 HX0 c0 c1
            have d0 := (blk_cell HX4.out 0).trans (rfl : _ = some (Value.int .i64 x0))
            have d1 := (blk_cell HX4.out 1).trans (rfl : _ = some (Value.int .i64 x1))
            go_wp2_with fail
            have hC := hH.out x1 w4 HB4.out
            rw [n2.out] at hC
            refine hC.mono ?_
            rintro e w5 ⟨rfl, hb⟩
            have HB5 := Aside0.mk (HB4.out.trans (hb.mono HB4.out.size))
            have HX5 := Aside0.mk (blk_below HX4.out hb)
            clear hb hC d0 d1 HB4 HX4
            have d0 := (blk_cell HX5.out 0).trans (rfl : _ = some (Value.int .i64 x0))
            have d1 := (blk_cell HX5.out 1).trans (rfl : _ = some (Value.int .i64 x1))
            go_wp2
            clear d0 d1
            go_loopw [9] (fun y wq => ∃ q : Int, x0 ≤ q ∧ q ≤ x1 ∧ y = .int .i64 q ∧ Aside0 (wq.heap[X]? = some (.cells #[.int .i64 x0, .int .i64 x1] 27 (0, 0))) ∧ Aside0 (Below w3.heap.size w3 wq)) (fun y _ => (x1 - intOf y).toNat)
            case atStart => exact ⟨x0, Int.le_refl _, by omega, rfl, HX5, HB5⟩
            case round =>
              clear HX5 HB5
              obtain ⟨q, hq0, hq1, rfl, HXq, HBq⟩ := hrel
              have d0 := (blk_cell HXq.out 0).trans (rfl : _ = some (Value.int .i64 x0))
              have d1 := (blk_cell HXq.out 1).trans (rfl : _ = some (Value.int .i64 x1))
              by_cases hq : q < x1
              · have zq : decide (q < x1) = true := decide_eq_true hq
                go_wp2_with fail
                have hC := hH.out q _ HBq.out
                rw [n3.out q hq0 hq] at hC
                refine hC.mono ?_
                rintro e w6 ⟨rfl, hb⟩
                have HB6 := Aside0.mk (HBq.out.trans (hb.mono HBq.out.size))
                have HX6 := Aside0.mk (blk_below HXq.out hb)
                clear hb hC d0 d1 HBq HXq
                go_wp2
                go_roundw
                case rel => exact ⟨q + 1, by omega, by omega, by go_num, HX6, HB6⟩
                case measure => simp [intOf]; omega
              · have zq : decide (q < x1) = false := decide_eq_false hq
                obtain rfl : q = x1 := by omega
                go_wp2
                go_roundw
                case rel => exact ⟨k + 1, by omega, by go_num, by rw [hLk.out], by rw [hK.out], HBq⟩
                case measure => simp [intOf]; omega
          · obtain rfl : k = L.length := by omega
            have b5 : -1 ≤ lastK L L.length ∧ lastK L L.length ≤ 4096 := by
              rcases hLl : L.length with _ | m
              · exact ⟨by simp [lastK], by simp [lastK]⟩
              · have := L3.out.sp.each m (by omega)
                exact ⟨by show -1 ≤ (rd_T27 L m).f1; omega, by show (rd_T27 L m).f1 ≤ 4096; omega⟩
            have L4 := Aside0.mk (L3.out.below HB.out)
            have hC := Lib.hid (law_count _ _ _ _ L4)
            have hNx := Lib.hid fun (x : Int) (h : NextP L (lastK L L.length + 1) x) => next_end L3.out.sp h
            have hNc := Lib.hid fun (W : World) (hb : Below w3.heap.size w3 W) => law_next L P w W ⟨L3.out.below hb⟩ (lastK L L.length + 1)
            generalize cntK L L.length = s at *
            generalize lastK L L.length = a at *
            go_wp2_with fail
            refine hC.out.mono ?_
            rintro e w7 ⟨rfl, hb⟩
            have HB7 := Aside0.mk (HB.out.trans (hb.mono HB.out.size))
            clear hb hC HB L4
            go_wp2_with fail
            refine (hNc.out _ HB7.out).mono ?_
            rintro e w8 ⟨⟨x, rfl, hx9, hb⟩⟩
            obtain rfl := hNx.out x hx9
            have hfin := Aside0.mk (L3.out.bel.trans ((HB7.out.trans (hb.mono HB7.out.size)).mono L3.out.bel.size))
            clear hb hx9 hNx hNc
            go_wp2
            go_ret
            exact ⟨rfl, hfin.out⟩
end Go.Proofs.Ytaandjafmmpbkaa.PQ
