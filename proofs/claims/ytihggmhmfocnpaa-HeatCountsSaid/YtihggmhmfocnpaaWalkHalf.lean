/- The law HeatHalf: its function answers true. -/
import Derived.Test.YtihggmhmfocnpaaWorks
namespace Go.Proofs.Ytihggmhmfocnpaa.PQ
open Go.RowKit Go.Proofs.YtihggmhmfocnpaaW.PrintWords Go.Proofs.YtihggmhmfocnpaaW.PrintLast Go.Proofs.YtihggmhmfocnpaaW.PrintMore
set_option linter.unusedVariables false
set_option linter.unusedSimpArgs false
theorem lt_iff (cs : List Int) (x y : Nat) : ltN cs x y = true ↔ rd cs (y : Int) < rd cs (x : Int) ∨ (rd cs (x : Int) = rd cs (y : Int) ∧ x < y) := by
  unfold ltN
  rw [decide_eq_true_eq, cf_lt]
  exact or_congr Iff.rfl (and_congr Iff.rfl (by omega))
theorem le_iff (cs : List Int) (x y : Nat) : (!ltN cs y x) = true ↔ rd cs (y : Int) < rd cs (x : Int) ∨ (rd cs (x : Int) = rd cs (y : Int) ∧ x ≤ y) := by
  rw [Bool.not_eq_true', ← Bool.not_eq_true, lt_iff]
  omega
theorem sortN_sorted (cs : List Int) : (sortN cs).Pairwise fun x y => (!ltN cs y x) = true := by
  unfold sortN
  refine List.pairwise_mergeSort ?_ ?_ _
  · intro a b c h1 h2
    rw [le_iff] at *
    omega
  · intro a b
    rw [Bool.or_eq_true, le_iff, le_iff]
    omega
theorem sortN_mem {cs : List Int} {x : Nat} (h : x ∈ sortN cs) : x < cs.length ∧ 0 < rd cs (x : Int) := by
  have h2 := (sortN_perm cs).mem_iff.1 h
  refine ⟨hotN_lt h2, ?_⟩
  unfold hotN at h2
  simpa using (List.mem_filter.1 h2).2
theorem sortN_le {cs : List Int} {i j : Nat} (hij : i < j) (hj : j < (sortN cs).length) : rd cs (((sortN cs)[j] : Nat) : Int) ≤ rd cs (((sortN cs)[i]'(by omega) : Nat) : Int) := by
  have := (le_iff cs _ _).1 (List.pairwise_iff_getElem.1 (sortN_sorted cs) i j (by omega) hj hij)
  omega
theorem cnt_rd {cs : List Int} {i : Nat} (hi : i < cs.length) : cntC cs (i : Int) = rd cs (i : Int) := if_pos ⟨by omega, by omega⟩
theorem hot_mono {cs : List Int} {i j : Nat} (hi : i < cs.length) (hj : j < cs.length) (h : rd cs (j : Int) ≤ rd cs (i : Int)) (hh : hotC cs (j : Int) = true) : hotC cs (i : Int) = true := by
  unfold hotC at *
  rw [decide_eq_true_eq] at *
  rw [cnt_rd hj] at hh
  rw [cnt_rd hi]
  have : rd cs (j : Int) * (cs.length : Int) ≤ rd cs (i : Int) * (cs.length : Int) := Int.mul_le_mul_of_nonneg_right h (by omega)
  omega
/-- Whether one of the first k by rank is cold. -/
def coldK (cs : List Int) (k : Nat) : Bool := ((sortN cs).take k).any fun i : Nat => !hotC cs (i : Int)
theorem coldK_succ (cs : List Int) (k : Nat) (hk : k < (sortN cs).length) : coldK cs (k + 1) = (coldK cs k || !hotC cs (((sortN cs)[k] : Nat) : Int)) := by
  unfold coldK
  rw [List.take_succ_eq_append_getElem hk, List.any_append]
  simp
theorem coldK_hot (cs : List Int) (k : Nat) (hk : k < (sortN cs).length) (h : hotC cs (((sortN cs)[k] : Nat) : Int) = true) : coldK cs k = false := by
  unfold coldK
  rw [List.any_eq_false]
  intro x hx
  obtain ⟨j, hj, rfl⟩ := List.mem_iff_getElem.1 hx
  rw [List.length_take] at hj
  rw [List.getElem_take]
  have h1 := sortN_mem (List.getElem_mem (show j < (sortN cs).length by omega))
  have h2 := sortN_mem (List.getElem_mem hk)
  rw [hot_mono h1.1 h2.1 (sortN_le (by omega) hk) h]
  simp
/-- How many of the first k sectors are hot. -/
def hcK (cs : List Int) : Nat → Int
  | 0 => 0
  | k + 1 => hcK cs k + if hotC cs (k : Int) = true then 1 else 0
theorem hcK_bd (cs : List Int) : ∀ k : Nat, 0 ≤ hcK cs k ∧ hcK cs k ≤ k
  | 0 => by simp [hcK]
  | k + 1 => by
    have := hcK_bd cs k
    unfold hcK
    split <;> omega
theorem hcK_sum {cs : List Int} {t : Int} (h : OkC cs t) : ∀ k : Nat, k ≤ cs.length → hcK cs k * (2 * sumC cs + 1) ≤ (cs.length : Int) * sumC (cs.take k)
  | 0, _ => by simp [hcK, sumC]
  | k + 1, hk => by
    have ih := hcK_sum h k (by omega)
    have hr := h.rd k (by omega)
    rw [sumC_take (by omega), Int.mul_add (cs.length : Int)]
    unfold hcK
    by_cases hh : hotC cs (k : Int) = true
    · rw [if_pos hh, Int.add_mul, Int.one_mul]
      unfold hotC at hh
      rw [decide_eq_true_eq, cnt_rd (by omega)] at hh
      rw [Int.mul_comm (rd cs (k : Int)) (cs.length : Int)] at hh
      generalize hcK cs k * (2 * sumC cs + 1) = p1 at *
      generalize (cs.length : Int) * rd cs (k : Int) = p2 at *
      generalize (cs.length : Int) * sumC (cs.take k) = p3 at *
      omega
    · rw [if_neg hh, Int.add_zero]
      have hm := Int.mul_nonneg (show 0 ≤ (cs.length : Int) by omega) hr.1
      generalize hcK cs k * (2 * sumC cs + 1) = p1 at *
      generalize (cs.length : Int) * rd cs (k : Int) = p2 at *
      generalize (cs.length : Int) * sumC (cs.take k) = p3 at *
      omega
theorem hc_half {cs : List Int} {t : Int} (h : OkC cs t) : 2 * hcK cs cs.length < (cs.length : Int) ∨ hcK cs cs.length = 0 := by
  have h1 := hcK_sum h cs.length (Nat.le_refl _)
  have h2 := hcK_bd cs cs.length
  have h3 := h.sum
  rw [List.take_length] at h1
  by_cases h0 : hcK cs cs.length = 0
  · exact .inr h0
  · left
    generalize hcK cs cs.length = k at *
    generalize sumC cs = s at *
    generalize (cs.length : Int) = n at *
    rcases Int.lt_or_le (2 * k) n with c | c
    · exact c
    · have h4 : n * s ≤ (2 * k) * s := Int.mul_le_mul_of_nonneg_right c h3.1
      have h5 : k * (2 * s + 1) = (2 * k) * s + k := by rw [Int.mul_add, Int.mul_one, ← Int.mul_assoc, Int.mul_comm k 2]
      omega
theorem rankL_all (cs : List Int) : rankL cs (cs.length : Int) = (sortN cs).map fun k : Nat => (k : Int) := by
  unfold rankL
  rw [List.take_of_length_le]
  rw [sortN_len]
  have := hotN_le cs
  omega
theorem touch_len (cs : List Int) (t : Int) (i : Nat) : (touchC cs t i).1.length = cs.length := by
  unfold touchC
  split
  · rw [half_len, touch1_len]
  · rw [touch1_len]
set_option maxHeartbeats 16000000 in
set_option maxRecDepth 100000 in
theorem half_core (a0 : Int) (A0 : Option Addr) (c0 : Nat) (l : List Int) (w : World) (hr : Aside0 (Kd.C (Kd.int .i64) w A0 l.length l)) : Calls Try.prog 4 #[.int .i64 a0, .slice A0 l.length c0] w fun e w' => e = .returned (.bool true) ∧ Below w.heap.size w w' := by
  have hW := Lib.hid (works_calls w)
  obtain ⟨b0, hb0, q0⟩ := below_calls a0 40 (by decide) (by decide)
  have e3 : wrap64 (1 + (b0 : Int)) = ((1 + b0 : Nat) : Int) := by rw [Go.IntWalk.wrap64_in _ ⟨by omega, by omega⟩]; omega
  replace q0 := Lib.hid q0
  obtain ⟨n, hn⟩ : ∃ n, n = 1 + b0 := ⟨_, rfl⟩
  rw [← hn] at e3
  have hn3 : 1 ≤ n ∧ n ≤ 40 := by omega
  clear hn hb0
  go_enter Try.func4, Try.ntmps4
  go_wp2_with fail
  refine hW.out.mono ?_
  rintro e w1 ⟨rfl, hb⟩
  have B1 := Aside0.mk hb
  clear hb hW
  go_wp2_with fail
  refine (q0.out _).mono ?_
  rintro e w2 ⟨rfl, hb⟩
  have B2 := Aside0.mk (B1.out.trans (hb.mono B1.out.size))
  clear hb q0 B1
  have hN := Lib.hid (new_calls n w2 (by omega) (by omega))
  go_wp2_with fail
  refine hN.out.mono ?_
  rintro e w4 ⟨⟨P, B, c, rfl, hO⟩⟩
  have O4 : Aside0 (Own (List.replicate n 0) 0 P B c w w4) := ⟨⟨hO.at_, hO.ok, B2.out.trans (hO.bel.mono B2.out.size), by have := hO.ge; have := B2.out.size; omega⟩⟩
  clear hO hN B2
  by_cases hbig : 2000 < (l.length : Int)
  · have z : decide (2000 < (l.length : Int)) = true := decide_eq_true hbig
    go_wp2
    go_ret
    exact ⟨rfl, O4.out.bel⟩
  · have z : decide (2000 < (l.length : Int)) = false := decide_eq_false hbig
    go_wp2
    go_loopw [8, 37] (fun a y wr => ∃ (k : Nat) (cs : List Int) (t : Int), k ≤ l.length ∧ y = .int .i64 k ∧ cs.length = n ∧ Aside0 (Own cs t P B c w wr)) (fun _ y _ => l.length - (intOf y).toNat)
    case atStart => exact ⟨0, List.replicate n 0, 0, Nat.zero_le _, rfl, List.length_replicate, O4⟩
    case round =>
      clear O4
      obtain ⟨k, cs, t, hk, rfl, hcn, HO⟩ := hrel
      by_cases hlt : k < l.length
      · have yk : decide ((k : Int) < (l.length : Int)) = true := decide_eq_true (by omega)
        have z0 : decide ((0 : Int) ≤ (k : Int)) = true := decide_eq_true (by omega)
        obtain ⟨ad, e1, d0⟩ := Kd.at_int (Kd.C_below hr.out HO.out.bel) (k : Int) (by omega) (by omega)
        cases e1
        rw [Int.toNat_natCast] at d0
        generalize rd l (k : Int) = a at *
        obtain ⟨x, hx, q1⟩ := below_calls a (n : Int) (by omega) (by omega)
        have hxn : x < cs.length := by omega
        replace q1 := Lib.hid q1
        have htl := Lib.hid (touch_len cs t x)
        go_wp2_with fail
        refine (q1.out _).mono ?_
        rintro e w6 ⟨rfl, hb⟩
        have O6 := Aside0.mk (HO.out.below hb)
        have hC := Lib.hid (O6.out.touch x hxn)
        clear hb q1 HO d0
        go_wp2_with fail
        refine hC.out.mono ?_
        rintro e w7 ⟨rfl, ⟨hO, _⟩⟩
        have O7 := Aside0.mk hO
        clear hO hC O6
        go_wp2
        go_roundw
        case rel => exact ⟨k + 1, _, _, by omega, by go_num, htl.out.trans hcn, O7⟩
        case measure => simp [intOf]; omega
      · obtain rfl : k = l.length := by omega
        clear hr
        have hok := Aside0.mk HO.out.ok
        go_wp2
        go_loopw [9, 10, 11, 12, 49] (fun h s a b y wq => ∃ i : Nat, i ≤ n ∧ y = .int .i64 i ∧ h = .int .i64 (hcK cs i) ∧ s = .int .i64 (sumC (cs.take i)) ∧ Aside0 (Own cs t P B c w wq)) (fun _ _ _ _ y _ => n - (intOf y).toNat)
        case atStart => exact ⟨0, Nat.zero_le _, rfl, rfl, rfl, HO⟩
        case round =>
          clear HO
          obtain ⟨i, hi, rfl, rfl, rfl, HO⟩ := hrel
          by_cases hlt2 : i < n
          · have yi : decide ((i : Int) < (n : Int)) = true := decide_eq_true (by omega)
            have hC := HO.out.count i
            rw [cnt_rd (show i < cs.length by omega)] at hC
            have hrd := hok.out.rd i (by omega)
            have hst := hok.out.sum_take i (by omega)
            have hsn := Lib.hid (sumC_take (show i < cs.length by omega))
            have hhb := hcK_bd cs i
            have hhn := Lib.hid (show hcK cs (i + 1) = hcK cs i + if hotC cs (i : Int) = true then 1 else 0 from rfl)
            generalize rd cs (i : Int) = x at *
            generalize sumC (cs.take i) = s at *
            generalize hcK cs i = h at *
            replace hC := Lib.hid hC
            have z1 : decide (x < 0) = false := decide_eq_false (by omega)
            have z2 : decide (255 < x) = false := decide_eq_false (by omega)
            go_wp2_with fail
            refine hC.out.mono ?_
            rintro e w8 ⟨rfl, rfl⟩
            have hD := Lib.hid (HO.out.hot i)
            clear hC
            go_wp2_with fail
            refine hD.out.mono ?_
            rintro e w9 ⟨rfl, ⟨hO, _⟩⟩
            have O9 := Aside0.mk hO
            clear hO hD HO
            cases hb : hotC cs (i : Int)
            · rw [hb] at hhn
              go_wp2
              go_roundw
              case rel => exact ⟨i + 1, by omega, by go_num, (by rw [hhn.out]; simp; try go_num), (by rw [hsn.out]; try go_num), O9⟩
              case measure => simp [intOf]; omega
            · rw [hb] at hhn
              go_wp2
              go_roundw
              case rel => exact ⟨i + 1, by omega, by go_num, (by rw [hhn.out]; simp; try go_num), (by rw [hsn.out]; try go_num), O9⟩
              case measure => simp [intOf]; omega
          · obtain rfl : i = n := by omega
            subst hcn
            rw [List.take_length]
            have hR := HO.out.rank (cs.length : Int)
            have hhalf := Lib.hid (hc_half hok.out)
            have hhb := hcK_bd cs cs.length
            have hsb := hok.out.sum
            have hRl := Lib.hid (rankL_all cs)
            have hlen2 : (rankL cs (cs.length : Int)).length = (sortN cs).length := by rw [hRl.out, List.length_map]
            have hsl : (sortN cs).length ≤ 40 := by rw [sortN_len]; have := hotN_le cs; omega
            generalize hrr : rankL cs (cs.length : Int) = R at *
            replace hR := Lib.hid hR
            go_wp2_with fail
            refine hR.out.mono ?_
            rintro e w8 ⟨⟨A, rfl, hr, hO, hb⟩⟩
            have O8 := Aside0.mk hO
            have R8 := Aside0.mk hr
            clear hr hO hb hR HO hrr
            have hlen3 := Lib.hid hlen2
            rw [hlen2] at R8
            rw [hlen2]
            clear hlen2
            go_wp2
            go_loopw [13, 15, 74] (fun d a y wq => ∃ i : Nat, i ≤ (sortN cs).length ∧ y = .int .i64 i ∧ d = .bool (coldK cs i) ∧ Aside0 (Below w8.heap.size w8 wq) ∧ Aside0 (Own cs t P B c w wq)) (fun _ _ y _ => (sortN cs).length - (intOf y).toNat)
            case atStart => exact ⟨0, Nat.zero_le _, rfl, rfl, ⟨Below.refl _ _⟩, O8⟩
            case round =>
              rename_i wr' _
              clear O8
              obtain ⟨i, hi, rfl, rfl, HB, HO⟩ := hrel
              by_cases hlt3 : i < (sortN cs).length
              · have yi : decide ((i : Int) < ((sortN cs).length : Int)) = true := decide_eq_true (by omega)
                have z0 : decide ((0 : Int) ≤ (i : Int)) = true := decide_eq_true (by omega)
                obtain ⟨ad, e1, d0⟩ := Kd.at_int (Kd.C_below R8.out HB.out) (i : Int) (by omega) (by omega)
                cases e1
                rw [Int.toNat_natCast] at d0
                have hrd : rd R (i : Int) = (((sortN cs)[i] : Nat) : Int) := by
                  rw [rd_get (by have := hlen3.out; omega)]
                  simp [hRl.out]
                rw [hrd] at d0
                have hmem := sortN_mem (List.getElem_mem hlt3)
                have hcs := Lib.hid (coldK_succ cs i hlt3)
                have hch := Lib.hid (coldK_hot cs i hlt3)
                clear hrd
                generalize (sortN cs)[i] = x at *
                have hD := Lib.hid fun (W : World) (h : Own cs t P B c w W) => h.hot (x : Int)
                have zc : (rd cs (x : Int) == 0) = false := beq_eq_false_iff_ne.2 (by omega)
                cases hb : hotC cs (x : Int)
                · rw [hb] at hcs
                  cases hcc : coldK cs i
                  · rw [hcc] at hcs
                    clear hch hD
                    have hD := Lib.hid (HO.out.hot (x : Int))
                    rw [hb] at hD
                    go_wp2_with fail
                    refine hD.out.mono ?_
                    rintro e w9 ⟨rfl, ⟨hO, hbl⟩⟩
                    have O9 := Aside0.mk hO
                    have HB2 := Aside0.mk (HB.out.trans (hbl.mono HB.out.size))
                    clear hO hbl hD HO HB
                    have hE := O9.out.count (x : Int)
                    rw [cnt_rd hmem.1] at hE
                    replace hE := Lib.hid hE
                    go_wp2_with fail
                    refine hE.out.mono ?_
                    rintro e w10 ⟨rfl, rfl⟩
                    clear hE
                    have hD := Lib.hid (O9.out.hot (x : Int))
                    rw [hb] at hD
                    go_wp2_with fail
                    refine hD.out.mono ?_
                    rintro e w11 ⟨rfl, ⟨hO, hbl⟩⟩
                    have O11 := Aside0.mk hO
                    have HB3 := Aside0.mk (HB2.out.trans (hbl.mono HB2.out.size))
                    clear hO hbl hD O9 HB2
                    go_wp2
                    go_roundw
                    case rel => exact ⟨i + 1, by omega, by go_num, (by rw [hcs.out]; try rfl), HB3, O11⟩
                    case measure => simp [intOf]; omega
                  · rw [hcc] at hcs
                    clear hch hD
                    have hD := Lib.hid (HO.out.hot (x : Int))
                    rw [hb] at hD
                    go_wp2_with fail
                    refine hD.out.mono ?_
                    rintro e w9 ⟨rfl, ⟨hO, hbl⟩⟩
                    have O9 := Aside0.mk hO
                    have HB2 := Aside0.mk (HB.out.trans (hbl.mono HB.out.size))
                    clear hO hbl hD HO HB
                    have hE := O9.out.count (x : Int)
                    rw [cnt_rd hmem.1] at hE
                    replace hE := Lib.hid hE
                    go_wp2_with fail
                    refine hE.out.mono ?_
                    rintro e w10 ⟨rfl, rfl⟩
                    clear hE
                    go_wp2
                    go_roundw
                    case rel => exact ⟨i + 1, by omega, by go_num, (by rw [hcs.out]; try rfl), HB2, O9⟩
                    case measure => simp [intOf]; omega
                · have hcc := hch.out hb
                  rw [hb, hcc] at hcs
                  rw [hcc]
                  clear hch hD
                  have hD := Lib.hid (HO.out.hot (x : Int))
                  rw [hb] at hD
                  go_wp2_with fail
                  refine hD.out.mono ?_
                  rintro e w9 ⟨rfl, ⟨hO, hbl⟩⟩
                  have O9 := Aside0.mk hO
                  have HB2 := Aside0.mk (HB.out.trans (hbl.mono HB.out.size))
                  clear hO hbl hD HO HB
                  have hE := O9.out.count (x : Int)
                  rw [cnt_rd hmem.1] at hE
                  replace hE := Lib.hid hE
                  go_wp2_with fail
                  refine hE.out.mono ?_
                  rintro e w10 ⟨rfl, rfl⟩
                  clear hE
                  have hD := Lib.hid (O9.out.hot (x : Int))
                  rw [hb] at hD
                  go_wp2_with fail
                  refine hD.out.mono ?_
                  rintro e w11 ⟨rfl, ⟨hO, hbl⟩⟩
                  have O11 := Aside0.mk hO
                  have HB3 := Aside0.mk (HB2.out.trans (hbl.mono HB2.out.size))
                  clear hO hbl hD O9 HB2
                  go_wp2
                  go_roundw
                  case rel => exact ⟨i + 1, by omega, by go_num, (by rw [hcs.out]; try rfl), HB3, O11⟩
                  case measure => simp [intOf]; omega
              · obtain rfl : i = (sortN cs).length := by omega
                have hD := Lib.hid HO.out.total
                go_wp2_with fail
                refine hD.out.mono ?_
                rintro e w9 ⟨rfl, rfl⟩
                clear hD
                have hw2 : wrap64 (2 * hcK cs cs.length) = 2 * hcK cs cs.length := Go.IntWalk.wrap64_in _ ⟨by omega, by omega⟩
                have hz := hhalf.out
                clear hhalf
                generalize hcK cs cs.length = h at *
                generalize sumC cs = s at *
                have z1 : decide (2 * h < (cs.length : Int)) = true := decide_eq_true (by omega)
                clear hz
                go_wp2
                go_ret
                exact ⟨rfl, HO.out.bel⟩
theorem heatHalf_walk (a0 : Int) (a1 : Option Addr) (len1 cap1 : Nat) (zs1 : List Int) (W : World) (hn : (Lit.int .i64 a0).wf = true)
    (h : (a1 = none ∧ len1 = 0 ∧ cap1 = 0 ∧ zs1 = []) ∨ ∃ x, a1 = some x ∧ len1 ≤ cap1 ∧ cap1 ≤ maxLen ∧ zs1.length = cap1 ∧ (∀ i, i < zs1.length → W.cell? (x.add i) = some (.int .i64 (zs1.getD i 0))) ∧ ∀ n ∈ zs1, (Lit.int .i64 n).wf = true)
    (hs : len1 * 8 ≤ 140737488351232) :
    Calls Try.prog 4 #[.int .i64 a0, .slice a1 len1 cap1] W fun e w' => e = .returned (.bool true) ∧ Below W.heap.size W w' := by
  obtain ⟨l, rfl, hr, hm, hw, hcc⟩ := ReadsInt.ofRowC h
  exact half_core a0 a1 cap1 l W ⟨Kd.C_of_reads (d := (0 : Int)) (h1 := fun _ => rfl) hr⟩
end Go.Proofs.Ytihggmhmfocnpaa.PQ
