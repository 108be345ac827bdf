/- PoolOne walked. -/
import Derived.Test.YtoiofemekcnlbaaDoorWorks
import Derived.Outline
import Derived.RegionTactic
import Derived.BigRegion
namespace Go.Proofs.YtoiofemekcnlbaaDoor.PQ
open Go.RowKit Go.Proofs.YtoiofemekcnlbaaDoorW.PrintWords Go.Proofs.YtoiofemekcnlbaaDoorW.PrintLast Go.Proofs.YtoiofemekcnlbaaDoorW.PrintMore
set_option linter.unusedVariables false
set_option linter.unusedSimpArgs false
theorem below_bd (x n : Int) (hn : 0 < n) (h64 : n ≤ 64) : ∃ r, decklebook_Below.f x n = some r ∧ 0 ≤ r ∧ r < n := by
  unfold decklebook_Below.f
  rw [if_neg (by omega)]
  have h1 := Int.tmod_lt_of_pos x hn
  have h2 : -n < Int.tmod x n := by
    have h3 := Int.tmod_lt_of_pos (-x) hn
    rw [Int.neg_tmod] at h3
    omega
  by_cases c : Int.tmod x n < 0
  · rw [if_pos c]
    refine ⟨_, rfl, ?_, ?_⟩ <;> unfold wrap64 <;> omega
  · rw [if_neg c]
    exact ⟨_, rfl, by omega, h1⟩
theorem toR_len (l : List (Int × Bool)) (i r : Int) : (toR l i r).length = l.length := by
  unfold toR
  split
  · split
    · rw [List.length_set]
    · rfl
  · rfl
theorem wearR_len (l : List (Int × Bool)) (i : Int) : (wearR l i).length = l.length := by
  unfold wearR
  split
  · rw [List.length_set]
  · rfl
/-- What is kept from call to call. -/
def Some1 (n P B : Nat) (w0 w : World) : Prop := ∃ l, l.length = n ∧ Inv l P B w0 w
theorem Some1.below {n P B : Nat} {w0 w : World} (h : Some1 n P B w0 w) : Below w0.heap.size w0 w := by
  obtain ⟨l, _, h⟩ := h
  exact h.below
theorem Some1.drawn {n P B : Nat} {w0 w w' : World} (h : Some1 n P B w0 w) (d : Drawn0 w w') : Some1 n P B w0 w' := by
  obtain ⟨l, hl, h⟩ := h
  exact ⟨l, hl, h.drawn d⟩
theorem Some1.to {n P B : Nat} {w0 w : World} (h : Some1 n P B w0 w) (t : Tabs w0) (i r : Int) :
    Calls Tryd.prog 10 #[.pointer (some ⟨P, 0, none⟩), .int .i64 i, .int .i64 r] w fun e w' => Aside0 (∃ c, e = .returned (.int .i64 c)) ∧ Aside0 (Some1 n P B w0 w') := by
  obtain ⟨l, hl, h⟩ := h
  exact (h.to t i r).mono fun e w' ⟨h1, h2, _⟩ => ⟨⟨_, h1⟩, ⟨_, (toR_len l i r).trans hl, h2⟩⟩
theorem Some1.wear {n P B : Nat} {w0 w : World} (h : Some1 n P B w0 w) (i : Int) :
    Calls Tryd.prog 11 #[.pointer (some ⟨P, 0, none⟩), .int .i64 i] w fun e w' => Aside0 (∃ c, e = .returned (.int .i64 c)) ∧ Aside0 (Some1 n P B w0 w') := by
  obtain ⟨l, hl, h⟩ := h
  exact (h.wear i).mono fun e w' ⟨h1, h2, _⟩ => ⟨⟨_, h1⟩, ⟨_, (wearR_len l i).trans hl, h2⟩⟩
/-- How many there are of the first k roles. -/
def sumK (l : List (Int × Bool)) : Nat → Nat
  | 0 => 0
  | k + 1 => sumK l k + (listK l [(k : Int)] l.length).length
theorem sumK_le (l : List (Int × Bool)) (hl : l.length ≤ 64) : ∀ k, sumK l k ≤ k * 64
  | 0 => Nat.le_refl _
  | k + 1 => by
    have := sumK_le l hl k
    have h2 := listK_len l [(k : Int)] l.length
    unfold sumK
    omega
theorem listK_snoc_len (l : List (Int × Bool)) (ys : List Int) (j : Nat) : (listK l ys (j + 1)).length = (listK l ys j).length + (if rl l j ∈ ys then 1 else 0) := by
  rw [listK]
  split <;> simp
/-- How many of the first k roles the first j blocks have. -/
def sumJ (l : List (Int × Bool)) (j : Nat) : Nat → Nat
  | 0 => 0
  | k + 1 => sumJ l j k + (listK l [(k : Int)] j).length
theorem sumJ_snoc (l : List (Int × Bool)) (j : Nat) : ∀ k : Nat, sumJ l (j + 1) k = sumJ l j k + (if 0 ≤ rl l j ∧ rl l j < k then 1 else 0)
  | 0 => by rw [if_neg (by omega)]; rfl
  | k + 1 => by
    rw [sumJ, sumJ, sumJ_snoc l j k, listK_snoc_len]
    have hm : (rl l j ∈ [(k : Int)]) ↔ rl l j = k := List.mem_singleton
    by_cases h : rl l j = k
    · rw [if_neg (show ¬ (0 ≤ rl l j ∧ rl l j < (k : Int)) by omega), if_pos (hm.2 h), if_pos (show 0 ≤ rl l j ∧ rl l j < ((k + 1 : Nat) : Int) by omega)]; omega
    · by_cases h2 : 0 ≤ rl l j ∧ rl l j < k
      · rw [if_pos h2, if_neg (fun x => h (hm.1 x)), if_pos (show 0 ≤ rl l j ∧ rl l j < ((k + 1 : Nat) : Int) by omega)]; omega
      · rw [if_neg h2, if_neg (fun x => h (hm.1 x)), if_neg (show ¬ (0 ≤ rl l j ∧ rl l j < ((k + 1 : Nat) : Int)) by omega)]; omega
theorem sumJ_all (l : List (Int × Bool)) (hm : ∀ x ∈ l, 0 ≤ x.1 ∧ x.1 ≤ 6) : ∀ j, j ≤ l.length → sumJ l j 7 = j
  | 0, _ => rfl
  | j + 1, h => by
    have := getD_may hm j
    have e : rl l j = (l.getD j (0, false)).1 := by unfold rl; rw [Int.toNat_natCast]
    rw [sumJ_snoc, sumJ_all l hm j (by omega), if_pos (by rw [e]; omega)]
theorem sumK_J (l : List (Int × Bool)) : ∀ k, sumK l k = sumJ l l.length k
  | 0 => rfl
  | k + 1 => by rw [sumK, sumJ, sumK_J l k]
def up (n : Nat) : List Int := (List.range n).map (fun (i : Nat) => (i : Int))
theorem listK_all (l : List (Int × Bool)) (hm : ∀ x ∈ l, 0 ≤ x.1 ∧ x.1 ≤ 6) : ∀ j, listK l [0, 1, 2, 3, 4, 5, 6] j = up j
  | 0 => rfl
  | j + 1 => by
    have := getD_may hm j
    have e : rl l j = (l.getD j (0, false)).1 := by unfold rl; rw [Int.toNat_natCast]
    have h : rl l j ∈ ([0, 1, 2, 3, 4, 5, 6] : List Int) := by
      rw [e]
      simp only [List.mem_cons, List.not_mem_nil, or_false]
      omega
    rw [listK, if_pos h, listK_all l hm j]
    unfold up
    rw [List.range_succ, List.map_append]
    rfl
theorem up_len (n : Nat) : (up n).length = n := by unfold up; simp
theorem rd_up (n k : Nat) (h : k < n) : rd (up n) (k : Int) = (k : Int) := by
  unfold rd up
  rw [Int.toNat_natCast, List.getD_eq_getElem?_getD]
  simp [h]
set_option maxHeartbeats 8000000 in
set_option maxRecDepth 100000 in
theorem poolOne_core (n : Int) (A1 : Option Addr) (c1 : Nat) (xs : List S30) (w : World) (hr1 : Aside0 (Kd.C k30 w A1 xs.length xs)) (hT : Aside0 (Tabs w)) :
    Calls Tryd.prog 3 #[.int .i64 n, .slice A1 xs.length c1] w fun e w' => e = .returned (.bool true) ∧ Below w.heap.size w w' := by
  have hmax := Kd.C_max hr1.out
  obtain ⟨r, hr, r0, r1⟩ := below_bd n 64 (by decide) (by decide)
  have hr' := Lib.hid hr
  clear hr
  obtain ⟨r, rfl⟩ := Int.eq_ofNat_of_zero_le r0
  go_enter Tryd.func3, Tryd.ntmps3
  go_wp2_with fail
  refine (works_spec w hT).mono ?_
  rintro e w1 ⟨rfl, hb1⟩
  have HB1 := Aside0.mk hb1
  clear hb1
  go_wp2_with fail
  refine (decklebook_Below.calls n 64 _ _ hr'.out).mono ?_
  rintro e w2 ⟨rfl, hd⟩
  have HB2 := Aside0.mk (HB1.out.trans (drawn_any hd))
  clear hd HB1 hr'
  clear w1
  go_wp2_with fail
  have e1 : (1 : Int) + (r : Int) = ((r + 1 : Nat) : Int) := by omega
  rw [e1]
  have hN := (inv_new (r + 1) w2 (by omega) (by omega)).mono (R' := fun e w' => Aside0 (∃ P B, e = .returned (.tuple #[.pointer (some ⟨P, 0, none⟩), .int .i64 0]) ∧ Some1 (r + 1) P B w w')) fun e w' ⟨⟨P, B, h1, h2⟩⟩ => ⟨⟨P, B, h1, _, List.length_replicate, h2.at_, HB2.out.trans (h2.below.mono HB2.out.size), Nat.le_trans HB2.out.size h2.p, Nat.le_trans HB2.out.size h2.b⟩⟩
  refine hN.mono ?_
  rintro e w3 ⟨⟨P, B, rfl, hS⟩⟩
  have HS := Aside0.mk hS
  clear hS hN HB2 e1
  clear w2
  have hn1 : 1 ≤ r + 1 := by omega
  have hn2 : r + 1 ≤ 64 := by omega
  clear r0 r1
  generalize r + 1 = m at *
  go_wp2_with fail
  go_loopw [7] (fun i wr => ∃ k : Nat, k ≤ xs.length ∧ i = .int .i64 k ∧ Aside0 (Some1 m P B w wr)) (fun i _ => xs.length - (intOf i).toNat)
  case atStart => exact ⟨0, by omega, rfl, HS⟩
  case round =>
    clear HS
    obtain ⟨k, hk, rfl, HS⟩ := hrel
    by_cases hlt : k < xs.length ∧ k < 200
    · have yk : decide ((k : Int) < (xs.length : Int)) = true := decide_eq_true (by omega)
      have yk2 : decide ((k : Int) < 200) = true := decide_eq_true (by omega)
      obtain ⟨ad, e1, hx0, hx1, hx2⟩ := at_T30 (Kd.C_below hr1.out HS.out.below) (k : Int) (by omega) (by omega)
      cases e1
      rw [Int.toNat_natCast] at hx0 hx1 hx2
      have hA := Lib.hid ((HS.out.drawn (w' := wr.drew) ⟨⟨1, rfl⟩⟩).to hT.out (rd_T30 xs k).f1 (rd_T30 xs k).f2)
      have hB := Lib.hid (HS.out.wear (rd_T30 xs k).f1)
      generalize (rd_T30 xs (k : Int)).f0 = y0 at *
      generalize (rd_T30 xs (k : Int)).f1 = y1 at *
      generalize (rd_T30 xs (k : Int)).f2 = y2 at *
      by_cases h0 : y0 = 0
      · have g0 : (y0 == 0) = true := beq_iff_eq.2 h0
        clear h0
        go_wp2_with fail
        go_region_with (go_at_call 10; refine hA.out.mono ?_; rintro e w4 ⟨⟨c, rfl⟩, H4⟩)
        all_goals
          clear hA hB HS hx0 hx1 hx2
          go_wp2
          go_roundw
          case rel => exact ⟨k + 1, by omega, by go_num, H4⟩
          case measure => simp [intOf]; omega
      · have g0 : (y0 == 0) = false := beq_eq_false_iff_ne.2 h0
        clear h0
        go_wp2_with fail
        refine hB.out.mono ?_
        rintro e w4 ⟨⟨c, rfl⟩, H4⟩
        clear hA hB HS hx0 hx1 hx2
        go_wp2
        go_roundw
        case rel => exact ⟨k + 1, by omega, by go_num, H4⟩
        case measure => simp [intOf]; omega
    · have hx : xs.length ≤ k ∨ (k < xs.length ∧ 200 ≤ k) := by omega
      obtain ⟨l, hl, HI⟩ := HS.out
      replace HI := Aside0.mk HI
      clear hr1 HS hlt
      rcases hx with yk | ⟨yk, yk2⟩
      all_goals
        go_wp2_with fail
        clear yk
        try clear yk2
        go_loopw [8, 65] (fun s i wr => ∃ k : Nat, k ≤ 7 ∧ i = .int .i64 k ∧ s = .int .i64 (sumK l k) ∧ Aside0 (Inv l P B w wr)) (fun _ i _ => 7 - (intOf i).toNat)
        case atStart => exact ⟨0, by omega, rfl, rfl, HI⟩
        case round =>
          clear HI
          obtain ⟨k, hk, rfl, rfl, HI⟩ := hrel
          by_cases hlt : k < 7
          · have yk : decide ((k : Int) < 7) = true := decide_eq_true (by omega)
            have hA := Lib.hid (HI.out.count k)
            have hS := Lib.hid (show sumK l (k + 1) = sumK l k + (listK l [(k : Int)] l.length).length from rfl)
            have b1 := sumK_le l (by omega) k
            have b2 := listK_len l [(k : Int)] l.length
            generalize sumK l k = s at *
            generalize (listK l [(k : Int)] l.length).length = t at *
            go_wp2_with fail
            refine hA.out.mono ?_
            rintro e w4 ⟨rfl, h4⟩
            have H4 := Aside0.mk h4
            clear hA HI h4
            go_wp2
            go_roundw
            case rel => exact ⟨k + 1, by omega, by go_num, by rw [hS.out]; go_num, H4⟩
            case measure => simp [intOf]; omega
          · obtain rfl : k = 7 := by omega
            have hs : sumK l 7 = m := by rw [sumK_J, sumJ_all l HI.out.at_.may l.length (Nat.le_refl _), hl]
            have hs' := Lib.hid hs
            clear hs hlt
            have HI2 := Aside0.mk (HI.out.alloc (.cells #[.int .i64 0, .int .i64 1, .int .i64 2, .int .i64 3, .int .i64 4, .int .i64 5, .int .i64 6] 3))
            have hC := Aside0.mk (C_lit wr [0, 1, 2, 3, 4, 5, 6] 3 (by decide))
            have hA := Lib.hid (list_core l P B (some ⟨wr.heap.size, 0, none⟩) 7 [0, 1, 2, 3, 4, 5, 6] _ ⟨HI2.out.at_⟩ hC (Lib.hid ⟨by decide, by decide⟩))
            have hU := listK_all l HI.out.at_.may l.length
            rw [hs'.out]
            go_wp2_with fail
            refine hA.out.mono ?_
            rintro e w4 ⟨⟨v, rfl, hR, hB⟩⟩
            rw [hU, hl] at hR
            have H4 := Aside0.mk (HI2.out.belowW hB)
            obtain ⟨A9, c9, rfl⟩ := Kd.R_slice hR
            have hR' := Aside0.mk ((Kd.R_reads' hR).2.2)
            rw [up_len] at hR' ⊢
            clear hR hB hU hA HI2 hC HI
            go_wp2_with fail
            go_loopw [9, 79] (fun s i wr => ∃ k : Nat, k ≤ m ∧ i = .int .i64 k ∧ s = .int .i64 (badsK l k) ∧ Aside0 (Inv l P B w wr) ∧ Aside0 (Kd.C (Kd.int .i64) wr A9 m (up m))) (fun _ i _ => m - (intOf i).toNat)
            case atStart => exact ⟨0, by omega, rfl, rfl, H4, hR'⟩
            case round =>
              clear H4 hR'
              obtain ⟨k, hk, rfl, rfl, HI, HC⟩ := hrel
              by_cases hlt : k < m
              · have yk : decide ((k : Int) < (m : Int)) = true := decide_eq_true (by omega)
                obtain ⟨ad, e1, hx⟩ := Kd.at_int HC.out (k : Int) (by omega) (by omega)
                cases e1
                rw [Int.toNat_natCast, rd_up m k hlt] at hx
                have hW := worn_calls l P B (k : Int) wr HI.out.at_
                rw [if_pos (show okI l k from ⟨by omega, by omega⟩)] at hW
                have hW' := Lib.hid hW
                have hS := show badsK l (k + 1) = if wn l k = true then badsK l k + 1 else badsK l k from rfl
                have b1 := badsK_le l k
                clear hW
                cases hm : wn l k with
                | true =>
                  rw [hm] at hW'
                  rw [hm, if_pos rfl] at hS
                  have hS' := Lib.hid hS
                  clear hS hm
                  generalize badsK l k = s at *
                  go_wp2_with fail
                  refine hW'.out.mono ?_
                  rintro e w5 ⟨rfl, rfl⟩
                  clear hW' hx
                  go_wp2
                  go_roundw
                  case rel => exact ⟨k + 1, by omega, by go_num, by rw [hS'.out]; go_num, HI, HC⟩
                  case measure => simp [intOf]; omega
                | false =>
                  rw [hm] at hW'
                  rw [hm, if_neg (by decide)] at hS
                  have hS' := Lib.hid hS
                  clear hS hm
                  generalize badsK l k = s at *
                  go_wp2_with fail
                  refine hW'.out.mono ?_
                  rintro e w5 ⟨rfl, rfl⟩
                  clear hW' hx
                  go_wp2
                  go_roundw
                  case rel => exact ⟨k + 1, by omega, by go_num, by rw [hS'.out], HI, HC⟩
                  case measure => simp [intOf]; omega
              · obtain rfl : k = m := by omega
                have hA0 := HI.out.bads
                rw [hl] at hA0
                have hA := Lib.hid hA0
                have b1 := badsK_le l k
                clear hA0 HC hl hlt
                generalize badsK l k = q at *
                go_wp2_with fail
                refine hA.out.mono ?_
                rintro e w5 ⟨rfl, h5⟩
                have fin := Aside0.mk h5.below
                clear hA h5 HI
                go_wp2
                go_ret
                exact ⟨rfl, fin.out⟩
end Go.Proofs.YtoiofemekcnlbaaDoor.PQ
