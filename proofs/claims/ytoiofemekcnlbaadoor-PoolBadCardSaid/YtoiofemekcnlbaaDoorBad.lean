/- PoolBad walked. -/
import Derived.Test.YtoiofemekcnlbaaDoorOf
import Derived.Test.YtoiofemekcnlbaaDoorOne
import Derived.Outline
import Derived.RegionTactic
import Derived.BigRegion
namespace Go.Proofs.YtoiofemekcnlbaaDoor.PQ
open Go.RowKit Go.Proofs.YtoiofemekcnlbaaDoorW.PrintWords Go.Proofs.YtoiofemekcnlbaaDoorW.PrintLast Go.Proofs.YtoiofemekcnlbaaDoorW.PrintMore
set_option linter.unusedVariables false
set_option linter.unusedSimpArgs false
theorem rl_set (l : List (Int × Bool)) (i b : Nat) (y : Int × Bool) (hi : i < l.length) : rl (l.set i y) b = if i = b then y.1 else rl l b := by
  unfold rl
  rw [Int.toNat_natCast, List.getD_eq_getElem?_getD, List.getElem?_set]
  split
  · rename_i h; subst h; simp [hi]
  · rw [List.getD_eq_getElem?_getD]
theorem wn_set (l : List (Int × Bool)) (i b : Nat) (y : Int × Bool) (hi : i < l.length) : wn (l.set i y) b = if i = b then y.2 else wn l b := by
  unfold wn
  rw [Int.toNat_natCast, List.getD_eq_getElem?_getD, List.getElem?_set]
  split
  · rename_i h; subst h; simp [hi]
  · rw [List.getD_eq_getElem?_getD]
/-- What a call of To does to a worn block. -/
theorem worn_step (l : List (Int × Bool)) (b : Nat) (hb : b < l.length) (hw : wn l b = true) (i r : Int) :
    wn (toR l i r) b = true ∧ (rl (toR l i r) b = rl l b ∨ (rl l b ≠ 6 ∧ rl (toR l i r) b ≠ 0 ∧ rl (toR l i r) b ≠ 1 ∧ rl (toR l i r) b ≠ 3 ∧ rl (toR l i r) b ≠ 4)) := by
  by_cases h : okI l i ∧ okR r
  · rw [toR_in h]
    by_cases ht : takes (rl l i) r (wn l i) = true
    · rw [if_pos ht]
      obtain ⟨i, rfl⟩ := Int.eq_ofNat_of_zero_le h.1.1
      rw [Int.toNat_natCast]
      have hi : i < l.length := by have := h.1.2; omega
      rw [rl_set l i b _ hi, wn_set l i b _ hi]
      by_cases e : i = b
      · subst e
        rw [if_pos rfl, if_pos rfl]
        refine ⟨hw, .inr ?_⟩
        dsimp only
        rw [hw] at ht
        unfold takes mayB at ht
        have h6 : r ≤ 6 := by have := h.2.2; omega
        have h0 : 0 ≤ r := h.2.1
        by_cases f6 : rl l (i : Int) = 6
        · rw [f6] at ht
          by_cases r6 : r = 6
          · subst r6; simp at ht
          · rw [if_neg r6, if_neg (by decide), if_neg (by decide), if_neg (by decide), if_neg (by decide)] at ht
            simp at ht
        · refine ⟨f6, ?_, ?_, ?_, ?_⟩ <;> rintro rfl
          · simp at ht
          · by_cases f0 : rl l (i : Int) = 0
            · rw [f0] at ht; simp at ht
            · rw [if_neg (by decide), if_neg f0] at ht
              split at ht
              · simp at ht
              · split at ht
                · simp at ht
                · split at ht <;> simp at ht
          · by_cases f0 : rl l (i : Int) = 0
            · rw [f0] at ht; simp at ht
            · rw [if_neg (by decide), if_neg f0] at ht
              split at ht
              · simp at ht
              · split at ht
                · simp at ht
                · split at ht <;> simp at ht
          · by_cases f0 : rl l (i : Int) = 0
            · rw [f0] at ht; simp at ht
            · rw [if_neg (by decide), if_neg f0] at ht
              split at ht
              · simp at ht
              · split at ht
                · simp at ht
                · split at ht <;> simp at ht
      · rw [if_neg e, if_neg e]
        exact ⟨hw, .inl rfl⟩
    · rw [if_neg ht]
      exact ⟨hw, .inl rfl⟩
  · rw [toR_out h]
    exact ⟨hw, .inl rfl⟩
/-- A pool in which a block is worn, and has a role. -/
def Worn1 (n b : Nat) (u : Int) (P B : Nat) (w0 w : World) : Prop := ∃ l, l.length = n ∧ wn l b = true ∧ rl l b = u ∧ Inv l P B w0 w
theorem Worn1.below {n b : Nat} {u : Int} {P B : Nat} {w0 w : World} (h : Worn1 n b u P B w0 w) : Below w0.heap.size w0 w := by
  obtain ⟨l, _, _, _, h⟩ := h
  exact h.below
theorem Worn1.drawn {n b : Nat} {u : Int} {P B : Nat} {w0 w w' : World} (h : Worn1 n b u P B w0 w) (d : Drawn0 w w') : Worn1 n b u P B w0 w' := by
  obtain ⟨l, h1, h2, h3, h4⟩ := h
  exact ⟨l, h1, h2, h3, h4.drawn d⟩
def Next1 (u v : Int) : Prop := v = u ∨ (u ≠ 6 ∧ v ≠ 0 ∧ v ≠ 1 ∧ v ≠ 3 ∧ v ≠ 4)
theorem Worn1.to {n b : Nat} (hb : b < n) {u : Int} {P B : Nat} {w0 w : World} (h : Worn1 n b u P B w0 w) (t : Tabs w0) (i r : Int) :
    Calls Tryd.prog 10 #[.pointer (some ⟨P, 0, none⟩), .int .i64 i, .int .i64 r] w fun e w' => Aside0 (∃ c, e = .returned (.int .i64 c)) ∧ Aside0 (∃ v, Next1 u v ∧ Worn1 n b v P B w0 w') := by
  obtain ⟨l, h1, h2, h3, h4⟩ := h
  refine (h4.to t i r).mono fun e w' ⟨g1, g2, _⟩ => ⟨⟨_, g1⟩, ⟨_, ?_, toR l i r, (toR_len l i r).trans h1, (worn_step l b (by omega) h2 i r).1, rfl, g2⟩⟩
  have := (worn_step l b (by omega) h2 i r).2
  rw [h3] at this
  exact this
theorem Worn1.role {n b : Nat} (hb : b < n) {u : Int} {P B : Nat} {w0 w : World} (h : Worn1 n b u P B w0 w) :
    Calls Tryd.prog 19 #[.pointer (some ⟨P, 0, none⟩), .int .i64 b] w fun e w' => e = .returned (.int .i64 u) ∧ w' = w := by
  obtain ⟨l, h1, h2, h3, h4⟩ := h
  have := role_calls l P B b w h4.at_
  rw [if_pos (show okI l b from ⟨by omega, by omega⟩), h3] at this
  exact this
theorem Worn1.worn {n b : Nat} (hb : b < n) {u : Int} {P B : Nat} {w0 w : World} (h : Worn1 n b u P B w0 w) :
    Calls Tryd.prog 14 #[.pointer (some ⟨P, 0, none⟩), .int .i64 b] w fun e w' => e = .returned (.bool true) ∧ w' = w := by
  obtain ⟨l, h1, h2, h3, h4⟩ := h
  have := worn_calls l P B b w h4.at_
  rw [if_pos (show okI l b from ⟨by omega, by omega⟩), h2] at this
  exact this
theorem worn_new {l : List (Int × Bool)} {b : Nat} (hb : b < l.length) {P B : Nat} {w0 w : World} (h : Inv l P B w0 w) :
    Calls Tryd.prog 11 #[.pointer (some ⟨P, 0, none⟩), .int .i64 b] w fun e w' => Aside0 (∃ c, e = .returned (.int .i64 c)) ∧ Worn1 l.length b (rl l b) P B w0 w' := by
  refine (h.wear b).mono fun e w' ⟨g1, g2, _⟩ => ⟨⟨_, g1⟩, wearR l b, wearR_len l b, ?_, ?_, g2⟩
  · unfold wearR
    rw [if_pos (show okI l b from ⟨by omega, by omega⟩), Int.toNat_natCast, wn_set _ _ _ _ hb, if_pos rfl]
  · unfold wearR
    rw [if_pos (show okI l b from ⟨by omega, by omega⟩), Int.toNat_natCast, rl_set _ _ _ _ hb, if_pos rfl]
set_option maxHeartbeats 8000000 in
set_option maxRecDepth 100000 in
theorem poolBad_core (A0 : Option Addr) (c0 : Nat) (fs : List Int) (A1 : Option Addr) (c1 : Nat) (xs : List S30) (blk : Int) (w : World) (hr0 : Aside0 (Kd.C (Kd.int .i64) w A0 fs.length fs)) (hr1 : Aside0 (Kd.C k30 w A1 xs.length xs)) (hT : Aside0 (Tabs w)) (h1 : 1 ≤ fs.length) (h2 : fs.length ≤ 64) (hok : Aside0 (∀ x ∈ fs, okR x)) :
    Calls Tryd.prog 5 #[.slice A0 fs.length c0, .slice A1 xs.length c1, .int .i64 blk] w fun e w' => e = .returned (.bool true) ∧ Below w.heap.size w w' := by
  have hmax := Kd.C_max hr1.out
  obtain ⟨r, hr, r0, r1⟩ := below_bd blk fs.length (by omega) (by omega)
  have hr' := Lib.hid hr
  clear hr
  obtain ⟨b, rfl⟩ := Int.eq_ofNat_of_zero_le r0
  have hb : b < fs.length := by omega
  have y1 : decide ((fs.length : Int) < 1) = false := decide_eq_false (by omega)
  have y2 : decide (64 < (fs.length : Int)) = false := decide_eq_false (by omega)
  clear r0 r1
  go_enter Tryd.func5, Tryd.ntmps5
  go_wp2_with fail
  refine (works_spec w hT).mono ?_
  rintro e w1 ⟨rfl, hb1⟩
  have HB1 := Aside0.mk hb1
  clear hb1
  go_wp2_with fail
  refine (of_yes A0 c0 fs w1 ⟨Kd.C_below hr0.out HB1.out⟩ h1 h2 hok).mono ?_
  rintro e w2 ⟨⟨P, B, rfl, hI⟩⟩
  have HI : Aside0 (Inv (ofL fs fs.length) P B w w2) := ⟨hI.at_, HB1.out.trans (hI.below.mono HB1.out.size), Nat.le_trans HB1.out.size hI.p, Nat.le_trans HB1.out.size hI.b⟩
  have hl := Lib.hid (ofL_len fs fs.length (Nat.le_refl _))
  clear HB1 hI hok hr0
  clear w1
  go_wp2_with fail
  refine (decklebook_Below.calls blk fs.length _ _ hr'.out).mono ?_
  rintro e w3 ⟨rfl, hd⟩
  have HI3 := Aside0.mk (HI.out.drawn hd)
  clear HI hr' hd y1 y2
  clear w2
  generalize ofL fs fs.length = l at *
  have hR := role_calls l P B b w3 HI3.out.at_
  rw [if_pos (show okI l b from ⟨by omega, by have := hl.out; omega⟩)] at hR
  have hR' := Lib.hid hR
  have hW := worn_new (show b < l.length by have := hl.out; omega) HI3.out
  rw [hl.out] at hW
  have hW' := Lib.hid hW
  clear hR hW
  generalize rl l b = u at *
  go_wp2_with fail
  refine hR'.out.mono ?_
  rintro e w4 ⟨rfl, rfl⟩
  go_wp2_with fail
  refine hW'.out.mono ?_
  rintro e w5 ⟨⟨c, rfl⟩, h5⟩
  have HI := Aside0.mk h5
  clear hW' hR' HI3 h5 hl
  clear l
  generalize fs.length = n at *
  go_wp2_with fail
  go_loopw [9, 10] (fun x i wr => ∃ (u : Int) (k : Nat), k ≤ xs.length ∧ i = .int .i64 k ∧ x = .int .i64 u ∧ Aside0 (Worn1 n b u P B w wr)) (fun _ i _ => xs.length - (intOf i).toNat)
  case atStart => exact ⟨u, 0, by omega, rfl, rfl, HI⟩
  case round =>
    clear HI
    obtain ⟨u, k, hk, rfl, rfl, HI⟩ := hrel
    by_cases hlt : k < xs.length ∧ k < 200
    · obtain ⟨ad, e1, hx0, hx1, hx2⟩ := at_T30 (Kd.C_below hr1.out HI.out.below) (k : Int) (by omega) (by omega)
      cases e1
      rw [Int.toNat_natCast] at hx0 hx1 hx2
      have hA := Lib.hid ((HI.out.drawn (w' := wr.drew) ⟨⟨1, rfl⟩⟩).to hb hT.out (rd_T30 xs k).f1 (rd_T30 xs k).f2)
      generalize (rd_T30 xs (k : Int)).f0 = y0 at *
      generalize (rd_T30 xs (k : Int)).f1 = y1 at *
      generalize (rd_T30 xs (k : Int)).f2 = y2 at *
      go_wp2_with fail
      go_region_with (go_at_call 10; refine hA.out.mono ?_; rintro e w4 ⟨⟨c, rfl⟩, ⟨v, hn, h4⟩⟩)
      all_goals
        have H4 := Aside0.mk h4
        have hn' := Lib.hid hn
        have hR := Lib.hid (h4.role hb)
        have hW := Lib.hid (h4.worn hb)
        clear hA HI hx0 hx1 hx2 h4 hn
        by_cases hvu : v = u
        · subst hvu
          by_cases c6 : v = 6
          · have e6 : (v == 6) = true := beq_iff_eq.2 c6
            have e6' : (v != 6) = false := by rw [bne, e6]; rfl
            clear c6 hn'
            go_wp2_with fail
            refine hR.out.mono ?_
            rintro e w5 ⟨rfl, rfl⟩
            go_wp2_with fail
            refine hW.out.mono ?_
            rintro e w5 ⟨rfl, rfl⟩
            clear hR hW
            go_wp2
            go_roundw
            case rel => exact ⟨v, k + 1, by omega, by go_num, rfl, H4⟩
            case measure => simp [intOf]; omega
          · have e6 : (v == 6) = false := beq_eq_false_iff_ne.2 c6
            clear c6 hn'
            go_wp2_with fail
            refine hR.out.mono ?_
            rintro e w5 ⟨rfl, rfl⟩
            go_wp2_with fail
            refine hW.out.mono ?_
            rintro e w5 ⟨rfl, rfl⟩
            clear hR hW
            go_wp2
            go_roundw
            case rel => exact ⟨v, k + 1, by omega, by go_num, rfl, H4⟩
            case measure => simp [intOf]; omega
        · obtain ⟨n6, m0, m1, m3, m4⟩ := hn'.out.resolve_left hvu
          have euv : (v != u) = true := bne_iff_ne.2 hvu
          have e6 : (u == 6) = false := beq_eq_false_iff_ne.2 n6
          have e0 : (v == 0) = false := beq_eq_false_iff_ne.2 m0
          have e1 : (v == 1) = false := beq_eq_false_iff_ne.2 m1
          have e3 : (v == 3) = false := beq_eq_false_iff_ne.2 m3
          have e4 : (v == 4) = false := beq_eq_false_iff_ne.2 m4
          clear n6 m0 m1 m3 m4 hn' hvu
          go_wp2_with fail
          refine hR.out.mono ?_
          rintro e w5 ⟨rfl, rfl⟩
          go_wp2_with fail
          refine hW.out.mono ?_
          rintro e w5 ⟨rfl, rfl⟩
          clear hR hW
          go_wp2
          all_goals
            go_roundw
            case rel => exact ⟨v, k + 1, by omega, by go_num, rfl, H4⟩
            case measure => simp [intOf]; omega
    · have hx : xs.length ≤ k ∨ (k < xs.length ∧ 200 ≤ k) := by omega
      have fin := Aside0.mk HI.out.below
      clear HI hlt hr1
      rcases hx with yk | ⟨yk, yk2⟩
      · go_wp2
        go_ret
        exact ⟨rfl, fin.out⟩
      · go_wp2
        go_ret
        exact ⟨rfl, fin.out⟩
set_option maxHeartbeats 1000000 in
set_option maxRecDepth 100000 in
theorem poolBad_long (A0 : Option Addr) (c0 : Nat) (fs : List Int) (A1 : Option Addr) (c1 : Nat) (xs : List S30) (blk : Int) (w : World) (hT : Aside0 (Tabs w)) (h : ¬ (1 ≤ fs.length ∧ fs.length ≤ 64)) :
    Calls Tryd.prog 5 #[.slice A0 fs.length c0, .slice A1 xs.length c1, .int .i64 blk] w fun e w' => e = .returned (.bool true) ∧ Below w.heap.size w w' := by
  by_cases y1 : fs.length < 1
  · have y1' : decide ((fs.length : Int) < 1) = true := decide_eq_true (by omega)
    go_enter Tryd.func5, Tryd.ntmps5
    go_wp2_with fail
    refine (works_spec w hT).mono ?_
    rintro e w1 ⟨rfl, hb1⟩
    have HB1 := Aside0.mk hb1
    clear hb1
    go_wp2
    go_ret
    exact ⟨rfl, HB1.out⟩
  · have y1' : decide ((fs.length : Int) < 1) = false := decide_eq_false (by omega)
    have y2 : decide (64 < (fs.length : Int)) = true := decide_eq_true (by omega)
    go_enter Tryd.func5, Tryd.ntmps5
    go_wp2_with fail
    refine (works_spec w hT).mono ?_
    rintro e w1 ⟨rfl, hb1⟩
    have HB1 := Aside0.mk hb1
    clear hb1
    go_wp2
    go_ret
    exact ⟨rfl, HB1.out⟩
set_option maxHeartbeats 1000000 in
set_option maxRecDepth 100000 in
theorem poolBad_no (A0 : Option Addr) (c0 : Nat) (fs : List Int) (A1 : Option Addr) (c1 : Nat) (xs : List S30) (blk : Int) (w : World) (hr0 : Aside0 (Kd.C (Kd.int .i64) w A0 fs.length fs)) (hT : Aside0 (Tabs w)) (h1 : 1 ≤ fs.length) (h2 : fs.length ≤ 64) (hok : Aside0 (¬ ∀ x ∈ fs, okR x)) :
    Calls Tryd.prog 5 #[.slice A0 fs.length c0, .slice A1 xs.length c1, .int .i64 blk] w fun e w' => e = .returned (.bool true) ∧ Below w.heap.size w w' := by
  have y1 : decide ((fs.length : Int) < 1) = false := decide_eq_false (by omega)
  have y2 : decide (64 < (fs.length : Int)) = false := decide_eq_false (by omega)
  go_enter Tryd.func5, Tryd.ntmps5
  go_wp2_with fail
  refine (works_spec w hT).mono ?_
  rintro e w1 ⟨rfl, hb1⟩
  have HB1 := Aside0.mk hb1
  clear hb1
  go_wp2_with fail
  refine (of_no A0 c0 fs w1 ⟨Kd.C_below hr0.out HB1.out⟩ h1 h2 hok).mono ?_
  rintro e w2 ⟨rfl, hb2⟩
  have HB2 := Aside0.mk (HB1.out.trans (hb2.mono HB1.out.size))
  clear hb2 HB1
  go_wp2
  go_ret
  exact ⟨rfl, HB2.out⟩
end Go.Proofs.YtoiofemekcnlbaaDoor.PQ
