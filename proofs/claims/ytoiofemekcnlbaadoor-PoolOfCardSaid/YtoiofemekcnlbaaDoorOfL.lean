/- PoolOf walked. -/
import Derived.Test.YtoiofemekcnlbaaDoorPlays
import Derived.Test.YtoiofemekcnlbaaDoorOf
import Derived.Test.YtoiofemekcnlbaaDoorPQx10
namespace Go.Proofs.YtoiofemekcnlbaaDoor.PQ
open Go.RowKit Go.Proofs.YtoiofemekcnlbaaDoorW.PrintWords Go.Proofs.YtoiofemekcnlbaaDoorW.PrintLast Go.Proofs.YtoiofemekcnlbaaDoorW.PrintMore
set_option linter.unusedVariables false
set_option linter.unusedSimpArgs false
theorem refOf_l1 (l : List Int) (rs : List Int) (ws : List Bool) (hr : rs.length = l.length) (hl : l.length ≤ 64) : ∀ (d k i : Nat), i + d = l.length → d < k → deckleref21_Of.l1 k l (i : Int) rs ws (l.take i) ((l.take i).map (fun r => r == 6)) = some (l, l.map (fun r => r == 6), 0)
  | 0, k, i, h, hk => by
    obtain ⟨k, rfl⟩ : ∃ m, k = m + 1 := ⟨k - 1, by omega⟩
    rw [deckleref21_Of.l1, if_neg (by omega), List.take_of_length_le (by omega)]
  | d + 1, k, i, h, hk => by
    obtain ⟨k, rfl⟩ : ∃ m, k = m + 1 := ⟨k - 1, by omega⟩
    have hi : i < l.length := by omega
    have h1 : (l.take i).length < 17592186044416 := by rw [List.length_take]; omega
    have h2 : ((l.take i).map (fun r : Int => r == 6)).length < 140737488355328 := by rw [List.length_map, List.length_take]; omega
    have e : rd l (i : Int) = l[i] := by unfold rd; rw [Int.toNat_natCast, List.getD_eq_getElem?_getD, List.getElem?_eq_getElem hi]; rfl
    have ih := refOf_l1 l rs ws hr hl d k (i + 1) (by omega) (by omega)
    rw [List.take_succ_eq_append_getElem hi, List.map_append] at ih
    rw [deckleref21_Of.l1, if_pos (by omega), if_pos (by omega), if_pos (by omega), if_pos h1, if_pos h2, w64 i (by omega), e]
    exact ih
theorem refOf_l0 (l : List Int) (rs : List Int) (ws : List Bool) (hr : rs.length = l.length) (hl : l.length ≤ 64) (hok : ∀ x ∈ l, okR x) : ∀ (d k i : Nat), i + d = l.length → d + 70 < k → deckleref21_Of.l0 k l (i : Int) rs ws = some (l, l.map (fun r => r == 6), 0)
  | 0, k, i, h, hk => by
    obtain ⟨k, rfl⟩ : ∃ m, k = m + 1 := ⟨k - 1, by omega⟩
    rw [deckleref21_Of.l0, if_neg (by omega)]
    exact refOf_l1 l rs ws hr hl l.length k 0 (by omega) (by omega)
  | d + 1, k, i, h, hk => by
    obtain ⟨k, rfl⟩ : ∃ m, k = m + 1 := ⟨k - 1, by omega⟩
    have hi : i < l.length := by omega
    have e : rd l (i : Int) = l[i] := by unfold rd; rw [Int.toNat_natCast, List.getD_eq_getElem?_getD, List.getElem?_eq_getElem hi]; rfl
    have ho := hok l[i] (List.getElem_mem hi)
    rw [deckleref21_Of.l0, if_pos (by omega), if_pos (by omega), e, if_neg (by have := ho.1; omega), if_neg (by have := ho.2; omega), w64 i (by omega)]
    exact refOf_l0 l rs ws hr hl hok d k (i + 1) (by omega) (by omega)
theorem refOf_l0_no (l : List Int) (rs : List Int) (ws : List Bool) (hl : l.length ≤ 64) : ∀ (d k i : Nat), i + d = l.length → d < k → ¬ (∀ x ∈ l.drop i, okR x) → deckleref21_Of.l0 k l (i : Int) rs ws = some ([], [], 1)
  | 0, k, i, h, hk, hn => by
    rw [List.drop_eq_nil_of_le (by omega)] at hn
    exact absurd (fun x hx => by simp at hx) hn
  | d + 1, k, i, h, hk, hn => by
    obtain ⟨k, rfl⟩ : ∃ m, k = m + 1 := ⟨k - 1, by omega⟩
    have hi : i < l.length := by omega
    have e : rd l (i : Int) = l[i] := by unfold rd; rw [Int.toNat_natCast, List.getD_eq_getElem?_getD, List.getElem?_eq_getElem hi]; rfl
    rw [deckleref21_Of.l0, if_pos (by omega), if_pos (by omega), e]
    by_cases c1 : l[i] < 0
    · rw [if_pos c1]
    rw [if_neg c1]
    by_cases c2 : l[i] > 6
    · rw [if_pos c2]
    rw [if_neg c2, w64 i (by omega)]
    refine refOf_l0_no l rs ws hl d k (i + 1) (by omega) (by omega) (fun h2 => hn (fun x hx => ?_))
    rw [List.drop_eq_getElem_cons hi] at hx
    rcases List.mem_cons.1 hx with rfl | hx
    · exact ⟨by omega, by omega⟩
    · exact h2 x hx
theorem fst_ofL (l : List Int) : fstL (ofL l l.length) = l := by rw [ofL_end]; unfold fstL; rw [List.map_map]; exact List.map_id l
theorem snd_ofL (l : List Int) : sndL (ofL l l.length) = l.map (fun r => r == 6) := by rw [ofL_end]; unfold sndL; rw [List.map_map]; rfl
theorem refOf_yes (l : List Int) (h1 : 1 ≤ l.length) (h2 : l.length ≤ 64) (hok : ∀ x ∈ l, okR x) : deckleref21_Of.f 300 l = some (fstL (ofL l l.length), sndL (ofL l l.length), 0) := by
  unfold deckleref21_Of.f
  rw [refNew l.length h1 h2, fst_ofL, snd_ofL]
  exact refOf_l0 l _ _ (by rw [fstL_len, List.length_replicate]) h2 hok l.length 300 0 (by omega) (by omega)
theorem refOf_no (l : List Int) (h1 : 1 ≤ l.length) (h2 : l.length ≤ 64) (hok : ¬ ∀ x ∈ l, okR x) : deckleref21_Of.f 300 l = some ([], [], 1) := by
  unfold deckleref21_Of.f
  rw [refNew l.length h1 h2]
  exact refOf_l0_no l _ _ h2 l.length 300 0 (by omega) (by omega) (by rw [List.drop_zero]; exact hok)
theorem refOf_long (l : List Int) (h : ¬ (1 ≤ l.length ∧ l.length ≤ 64)) : deckleref21_Of.f 300 l = some ([], [], 1) := by
  unfold deckleref21_Of.f
  rw [refNew_no _ (by omega)]
  rfl
theorem lit0 (w : World) : Kd.R (Kd.int .i64) 3 (w.alloc (.cells #[] 3)) w.heap.size (fun _ => True) (.slice (some ⟨w.heap.size, 0, none⟩) 0 0) [] :=
  Kd.R_of_own (enc := Value.int .i64) ⟨by simp [encs], .inr ⟨w.heap.size, 0, #[], rfl, Nat.le_refl _, heap_alloc_new w _, Nat.le_refl _, by unfold maxLen; omega, rfl, rfl⟩⟩ (fun _ _ => trivial)
set_option maxHeartbeats 1000000 in
set_option maxRecDepth 100000 in
theorem poolOf_long (A0 : Option Addr) (c0 : Nat) (fs : List Int) (A1 : Option Addr) (c1 : Nat) (xs : List S30) (A2 : Option Addr) (c2 : Nat) (ys : List Int) (w : World) (hT : Aside0 (Tabs w)) (h : 200 < fs.length ∨ (¬ 200 < fs.length ∧ 50 < ys.length)) :
    Calls Tryd.prog 6 #[.slice A0 fs.length c0, .slice A1 xs.length c1, .slice A2 ys.length c2] w fun e w' => e = .returned (.bool true) ∧ Below w.heap.size w w' := by
  rcases h with h | ⟨h, h'⟩
  · have z1 := decide_eq_true (show (200 : Int) < (fs.length : Int) by omega)
    clear h
    go_enter Tryd.func6, Tryd.ntmps6
    go_wp2_with fail
    refine (works_spec w hT).mono ?_
    rintro e w1 ⟨rfl, hb1⟩
    have HB1 := Aside0.mk hb1
    clear hb1
    go_wp2
    go_ret
    exact ⟨rfl, HB1.out⟩
  · have z1 := decide_eq_false (show ¬ (200 : Int) < (fs.length : Int) by omega)
    have z2 := decide_eq_true (show (50 : Int) < (ys.length : Int) by omega)
    clear h h'
    go_enter Tryd.func6, Tryd.ntmps6
    go_wp2_with fail
    refine (works_spec w hT).mono ?_
    rintro e w1 ⟨rfl, hb1⟩
    have HB1 := Aside0.mk hb1
    clear hb1
    go_wp2
    go_ret
    exact ⟨rfl, HB1.out⟩
/-- Of a list that no pool is of. -/
theorem of_none (A : Option Addr) (c : Nat) (l : List Int) (w : World) (hr : Kd.C (Kd.int .i64) w A l.length l) (h : ¬ ((1 ≤ l.length ∧ l.length ≤ 64) ∧ ∀ x ∈ l, okR x)) :
    Calls Tryd.prog 18 #[.slice A l.length c] w fun e w' => e = .returned (.tuple #[.pointer none, .int .i64 1]) ∧ Below w.heap.size w w' := by
  by_cases h1 : 1 ≤ l.length ∧ l.length ≤ 64
  · exact of_no A c l w ⟨hr⟩ h1.1 h1.2 ⟨fun h2 => h ⟨h1, h2⟩⟩
  · exact (of_long A c l w h1).mono fun e w' ⟨h1, h2⟩ => ⟨h1, by rw [h2]; exact Below.refl _ _⟩
theorem refOf_none (l : List Int) (h : ¬ ((1 ≤ l.length ∧ l.length ≤ 64) ∧ ∀ x ∈ l, okR x)) : deckleref21_Of.f 300 l = some ([], [], 1) := by
  by_cases h1 : 1 ≤ l.length ∧ l.length ≤ 64
  · exact refOf_no l h1.1 h1.2 (fun h2 => h ⟨h1, h2⟩)
  · exact refOf_long l h1
set_option maxHeartbeats 4000000 in
set_option maxRecDepth 100000 in
theorem poolOf_no (A0 : Option Addr) (c0 : Nat) (fs : List Int) (A1 : Option Addr) (c1 : Nat) (xs : List S30) (A2 : Option Addr) (c2 : Nat) (ys : List Int) (w : World) (hr0 : Aside0 (Kd.C (Kd.int .i64) w A0 fs.length fs)) (hc0 : Hid (fs.length ≤ c0)) (hT : Aside0 (Tabs w)) (hf : fs.length ≤ 200) (hy : ys.length ≤ 50) (h : Aside0 (¬ ((1 ≤ fs.length ∧ fs.length ≤ 64) ∧ ∀ x ∈ fs, okR x))) :
    Calls Tryd.prog 6 #[.slice A0 fs.length c0, .slice A1 xs.length c1, .slice A2 ys.length c2] w fun e w' => e = .returned (.bool true) ∧ Below w.heap.size w w' := by
  have z1 := decide_eq_false (show ¬ (200 : Int) < (fs.length : Int) by omega)
  have z2 := decide_eq_false (show ¬ (50 : Int) < (ys.length : Int) by omega)
  have hW := Lib.hid fun (w' : World) (hb : Below w.heap.size w w') => works_spec w' ⟨tabs_below hT.out hb hT.out.lt⟩
  have L0 := Aside0.mk (lit0 w)
  have B0 := Aside0.mk ((Below.refl w.heap.size w).alloc (Nat.le_refl _) (.cells #[] 3))
  have R0 := Aside0.mk (Kd.C_alloc hr0.out (.cells #[] 3))
  have hf8 := Lib.hid (show ((([] : List Int).length) + fs.length) * 8 ≤ 140737488355328 by simp; omega)
  have hRf := Lib.hid fun (w' : World) (hb : Below w.heap.size w w') => deckleref21_Of.calls 300 A0 c0 fs [] [] 1 w' (Kd.C_below hr0.out hb) hc0.out (refOf_none fs h.out)
  go_enter Tryd.func6, Tryd.ntmps6
  go_wp2_with ((with_reducible refine gate_builtin (b := .append) (xs := #[.tmp 21, .tmp 22]) rfl ?_); at_builtin; refine Kd.R_append_row (Value.int .i64) 0 (w0 := w) w.heap.size rfl (.tmp 21) (.tmp 22) 34 3 (.int .i64 0) 8 rfl Tryd.underlying34 info3 rfl (by decide) (.slice (some ⟨w.heap.size, 0, none⟩) 0 0) [] fs A0 fs.length c0 (fun _ => True) rfl rfl (fun _ _ => trivial) L0.out R0.out B0.out B0.out.size hf8.out ?_; intro v1 w1 ho hb hg hat; rw [List.nil_append] at ho; have HO := Aside0.mk ho; have HB := Aside0.mk hb; obtain ⟨A9, c9, rfl⟩ := Kd.R_slice ho; clear ho hb hg hat L0 B0 R0)
  refine (of_none A9 c9 fs w1 (Kd.R_reads' HO.out).2.2 h.out).mono ?_
  rintro e w2 ⟨rfl, hb2⟩
  have HB2 := Aside0.mk (HB.out.trans (hb2.mono HB.out.size))
  clear hb2 HB HO
  go_wp2_with fail
  refine (hRf.out _ HB2.out).mono ?_
  rintro e w3 ⟨v0, v1, rfl, h0, h1, hb⟩
  obtain ⟨a0, b0, rfl⟩ := Kd.R_slice h0
  obtain ⟨a1, b1, rfl⟩ := Kd.R_slice h1
  have HB3 := Aside0.mk (HB2.out.trans (hb.mono HB2.out.size))
  clear h0 h1 hb HB2 hRf
  go_wp2_with (go_at_call 7; refine (hW.out _ ?wb).mono ?_; (case wb => exact HB3.out.alloc HB3.out.size _); rintro e w' ⟨rfl, hb⟩; have HB4 := Aside0.mk ((HB3.out.alloc HB3.out.size _).trans (hb.mono (by have := HB3.out.size; simp; omega))))
  go_ret
  exact ⟨rfl, HB4.out⟩
theorem Inv.spoilt {l : List (Int × Bool)} {P B : Nat} {w0 w w' : World} {row : Option Nat} (h : Inv l P B w0 w) (hg : w.grownBy w' row) (hr : ∀ k, row = some k → w0.heap.size ≤ k ∧ ∃ cs, w.heap[k]? = some (.cells cs 3 (0, 0))) : Inv l P B w0 w' := by
  have c : Ch (fun k => row = some k) w w' := ⟨hg.os, hg.tape, hg.output, hg.size, fun k hk hn => hg.block k hk (fun e => hn e.symm)⟩
  refine ⟨h.at_.ch c (fun e => ?_) (fun e => ?_), h.below.trans (c.below h.below.size (fun k e => (hr k e).1)), h.p, h.b⟩
  · obtain ⟨cs, hc⟩ := (hr P e).2
    exact blk_ne hc h.at_.head (by decide) rfl
  · obtain ⟨cs, hc⟩ := (hr B e).2
    exact blk_ne hc h.at_.row (by decide) rfl
set_option maxHeartbeats 8000000 in
set_option maxRecDepth 100000 in
theorem poolOf_yes (A0 : Option Addr) (c0 : Nat) (fs : List Int) (A1 : Option Addr) (c1 : Nat) (xs : List S30) (A2 : Option Addr) (c2 : Nat) (ys : List Int) (w : World) (hr0 : Aside0 (Kd.C (Kd.int .i64) w A0 fs.length fs)) (hc0 : Hid (fs.length ≤ c0)) (hr1 : Aside0 (Kd.C k30 w A1 xs.length xs)) (hr2 : Aside0 (Kd.C (Kd.int .i64) w A2 ys.length ys)) (hT : Aside0 (Tabs w)) (hf1 : 1 ≤ fs.length) (hf2 : fs.length ≤ 64) (hok : Aside0 (∀ x ∈ fs, okR x)) (hc : Hid (ys.length ≤ c2 ∧ ys.length ≤ 50)) :
    Calls Tryd.prog 6 #[.slice A0 fs.length c0, .slice A1 xs.length c1, .slice A2 ys.length c2] w fun e w' => e = .returned (.bool true) ∧ Below w.heap.size w w' := by
  have z1 := decide_eq_false (show ¬ (200 : Int) < (fs.length : Int) by omega)
  have z2 := decide_eq_false (show ¬ (50 : Int) < (ys.length : Int) by have := hc.out.2; omega)
  have hW := Lib.hid fun (w' : World) (hb : Below w.heap.size w w') => works_spec w' ⟨tabs_below hT.out hb hT.out.lt⟩
  have L0 := Aside0.mk (lit0 w)
  have B0 := Aside0.mk ((Below.refl w.heap.size w).alloc (Nat.le_refl _) (.cells #[] 3))
  have R0 := Aside0.mk (Kd.C_alloc hr0.out (.cells #[] 3))
  have hf8 := Lib.hid (show ((([] : List Int).length) + fs.length) * 8 ≤ 140737488355328 by simp; omega)
  have hRf := Lib.hid fun (w' : World) (hb : Below w.heap.size w w') => deckleref21_Of.calls 300 A0 c0 fs _ _ 0 w' (Kd.C_below hr0.out hb) hc0.out (refOf_yes fs hf1 hf2 hok.out)
  go_enter Tryd.func6, Tryd.ntmps6
  go_wp2_with ((with_reducible refine gate_builtin (b := .append) (xs := #[.tmp 21, .tmp 22]) rfl ?_); at_builtin; refine Kd.R_append_row (Value.int .i64) 0 (w0 := w) w.heap.size rfl (.tmp 21) (.tmp 22) 34 3 (.int .i64 0) 8 rfl Tryd.underlying34 info3 rfl (by decide) (.slice (some ⟨w.heap.size, 0, none⟩) 0 0) [] fs A0 fs.length c0 (fun _ => True) rfl rfl (fun _ _ => trivial) L0.out R0.out B0.out B0.out.size hf8.out ?_; intro v1 w1 ho hb hg hat; rw [List.nil_append] at ho; have HO := Aside0.mk (ownI ho); have HB := Aside0.mk hb; obtain ⟨A9, c9, rfl⟩ := Kd.R_slice ho; clear ho hb hg hat L0 B0 R0)
  refine (of_yes A9 c9 fs w1 ⟨(Kd.R_reads' HO.out).2.2⟩ hf1 hf2 hok).mono ?_
  rintro e w2 ⟨⟨P, B, rfl, hI⟩⟩
  have HO2 := Aside0.mk (Kd.R_below HO.out hI.below)
  have HI2 : Aside0 (Inv (ofL fs fs.length) P B w w2) := ⟨hI.at_, HB.out.trans (hI.below.mono HB.out.size), Nat.le_trans HB.out.size hI.p, Nat.le_trans HB.out.size hI.b⟩
  have hlt := Lib.hid (fun k (e : (Value.slice A9 fs.length c9).ownBlock = some k) => Nat.lt_of_lt_of_le (Kd.R_lt HO.out k e) hI.below.size)
  have hw2 := Lib.hid HI2.out.below.size
  clear hI HO
  go_wp2_with fail
  refine (hRf.out _ HI2.out.below).mono ?_
  rintro e w3 ⟨v0, v1, rfl, h0, h1, hb⟩
  obtain ⟨a0, b0, rfl⟩ := Kd.R_slice h0
  obtain ⟨a1, b1, rfl⟩ := Kd.R_slice h1
  have HI3 := Aside0.mk (HI2.out.belowW hb)
  have HO3 := Aside0.mk (Kd.R_below HO2.out hb)
  have H0 := Aside0.mk (ownI h0)
  have H1 := Aside0.mk (ownB h1)
  have hsz := Lib.hid hb.size
  clear h0 h1 hb hRf HI2 HO2
  have HI4 := Aside0.mk (HI3.out.alloc (.cells #[.slice a0 (fstL (ofL fs fs.length)).length b0, .slice a1 (sndL (ofL fs fs.length)).length b1] 41))
  have HO4 := Aside0.mk (Kd.R_alloc HO3.out (.cells #[.slice a0 (fstL (ofL fs fs.length)).length b0, .slice a1 (sndL (ofL fs fs.length)).length b1] 41))
  have H04 := Aside0.mk (Kd.R_alloc H0.out (.cells #[.slice a0 (fstL (ofL fs fs.length)).length b0, .slice a1 (sndL (ofL fs fs.length)).length b1] 41))
  have H14 := Aside0.mk (Kd.R_alloc H1.out (.cells #[.slice a0 (fstL (ofL fs fs.length)).length b0, .slice a1 (sndL (ofL fs fs.length)).length b1] 41))
  have HD4 := Aside0.mk (heap_alloc_new w3 (.cells #[.slice a0 (fstL (ofL fs fs.length)).length b0, .slice a1 (sndL (ofL fs fs.length)).length b1] 41))
  have hS := Lib.hid (spoil _ fs _ _ _ HO4.out)
  clear HI3 HO3 H0 H1
  go_wp2_with fail
  refine hS.out.mono ?_
  rintro e w5 ⟨rfl, hg⟩
  have HI5 := Aside0.mk (HI4.out.spoilt hg (fun k e => ⟨Kd.R_base HO4.out k e, Kd.R_typed HO4.out k e⟩))
  have H05 := Aside0.mk (Kd.R_grown H04.out hg (fun k hk e => by have h1 := Kd.R_base H04.out k hk; have h2 := hlt.out k e.symm; omega))
  have H15 := Aside0.mk (Kd.R_over' H14.out (fun k e => Kd.R_typed HO4.out k e) (fun q hq => by rw [show q = 4 from by simpa [Kd.bool, Kd.scalar] using hq]; decide) hg)
  have HD5 := blk_grown HD4.out hg (fun e => by have h2 := hlt.out _ e.symm; have := hsz.out; omega)
  have d0 : w5.cell? ⟨w3.heap.size, 0, none⟩ = some (Value.slice a0 (fstL (ofL fs fs.length)).length b0) := blk_cell HD5 0
  have d1 : w5.cell? ⟨w3.heap.size, 1, none⟩ = some (Value.slice a1 (sndL (ofL fs fs.length)).length b1) := blk_cell HD5 1
  have hP := Lib.hid (plays_core _ P B _ _ A1 c1 xs A2 c2 ys w _ HI5 ⟨Kd.R_lower (ownI H05.out) hw2.out⟩ ⟨Kd.R_lower (ownB H15.out) hw2.out⟩ hr1 hr2 hc hT)
  clear HI4 HO4 H04 H14 HD4 HD5 hS hg HI5 H05 H15 hw2 hsz hlt
  go_wp2_with fail
  refine hP.out.mono ?_
  rintro e w6 ⟨rfl, hb⟩
  have HB := Aside0.mk hb
  clear hP hb
  go_wp2_with fail
  refine (hW.out _ HB.out).mono ?_
  rintro e w7 ⟨rfl, hb⟩
  have HB2 := Aside0.mk (HB.out.trans (hb.mono HB.out.size))
  clear hW hb HB
  go_wp2
  go_ret
  exact ⟨rfl, HB2.out⟩
end Go.Proofs.YtoiofemekcnlbaaDoor.PQ
