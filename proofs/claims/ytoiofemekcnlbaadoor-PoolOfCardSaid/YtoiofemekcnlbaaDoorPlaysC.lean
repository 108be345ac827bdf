/- The law's own play, walked. -/
import Derived.Test.YtoiofemekcnlbaaDoorRefAt
import Derived.Test.YtoiofemekcnlbaaDoorSpoil
import Derived.Test.YtoiofemekcnlbaaDoorPQx9
import Derived.Outline
import Derived.RegionTactic
import Derived.BigRegion
import Derived.Deep.RegionHeld3
import Derived.Deep.DeepCutAuto
namespace Go.Proofs.YtoiofemekcnlbaaDoor.PQ
open Go.RowKit Go.Proofs.YtoiofemekcnlbaaDoorW.PrintWords Go.Proofs.YtoiofemekcnlbaaDoorW.PrintLast Go.Proofs.YtoiofemekcnlbaaDoorW.PrintMore
set_option linter.unusedVariables false
set_option linter.unusedSimpArgs false
theorem sameInts_l (l : List Int) (hl : l.length ≤ 64) : ∀ (d k i : Nat), i + d = l.length → d < k → decklebook_SameInts.l0 k l l true (i : Int) = some true
  | 0, k, i, h, hk => by
    obtain ⟨k, rfl⟩ : ∃ m, k = m + 1 := ⟨k - 1, by omega⟩
    rw [decklebook_SameInts.l0, if_pos rfl, if_neg (by omega)]
  | d + 1, k, i, h, hk => by
    obtain ⟨k, rfl⟩ : ∃ m, k = m + 1 := ⟨k - 1, by omega⟩
    have ih := sameInts_l l hl d k (i + 1) (by omega) (by omega)
    have e : ((rd l (i : Int)) == (rd l (i : Int))) = true := beq_iff_eq.2 rfl
    rw [decklebook_SameInts.l0, if_pos rfl, if_pos (by omega), if_pos (by omega), if_pos (by omega), e, w64 i (by omega)]
    exact ih
theorem sameInts (l : List Int) (hl : l.length ≤ 64) : decklebook_SameInts.f 100 l l = some true := by
  unfold decklebook_SameInts.f
  rw [beq_iff_eq.2 rfl]
  exact sameInts_l l hl l.length 100 0 (by omega) (by omega)
/-- What stays while the answers are compared. -/
structure KK (w5 : World) (v : Value) (res : List Int) (w : World) : Prop where
  below : Below w5.heap.size w5 w
  got : OwnI w w5.heap.size v res
theorem KK.belowW {w5 w w' : World} {v : Value} {res : List Int} (h : KK w5 v res w) (c : Below w.heap.size w w') : KK w5 v res w' := ⟨h.below.trans (c.mono h.below.size), Kd.R_below h.got c⟩
theorem KK.alloc {w5 w : World} {v : Value} {res : List Int} (h : KK w5 v res w) (o : Obj) : KK w5 v res (w.alloc o) := h.belowW ((Below.refl _ _).alloc (Nat.le_refl _) _)
theorem KK.drew {w5 w : World} {v : Value} {res : List Int} (h : KK w5 v res w) : KK w5 v res w.drew := h.belowW (drawn_any ⟨⟨1, rfl⟩⟩)
theorem KK.drewN {w5 w : World} {v : Value} {res : List Int} (h : KK w5 v res w) (n : Nat) : KK w5 v res (w.drewN n) := h.belowW (drawn_any ⟨⟨n, rfl⟩⟩)
theorem role_in (l : List (Int × Bool)) (P B : Nat) (i : Int) (w : World) (H : PoolAt l P B w) (h : okI l i) : Calls Tryd.prog 19 #[.pointer (some ⟨P, 0, none⟩), .int .i64 i] w fun e w' => e = .returned (.int .i64 (rl l i)) ∧ w' = w := by
  have := role_calls l P B i w H; rw [if_pos h] at this; exact this
theorem role_out (l : List (Int × Bool)) (P B : Nat) (i : Int) (w : World) (H : PoolAt l P B w) (h : ¬ okI l i) : Calls Tryd.prog 19 #[.pointer (some ⟨P, 0, none⟩), .int .i64 i] w fun e w' => e = .returned (.int .i64 6) ∧ w' = w := by
  have := role_calls l P B i w H; rw [if_neg h] at this; exact this
theorem worn_in (l : List (Int × Bool)) (P B : Nat) (i : Int) (w : World) (H : PoolAt l P B w) (h : okI l i) : Calls Tryd.prog 14 #[.pointer (some ⟨P, 0, none⟩), .int .i64 i] w fun e w' => e = .returned (.bool (wn l i)) ∧ w' = w := by
  have := worn_calls l P B i w H; rw [if_pos h] at this; exact this
theorem worn_out (l : List (Int × Bool)) (P B : Nat) (i : Int) (w : World) (H : PoolAt l P B w) (h : ¬ okI l i) : Calls Tryd.prog 14 #[.pointer (some ⟨P, 0, none⟩), .int .i64 i] w fun e w' => e = .returned (.bool false) ∧ w' = w := by
  have := worn_calls l P B i w H; rw [if_neg h] at this; exact this
theorem getKK {p q r s : Prop} {w5 w : World} {v : Value} {res : List Int} (h : p ∧ q ∧ r ∧ s ∧ Aside0 (KK w5 v res w)) : KK w5 v res w := h.2.2.2.2.out
theorem JJ.cells {l l' : List (Int × Bool)} {P B D X : Nat} {v0 v1 : Value} {y0 y1 y2 : Int} {w0 w : World} (h : JJ l l' P B D X v0 v1 y0 y1 y2 w0 w) :
    w.cell? ⟨X, 0, none⟩ = some (.int .i64 y0) ∧ w.cell? ⟨X, 1, none⟩ = some (.int .i64 y1) ∧ w.cell? ⟨X, 2, none⟩ = some (.int .i64 y2) ∧ w.cell? ⟨D, 0, none⟩ = some v0 ∧ w.cell? ⟨D, 1, none⟩ = some v1 :=
  ⟨blk_cell h.act 0, blk_cell h.act 1, blk_cell h.act 2, blk_cell h.ref.box 0, blk_cell h.ref.box 1⟩
theorem JJ.slices {l l' : List (Int × Bool)} {P B D X : Nat} {v0 v1 : Value} {y0 y1 y2 : Int} {w0 w : World} (h : JJ l l' P B D X v0 v1 y0 y1 y2 w0 w) : (∃ a b, v0 = .slice a l'.length b) ∧ ∃ a b, v1 = .slice a l'.length b := by
  obtain ⟨a, b, e⟩ := Kd.R_slice h.ref.r0
  obtain ⟨a', b', e'⟩ := Kd.R_slice h.ref.r1
  rw [fstL_len] at e
  rw [sndL_len] at e'
  exact ⟨⟨a, b, e⟩, a', b', e'⟩
theorem JJ.elem {l l' : List (Int × Bool)} {P B D X : Nat} {a0 a1 : Option Addr} {n b0 b1 : Nat} {y0 y1 y2 : Int} {w0 w : World} (h : JJ l l' P B D X (.slice a0 n b0) (.slice a1 n b1) y0 y1 y2 w0 w) (k : Nat) (hk : k < l'.length) :
    ∃ g0 g1, a0 = some ⟨g0, 0, none⟩ ∧ a1 = some ⟨g1, 0, none⟩ ∧ w.cell? ⟨g0, k, none⟩ = some (.int .i64 (rl l' k)) ∧ w.cell? ⟨g1, k, none⟩ = some (.bool (wn l' k)) := by
  obtain ⟨g0, c0, e0, _, _, _⟩ := Kd.R_form h.ref.r0 (by rw [fstL_len]; omega)
  obtain ⟨g1, c1, e1, _, _, _⟩ := Kd.R_form h.ref.r1 (by rw [sndL_len]; omega)
  injection e0 with e0 en _
  injection e1 with e1 en1 _
  subst e0 e1
  have h0 := (Kd.R_celln 0 h.ref.r0 (k : Int) (by omega) (by rw [en, fstL_len]; omega)).1
  have h1 := (Kd.R_celln false h.ref.r1 (k : Int) (by omega) (by rw [en1, sndL_len]; omega)).1
  rw [Int.toNat_natCast] at h0 h1
  exact ⟨g0, g1, rfl, rfl, by rw [h0, ← rd_fst]; rfl, by rw [h1, ← rd_snd]⟩
theorem c27_of {l : List (Int × Bool)} {D base : Nat} {a0 a1 : Option Addr} {n b0 b1 : Nat} {w : World} (h : RefAt l D base (.slice a0 n b0) (.slice a1 n b1) w) (hl : l.length ≤ 64) :
    Calls Tryd.prog 27 #[.agg #[.slice a0 n b0, .slice a1 n b1]] w fun e w' => e = .returned (.int .i64 (badsK l l.length)) ∧ Below w.heap.size w w' := by
  obtain ⟨e0, e1, e2⟩ := Kd.R_reads' h.r0
  obtain ⟨f0, f1, f2⟩ := Kd.R_reads' h.r1
  have := deckleref21_Bads.calls 100 a0 b0 (fstL l) a1 b1 (sndL l) _ w e2 (e0 ▸ e1) f2 (f0 ▸ f1) (refBads l hl)
  rw [← e0, ← f0] at this
  exact this
theorem c28_of {l : List (Int × Bool)} {D base : Nat} {a0 a1 : Option Addr} {n b0 b1 : Nat} {w : World} (h : RefAt l D base (.slice a0 n b0) (.slice a1 n b1) w) (hl : l.length ≤ 64) (A : Option Addr) (c m : Nat) (ys : List Int) (hm : ys.length = m) (hc : m ≤ c) (hy : m ≤ 64) (hr : Kd.C (Kd.int .i64) w A m ys) :
    Calls Tryd.prog 28 #[.agg #[.slice a0 n b0, .slice a1 n b1], .slice A m c] w fun e w' => ∃ a' c', e = .returned (.slice a' (listK l ys l.length).length c') ∧ Kd.C (Kd.int .i64) w' a' (listK l ys l.length).length (listK l ys l.length) ∧ (listK l ys l.length).length ≤ c' ∧ Below w.heap.size w w' := by
  subst hm
  obtain ⟨e0, e1, e2⟩ := Kd.R_reads' h.r0
  obtain ⟨f0, f1, f2⟩ := Kd.R_reads' h.r1
  have := deckleref21_List.calls 5000 a0 b0 (fstL l) a1 b1 (sndL l) A c ys _ w e2 (e0 ▸ e1) f2 (f0 ▸ f1) hr hc (refList l ys hl hy)
  rw [← e0, ← f0] at this
  refine this.mono fun e w' hh => ?_
  obtain ⟨v, h1, h2, h3⟩ := hh
  obtain ⟨a', c', rfl⟩ := Kd.R_slice h2
  exact ⟨a', c', h1, (Kd.R_reads' h2).2.2, (Kd.R_reads' h2).2.1, h3⟩
set_option maxHeartbeats 8000000 in
set_option maxRecDepth 100000 in
theorem plays_core (l : List (Int × Bool)) (P B : Nat) (v0 v1 : Value) (A2 : Option Addr) (c2 : Nat) (xs : List S30) (A3 : Option Addr) (c3 : Nat) (ys : List Int) (w0 w : World) (hI : Aside0 (Inv l P B w0 w)) (hV0 : Aside0 (OwnI w w0.heap.size v0 (fstL l))) (hV1 : Aside0 (OwnB w w0.heap.size v1 (sndL l)))
    (hr2 : Aside0 (Kd.C k30 w0 A2 xs.length xs)) (hr3 : Aside0 (Kd.C (Kd.int .i64) w0 A3 ys.length ys)) (hc3 : Hid (ys.length ≤ c3 ∧ ys.length ≤ 50)) (hT : Aside0 (Tabs w0)) :
    Calls Tryd.prog 17 #[.pointer (some ⟨P, 0, none⟩), .agg #[v0, v1], .slice A2 xs.length c2, .slice A3 ys.length c3] w fun e w' => e = .returned (.bool true) ∧ Below w0.heap.size w0 w' := by
  have hmax := Kd.C_max hr2.out
  have HJ : Aside0 (RefAt l w.heap.size w0.heap.size v0 v1 (w.alloc (.cells #[v0, v1] 41))) := ⟨heap_alloc_new w _, Kd.R_below hV0.out ((Below.refl _ _).alloc (Nat.le_refl _) _), Kd.R_below hV1.out ((Below.refl _ _).alloc (Nat.le_refl _) _)⟩
  have HI := Aside0.mk (hI.out.alloc (.cells #[v0, v1] 41))
  have hD := Lib.hid hI.out.below.size
  clear hI hV0 hV1
  go_enter Tryd.func17, Tryd.ntmps17
  go_wp2_with fail
  generalize hW : w.alloc (.cells #[v0, v1] 41) = W at *
  clear hW
  generalize w.heap.size = D at *
  go_loopw [9] (fun i wr => ∃ k : Nat, k ≤ xs.length ∧ i = .int .i64 k ∧ Aside0 (∃ l v0 v1, Inv l P B w0 wr ∧ RefAt l D w0.heap.size v0 v1 wr)) (fun i _ => xs.length - (intOf i).toNat)
  case atStart => exact ⟨0, by omega, rfl, ⟨l, v0, v1, HI.out, HJ.out⟩⟩
  case round =>
    clear HI HJ
    obtain ⟨k, hk, rfl, ⟨l, v0, v1, hI, hRf⟩⟩ := hrel
    by_cases hlt : k < xs.length ∧ k < 100
    · have yk : decide ((k : Int) < (xs.length : Int)) = true := decide_eq_true (by omega)
      have yk2 : decide ((k : Int) < 100) = true := decide_eq_true (by omega)
      obtain ⟨ad, e1, hx0, hx1, hx2⟩ := at_T30 (Kd.C_below hr2.out hI.below) (k : Int) (by omega) (by omega)
      cases e1
      rw [Int.toNat_natCast] at hx0 hx1 hx2
      generalize (rd_T30 xs (k : Int)).f0 = y0 at *
      generalize (rd_T30 xs (k : Int)).f1 = y1 at *
      generalize (rd_T30 xs (k : Int)).f2 = y2 at *
      have HJ : Aside0 (JJ l l P B D wr.heap.size v0 v1 y0 y1 y2 w0 (wr.alloc (.cells #[.int .i64 y0, .int .i64 y1, .int .i64 y2] 30))) := ⟨hI.alloc _, hRf.below ((Below.refl _ _).alloc (Nat.le_refl _) _), heap_alloc_new wr _, hD.out⟩
      have hlen := Lib.hid hI.at_.len
      have hmay := Lib.hid hI.at_.may
      clear hI hRf
      go_upto_if 32 with (fail)
      generalize hX : wr.heap.size = X at *
      generalize hW1 : wr.alloc (.cells #[.int .i64 y0, .int .i64 y1, .int .i64 y2] 30) = W1 at *
      clear hX hW1 hx0 hx1 hx2
      go_cut [11, 12] (fun c d wx => ∃ (cc : Int), c = .int .i64 cc ∧ d = .int .i64 cc ∧ Aside0 (∃ l2 u0 u1, JJ l2 l2 P B D X u0 u1 y0 y1 y2 w0 wx))
      case first =>
        by_cases h0 : y0 = 0
        · subst h0
          have hA := Lib.hid (HJ.out.to hT.out y1 y2)
          obtain ⟨d0, d1, d2, d3, d4⟩ := HJ.out.cells
          go_wp2_with fail
          refine hA.out.mono ?_
          rintro e w1 ⟨rfl, HJ1⟩
          clear hA HJ d0 d1 d2 d3 d4
          obtain ⟨d0, d1, d2, d3, d4⟩ := HJ1.out.cells
          have hA := Lib.hid (HJ1.out.refTo hlen.out.2 hmay.out y1 y2)
          go_wp2_with fail
          refine hA.out.mono ?_
          rintro e w2 ⟨⟨u0, u1, rfl, hd, HJ2⟩⟩
          clear d0 d1 d2 d3 d4 hA HJ1
          obtain ⟨⟨a0, b0, rfl⟩, ⟨a1, b1, rfl⟩⟩ := HJ2.out.slices
          have d3 := (blk_cell hd 0).trans (rfl : _ = some v0)
          have d4 := (blk_cell hd 1).trans (rfl : _ = some v1)
          have f3 := blk_frozen hd 0
          have f4 := blk_frozen hd 1
          clear hd
          go_wp2
          go_meet
          exact ⟨_, rfl, rfl, ⟨_, _, _, HJ2.out⟩⟩
        · have g0 : (y0 == 0) = false := beq_eq_false_iff_ne.2 h0
          have hA := Lib.hid (HJ.out.wear y1)
          obtain ⟨d0, d1, d2, d3, d4⟩ := HJ.out.cells
          clear h0
          go_wp2_with fail
          refine hA.out.mono ?_
          rintro e w1 ⟨rfl, HJ1⟩
          clear hA HJ d0 d1 d2 d3 d4
          obtain ⟨d0, d1, d2, d3, d4⟩ := HJ1.out.cells
          have hA := Lib.hid (HJ1.out.refWear hlen.out.2 y1)
          go_wp2_with fail
          refine hA.out.mono ?_
          rintro e w2 ⟨⟨u0, u1, rfl, hd, HJ2⟩⟩
          clear d0 d1 d2 d3 d4 hA HJ1
          obtain ⟨⟨a0, b0, rfl⟩, ⟨a1, b1, rfl⟩⟩ := HJ2.out.slices
          have d3 := (blk_cell hd 0).trans (rfl : _ = some v0)
          have d4 := (blk_cell hd 1).trans (rfl : _ = some v1)
          have f3 := blk_frozen hd 0
          have f4 := blk_frozen hd 1
          clear hd
          go_wp2
          go_meet
          exact ⟨_, rfl, rfl, ⟨_, _, _, HJ2.out⟩⟩
      case rest =>
        obtain ⟨cc, rfl, rfl, ⟨l2, u0, u1, HJ2⟩⟩ := hcut
        replace HJ2 := Aside0.mk HJ2
        clear HJ hlen hmay
        obtain ⟨⟨a0, b0, rfl⟩, ⟨a1, b1, rfl⟩⟩ := HJ2.out.slices
        generalize wc = W3 at *
        obtain ⟨d0, d1, d2, d3, d4⟩ := HJ2.out.cells
        have hlen2 := Lib.hid HJ2.out.inv.at_.len
        obtain ⟨bb, hbb⟩ : ∃ b, b = decide (okI l2 y1) := ⟨_, rfl⟩
        go_upto_region 12 with (fail)
        go_cut [69] (fun b wx => b = .bool bb ∧ wx = W3)
        case first =>
          by_cases h0 : 0 ≤ y1
          · have z1 : decide (0 ≤ y1) = true := decide_eq_true h0
            by_cases h1 : y1 < (l2.length : Int)
            · have z2 : decide (y1 < (l2.length : Int)) = true := decide_eq_true h1
              have hb : bb = true := hbb.trans (decide_eq_true ⟨h0, h1⟩)
              subst hb
              clear h0 h1 hbb
              go_wp2
              go_meet
              exact ⟨rfl, rfl⟩
            · have z2 : decide (y1 < (l2.length : Int)) = false := decide_eq_false h1
              have hb : bb = false := hbb.trans (decide_eq_false (fun h => h1 h.2))
              subst hb
              clear h0 h1 hbb
              go_wp2
              go_meet
              exact ⟨rfl, rfl⟩
          · have z1 : decide (0 ≤ y1) = false := decide_eq_false h0
            have hb : bb = false := hbb.trans (decide_eq_false (fun h => h0 h.1))
            subst hb
            clear h0 hbb
            go_wp2
            go_meet
            exact ⟨rfl, rfl⟩
        case rest =>
          obtain ⟨rfl, rfl⟩ := hcut
          have hbb' := Lib.hid hbb
          clear hbb
          go_upto_if 69 with (fail)
          go_cut [13, 14] (fun r s wx => ∃ (rr : Int) (ww : Bool), r = .int .i64 rr ∧ s = .bool ww ∧ wx = wc ∧ Hid (∀ w', PoolAt l2 P B w' → Calls Tryd.prog 19 #[.pointer (some ⟨P, 0, none⟩), .int .i64 y1] w' fun e w'' => e = .returned (.int .i64 rr) ∧ w'' = w') ∧ Hid (∀ w', PoolAt l2 P B w' → Calls Tryd.prog 14 #[.pointer (some ⟨P, 0, none⟩), .int .i64 y1] w' fun e w'' => e = .returned (.bool ww) ∧ w'' = w'))
          case first =>
            cases hc : bb with
            | true =>
              have hok : okI l2 y1 := of_decide_eq_true (hbb'.out.symm.trans hc)
              have c19 := Lib.hid fun w' hw => (role_in l2 P B y1 w' hw hok : Calls Tryd.prog 19 #[.pointer (some ⟨P, 0, none⟩), .int .i64 y1] w' fun e w'' => e = .returned (.int .i64 (rl l2 y1)) ∧ w'' = w')
              have c14 := Lib.hid fun w' hw => (worn_in l2 P B y1 w' hw hok : Calls Tryd.prog 14 #[.pointer (some ⟨P, 0, none⟩), .int .i64 y1] w' fun e w'' => e = .returned (.bool (wn l2 y1)) ∧ w'' = w')
              obtain ⟨k1, rfl⟩ := Int.eq_ofNat_of_zero_le hok.1
              have hk1 : k1 < l2.length := by have := hok.2; omega
              obtain ⟨g0, g1, rfl, rfl, he0, he1⟩ := HJ2.out.elem k1 hk1
              clear hok hc hbb'
              generalize rl l2 (k1 : Int) = rr at *
              generalize wn l2 (k1 : Int) = ww at *
              go_wp2
              go_meet
              exact ⟨rr, ww, rfl, rfl, rfl, c19, c14⟩
            | false =>
              have hok : ¬ okI l2 y1 := of_decide_eq_false (hbb'.out.symm.trans hc)
              have c19 := Lib.hid fun w' hw => (role_out l2 P B y1 w' hw hok : Calls Tryd.prog 19 #[.pointer (some ⟨P, 0, none⟩), .int .i64 y1] w' fun e w'' => e = .returned (.int .i64 6) ∧ w'' = w')
              have c14 := Lib.hid fun w' hw => (worn_out l2 P B y1 w' hw hok : Calls Tryd.prog 14 #[.pointer (some ⟨P, 0, none⟩), .int .i64 y1] w' fun e w'' => e = .returned (.bool false) ∧ w'' = w')
              clear hok hc hbb'
              go_wp2
              go_meet
              exact ⟨6, false, rfl, rfl, rfl, c19, c14⟩
          case rest =>
            obtain ⟨rr, ww, rfl, rfl, rfl, c19, c14⟩ := hcut
            clear hbb'
            generalize wc = W3 at *
            have hL := Lib.hid (list_core l2 P B A3 c3 ys W3 ⟨HJ2.out.inv.at_⟩ ⟨Kd.C_below hr3.out HJ2.out.inv.below⟩ (Lib.hid ⟨hc3.out.1, by have := hc3.out.2; omega⟩))
            go_wp2_with fail
            refine hL.out.mono ?_
            rintro e w6 ⟨⟨v, rfl, hR, hB⟩⟩
            obtain ⟨A9, c9, rfl⟩ := Kd.R_slice hR
            have HK := Aside0.mk (show KK W3 (.slice A9 (listK l2 ys l2.length).length c9) (listK l2 ys l2.length) w6 from ⟨hB, ownI hR⟩)
            have hres := Lib.hid (show (listK l2 ys l2.length).length ≤ 64 from Nat.le_trans (listK_len l2 ys l2.length) hlen2.out.2)
            have c28 := Lib.hid fun w' (hk : KK W3 (.slice A9 (listK l2 ys l2.length).length c9) (listK l2 ys l2.length) w') => c28_of (HJ2.out.below hk.below).ref hlen2.out.2 A3 c3 ys.length ys rfl hc3.out.1 (by have := hc3.out.2; omega) (Kd.C_below hr3.out (HJ2.out.inv.below.trans (hk.below.mono HJ2.out.inv.below.size)))
            have c28' := Lib.hid fun w' (hk : KK W3 (.slice A9 (listK l2 ys l2.length).length c9) (listK l2 ys l2.length) w') (A : Option Addr) (hr : Kd.C (Kd.int .i64) w' A 1 [y2]) => c28_of (HJ2.out.below hk.below).ref hlen2.out.2 A 1 1 [y2] rfl (by decide) (by decide) hr
            clear hR hB hL
            generalize hres0 : listK l2 ys l2.length = res at *
            clear hres0
            have c29 := Lib.hid fun w' (hk : KK W3 (.slice A9 res.length c9) res w') (A : Option Addr) (c : Nat) (hr : Kd.C (Kd.int .i64) w' A res.length res) (hc : res.length ≤ c) => decklebook_SameInts.calls 100 A9 c9 res A c res true w' (Kd.R_reads' hk.got).2.2 (Kd.R_reads' hk.got).2.1 hr hc (sameInts res hres.out)
            have c15 := Lib.hid fun w' (hk : KK W3 (.slice A9 res.length c9) res w') => (bads_core l2 P B w' ⟨(HJ2.out.below hk.below).inv.at_⟩)
            have c27 := Lib.hid fun w' (hk : KK W3 (.slice A9 res.length c9) res w') => (c27_of (HJ2.out.below hk.below).ref hlen2.out.2)
            have c12 := Lib.hid fun w' (hk : KK W3 (.slice A9 res.length c9) res w') => (count_core l2 P B y2 w' ⟨(HJ2.out.below hk.below).inv.at_⟩)
            have k19 := Lib.hid fun w' (hk : KK W3 (.slice A9 res.length c9) res w') => c19.out w' (HJ2.out.below hk.below).inv.at_
            have k14 := Lib.hid fun w' (hk : KK W3 (.slice A9 res.length c9) res w') => c14.out w' (HJ2.out.below hk.below).inv.at_
            have hss := Lib.hid fun (w' : World) (hk : KK W3 (.slice A9 res.length c9) res w') => (show w'.cell? ⟨X, 1, none⟩ = some (.int .i64 y1) ∧ w'.cell? ⟨X, 2, none⟩ = some (.int .i64 y2) ∧ w'.cell? ⟨D, 0, none⟩ = some (.slice a0 l2.length b0) ∧ w'.cell? ⟨D, 1, none⟩ = some (.slice a1 l2.length b1) ∧ Aside0 (KK W3 (.slice A9 res.length c9) res w') from ⟨(HJ2.out.below hk.below).cells.2.1, (HJ2.out.below hk.below).cells.2.2.1, (HJ2.out.below hk.below).cells.2.2.2.1, (HJ2.out.below hk.below).cells.2.2.2.2, ⟨hk⟩⟩)
            generalize badsK l2 l2.length = nb at *
            generalize (listK l2 [y2] l2.length).length = nc at *
            go_wp2_with fail
            clear c19 c14 d0 d1 d2 d3 d4
            go_region_held3 (fun w' => w'.cell? ⟨X, 1, none⟩ = some (.int .i64 y1) ∧ w'.cell? ⟨X, 2, none⟩ = some (.int .i64 y2) ∧ w'.cell? ⟨D, 0, none⟩ = some (.slice a0 l2.length b0) ∧ w'.cell? ⟨D, 1, none⟩ = some (.slice a1 l2.length b1) ∧ Aside0 (KK W3 (.slice A9 res.length c9) res w')) ((refine hss.out _ ?_; (with_reducible repeat (first | exact Aside0.out (by assumption) | exact getKK (by assumption) | refine KK.drew ?_ | refine KK.drewN ?_ _ | refine KK.alloc ?_ _))))
              (first | (go_at_call 19; refine (k19.out _ ?s1).mono ?_; (case s1 => exact getKK (by assumption)); rintro e w' ⟨rfl, rfl⟩) | (go_at_call 14; refine (k14.out _ ?s2).mono ?_; (case s2 => exact getKK (by assumption)); rintro e w' ⟨rfl, rfl⟩) | (go_at_call 15; refine (c15.out _ ?s3).mono ?_; (case s3 => exact getKK (by assumption)); rintro e w' ⟨rfl, hb⟩; have hk := Aside0.mk (KK.belowW (getKK (by assumption)) hb)) | (go_at_call 27; refine (c27.out _ ?s4).mono ?_; (case s4 => exact getKK (by assumption)); rintro e w' ⟨rfl, hb⟩; have hk := Aside0.mk (KK.belowW (getKK (by assumption)) hb)) | (go_at_call 12; refine (c12.out _ ?s5).mono ?_; (case s5 => exact getKK (by assumption)); rintro e w' ⟨rfl, hb⟩; have hk := Aside0.mk (KK.belowW (getKK (by assumption)) hb)) | (go_at_call 28; (with_reducible refine (c28.out _ ?s6).mono ?_); (case s6 => exact getKK (by assumption)); rintro e w' ⟨a8, c8, rfl, hC8, hcc8, hb⟩; have hk := Aside0.mk (KK.belowW (getKK (by assumption)) hb); have HC8 := Aside0.mk hC8; have HCC8 := Lib.hid hcc8; clear hC8 hcc8) | (go_at_call 28; (with_reducible refine (c28'.out _ ?s7 _ ?s8).mono ?_); (case s7 => exact getKK (by assumption)); (case s8 => first | exact C_lit _ [y2] 3 (by simp) | exact Kd.C_below (C_lit _ [y2] 3 (by simp)) (by assumption)); rintro e w' ⟨a7, c7, rfl, hC7, hcc7, hb⟩; have hk := Aside0.mk (KK.belowW (getKK (by assumption)) hb); clear hC7 hcc7) | (go_at_call 29; refine (c29.out _ ?s9 _ _ HC8.out HCC8.out).mono ?_; (case s9 => exact getKK (by assumption)); rintro e w' ⟨rfl, hd⟩; have hk := Aside0.mk (KK.belowW (getKK (by assumption)) (drawn_any hd))))
            all_goals
              have HB9 := Lib.hid fun (w' : World) (hg : World.grownBy _ w' _) => (HJ2.out.below (hk.out.below.grown hg hk.out.below.size (fun j hj => Kd.R_base hk.out.got j hj)))
              have hsp := Lib.hid (spoil _ res _ _ _ hk.out.got)
              go_wp2_with fail
              refine hsp.out.mono ?_
              rintro e w9 ⟨rfl, hg⟩
              have JJ9 := Aside0.mk (HB9.out w9 hg)
              clear hg HB9 hsp
              go_wp2
              go_roundw
              case rel => exact ⟨k + 1, by omega, by go_num, ⟨l2, _, _, JJ9.out.inv, JJ9.out.ref⟩⟩
              case measure => simp [intOf]; omega
    · have hx : xs.length ≤ k ∨ (k < xs.length ∧ 100 ≤ k) := by omega
      have fin := Aside0.mk hI.below
      clear hI hRf hlt hr2
      rcases hx with yk | ⟨yk, yk2⟩
      · go_wp2
        go_ret
        exact ⟨rfl, fin.out⟩
      · go_wp2
        go_ret
        exact ⟨rfl, fin.out⟩
end Go.Proofs.YtoiofemekcnlbaaDoor.PQ
