/- SpanPlays walked. -/
import Derived.Test.YtaandjafmmpbkaaAskd
import Derived.Test.YtaandjafmmpbkaaAct
import Derived.Deep.CutBlock
import Derived.Outline
import Derived.OwnWalk
import Derived.Deep.RegionHeld3
import Derived.Deep.DeepCutAuto
namespace Go.Proofs.Ytaandjafmmpbkaa.PQ
open Go.RowKit Go.Proofs.YtaandjafmmpbkaaW.PrintWords Go.Proofs.YtaandjafmmpbkaaW.PrintLast Go.Proofs.YtaandjafmmpbkaaW.PrintMore
set_option linter.unusedVariables false
set_option linter.unusedSimpArgs false
/-- The document's list as the law holds it: a slice of the call's own, in another block than the set's. -/
abbrev DAt (P base : Nat) (L : List S27) (u : Value) (w : World) : Prop := Kd.R Kd.bool 4 w base (fun k => k ≠ P) u (dOf (inB L))
theorem DAt.slice {P base : Nat} {L : List S27} {u : Value} {w : World} (h : DAt P base L u w) : ∃ A c, u = .slice A 4096 c := by
  obtain ⟨A, c, e⟩ := Kd.R_slice h
  rw [dOf_len] at e
  exact ⟨A, c, e⟩
theorem DAt.read {P base : Nat} {L : List S27} {A : Option Addr} {c : Nat} {w : World} (h : DAt P base L (.slice A 4096 c) w) : 4096 ≤ c ∧ Kd.C Kd.bool w A 4096 (dOf (inB L)) := by
  have := Kd.R_reads' h
  rw [dOf_len] at this
  exact ⟨this.2.1, this.2.2⟩
theorem DAt.ch {P base : Nat} {L : List S27} {u : Value} {w w' : World} (h : DAt P base L u w) (hc : Ch (fun k => k = P) w w') : DAt P base L u w' :=
  Kd.R_step h (fun k ho hk => hc.block k hk ho)
theorem next_uniq {L : List S27} {n x y : Int} (h : NextP L n x) (k : NextP L n y) : x = y := by
  rcases h with ⟨h1, h2⟩ | ⟨h1, h2, h3⟩ <;> rcases k with ⟨k1, k2⟩ | ⟨k1, k2, k3⟩
  · rw [h1, k1]
  · exact absurd k2 (h2 y k1)
  · exact absurd h2 (k2 x h1)
  · rcases Int.lt_trichotomy x y with e | e | e
    · exact absurd h2 (k3 x h1 e)
    · exact e
    · exact absurd k2 (h3 y k1 e)
theorem next_ex {L : List S27} (hs : Sp (-1) L) (n : Int) : ∃ x, NextP L n x := by
  obtain ⟨i, hi⟩ := Int.eq_ofNat_of_zero_le (show 0 ≤ max n 0 by omega)
  by_cases c : i ≤ 4096
  · obtain ⟨y, hy, hq⟩ := refNext_l0 (inB L) (4096 - i) 5000 i (by omega) (by omega)
    refine ⟨y, ?_⟩
    unfold NextP
    rw [hi]
    rcases hq with ⟨q1, q2⟩ | ⟨q1, q2, q3, q4⟩
    · exact .inl ⟨q1, fun m hm hh => q2 m hm (Sp_in hs m hh).2 hh⟩
    · exact .inr ⟨q1, q3, q4⟩
  · refine ⟨-1, .inl ⟨rfl, fun m hm hh => ?_⟩⟩
    have := Sp_in hs m hh
    omega
theorem has_next {L : List S27} (hs : Sp (-1) L) {n x : Int} (h : NextP L n x) : (0 ≤ n → inB L n = (x == n)) ∧ (n < 0 → inB L n = false) := by
  constructor
  · intro h0
    rw [Bool.eq_iff_iff, beq_iff_eq]
    have hmx : max n 0 = n := by omega
    unfold NextP at h
    rw [hmx] at h
    constructor
    · intro hh
      rcases h with ⟨h1, h2⟩ | ⟨h1, h2, h3⟩
      · exact absurd hh (h2 n (Int.le_refl _))
      · rcases Int.lt_trichotomy x n with e | e | e
        · omega
        · exact e
        · exact absurd hh (h3 n (Int.le_refl _) e)
    · rintro rfl
      rcases h with ⟨h1, h2⟩ | ⟨h1, h2, h3⟩
      · omega
      · exact h2
  · intro h0
    rw [← Bool.not_eq_true]
    intro hh
    have := Sp_in hs n hh
    omega
/-- The law's set and list (of the numbers of L and of L2), and the call, in a block of its own. -/
structure JA (L L2 : List S27) (P X : Nat) (y0 y1 y2 y3 : Int) (d : Value) (w0 w : World) : Prop where
  law : LawAt L P w0 w
  ref : DAt P w0.heap.size L2 d w
  act : w.heap[X]? = some (.cells #[.int .i64 y0, .int .i64 y1, .int .i64 y2, .int .i64 y3] 29 (0, 0))
  far : P < X
section
variable {L L2 : List S27} {P X : Nat} {y0 y1 y2 y3 : Int} {d : Value} {w0 w w' : World}
theorem JA.belowW (h : JA L L2 P X y0 y1 y2 y3 d w0 w) (c : Below w.heap.size w w') : JA L L2 P X y0 y1 y2 y3 d w0 w' := ⟨h.law.below c, Kd.R_below h.ref c, blk_below h.act c, h.far⟩
theorem JA.alloc (h : JA L L2 P X y0 y1 y2 y3 d w0 w) (o : Obj) : JA L L2 P X y0 y1 y2 y3 d w0 (w.alloc o) := h.belowW ((Below.refl _ _).alloc (Nat.le_refl _) _)
theorem JA.drew (h : JA L L2 P X y0 y1 y2 y3 d w0 w) : JA L L2 P X y0 y1 y2 y3 d w0 w.drew := h.belowW (drawn_any ⟨⟨1, rfl⟩⟩)
theorem JA.drewN (h : JA L L2 P X y0 y1 y2 y3 d w0 w) (n : Nat) : JA L L2 P X y0 y1 y2 y3 d w0 (w.drewN n) := h.belowW (drawn_any ⟨⟨n, rfl⟩⟩)
theorem JA.cells (h : JA L L2 P X y0 y1 y2 y3 d w0 w) : w.cell? ⟨X, 0, none⟩ = some (.int .i64 y0) ∧ w.cell? ⟨X, 1, none⟩ = some (.int .i64 y1) ∧ w.cell? ⟨X, 2, none⟩ = some (.int .i64 y2) ∧ w.cell? ⟨X, 3, none⟩ = some (.int .i64 y3) :=
  ⟨blk_cell h.act 0, blk_cell h.act 1, blk_cell h.act 2, blk_cell h.act 3⟩
theorem JA.add (h : JA L L2 P X y0 y1 y2 y3 d w0 w) : Calls Try.prog 8 #[.pointer (some ⟨P, 0, none⟩), .agg #[.int .i64 y2, .int .i64 y3]] w fun e w' => e = .returned (.int .i64 (codeM y2 y3)) ∧ Aside0 (∃ L', JA L' L2 P X y0 y1 y2 y3 d w0 w' ∧ AddP L L' y2 y3) := by
  refine (law_add L P y2 y3 w0 w ⟨h.law⟩).mono ?_
  rintro e w' ⟨rfl, ⟨L', hl, hc, hp⟩⟩
  exact ⟨rfl, ⟨L', ⟨hl, h.ref.ch hc, (hc.block X (blk_lt h.act) (fun e => by have := h.far; omega)).trans h.act, h.far⟩, hp⟩⟩
theorem JA.rem (h : JA L L2 P X y0 y1 y2 y3 d w0 w) : Calls Try.prog 10 #[.pointer (some ⟨P, 0, none⟩), .agg #[.int .i64 y2, .int .i64 y3]] w fun e w' => e = .returned (.int .i64 (codeM y2 y3)) ∧ Aside0 (∃ L', JA L' L2 P X y0 y1 y2 y3 d w0 w' ∧ RemP L L' y2 y3) := by
  refine (law_rem L P y2 y3 w0 w ⟨h.law⟩).mono ?_
  rintro e w' ⟨rfl, ⟨L', hl, hc, hp⟩⟩
  exact ⟨rfl, ⟨L', ⟨hl, h.ref.ch hc, (hc.block X (blk_lt h.act) (fun e => by have := h.far; omega)).trans h.act, h.far⟩, hp⟩⟩
/-- What the document's list is behind a call, where the set is so. -/
def SetP (L L' : List S27) (a b : Int) (v : Bool) : Prop := (mayB a b = true → ∀ n, inB L' n = setG (inB L) v a b n) ∧ (mayB a b = false → ∀ n, inB L' n = inB L n)
theorem SetP.add {L L' : List S27} {a b : Int} (hp : AddP L L' a b) : SetP L L' a b true :=
  ⟨fun hm n => by
    unfold setG
    by_cases c : a ≤ n ∧ n < b
    · rw [if_pos c]; exact (hp n).2 (.inr ⟨hm, c⟩)
    · rw [if_neg c, Bool.eq_iff_iff, hp n]
      exact ⟨fun q => q.elim id (fun q => absurd q.2 c), .inl⟩, fun hm n => by
    rw [Bool.eq_iff_iff, hp n, hm]
    exact ⟨fun q => q.elim id (fun q => absurd q.1 (by decide)), .inl⟩⟩
theorem SetP.rem {L L' : List S27} {a b : Int} (hp : RemP L L' a b) : SetP L L' a b false :=
  ⟨fun hm n => by
    unfold setG
    by_cases c : a ≤ n ∧ n < b
    · rw [if_pos c, ← Bool.not_eq_true, hp n]; exact fun q => q.2 ⟨hm, c⟩
    · rw [if_neg c, Bool.eq_iff_iff, hp n]
      exact ⟨fun q => q.1, fun q => ⟨q, fun q2 => c q2.2⟩⟩, fun hm n => by
    rw [Bool.eq_iff_iff, hp n, hm]
    exact ⟨fun q => q.1, fun q => ⟨q, fun q2 => absurd q2.1 (by decide)⟩⟩⟩
theorem JA.ref_set {A : Option Addr} {c : Nat} (h : JA L L2 P X y0 y1 y2 y3 (.slice A 4096 c) w0 w) (v : Bool) (hp : SetP L2 L y2 y3 v) :
    Calls Try.prog 18 #[.slice A 4096 c, .agg #[.int .i64 y2, .int .i64 y3], .bool v] w fun e w' => Aside0 (∃ A' c', e = .returned (.tuple #[.slice A' 4096 c', .int .i64 (codeM y2 y3)]) ∧ JA L L P X y0 y1 y2 y3 (.slice A' 4096 c') w0 w') := by
  cases hm : mayB y2 y3
  · have ec : codeM y2 y3 = 1 := if_neg (by rw [hm]; decide)
    rw [ec]
    refine (setR_no y2 y3 v _ w (Lib.hid hm)).mono ?_
    rintro e w' ⟨rfl, hb⟩
    have hj := h.belowW hb
    exact ⟨⟨A, c, rfl, hj.law, by unfold DAt; rw [dOf_congr (hp.2 hm)]; exact hj.ref, hj.act, hj.far⟩⟩
  · have ec : codeM y2 y3 = 0 := if_pos hm
    rw [ec]
    refine (setR_yes (dOf (inB L2)) (dOf (inB L)) y2 y3 v A c w (Lib.hid hm) (Lib.hid (dOf_len _)) ⟨h.ref.read.2⟩ (Lib.hid ?_)).mono ?_
    · intro i hi
      rw [dOf_take _ i hi, dOf_rd _ i hi, hp.1 hm i]
      rfl
    · rintro e w' ⟨⟨u, rfl, hu, hb⟩⟩
      have hj := h.belowW hb
      have hd : DAt P w0.heap.size L u w' := Kd.R_mono (Kd.R_lower (Kd.R_bound hu) h.law.bel.size) (fun k hk => by have := hk.2.1; have := h.far; have := h.law.lt; omega)
      obtain ⟨A', c', rfl⟩ := hd.slice
      exact ⟨⟨A', c', rfl, hj.law, hd, hj.act, hj.far⟩⟩
end
theorem dOf_nil : List.replicate (4096 : Int).toNat false = dOf (inB []) := by
  symm
  rw [List.eq_replicate_iff]
  refine ⟨dOf_len _, fun b hb => ?_⟩
  obtain ⟨k, hk, rfl⟩ := List.mem_iff_getElem.1 hb
  rw [dOf_get]
  rfl
theorem DAt.new {w w' : World} {P base : Nat} {u : Value} (h : Kd.R Kd.bool 4 w' w.heap.size (fun _ => True) u (List.replicate (4096 : Int).toNat false)) (hb : base ≤ w.heap.size) (hP : P < w.heap.size) : DAt P base [] u w' := by
  rw [dOf_nil] at h
  exact Kd.R_mono (Kd.R_lower (Kd.R_bound h) hb) (fun k hk => by have := hk.2.1; omega)
theorem refNext_calls {L : List S27} {P base : Nat} {A : Option Addr} {c : Nat} {n x : Int} {w : World} (hd : DAt P base L (.slice A 4096 c) w) (hs : Sp (-1) L) (h : NextP L n x) : Calls Try.prog 19 #[.slice A 4096 c, .int .i64 n] w fun e w' => e = .returned (.int .i64 x) ∧ Below w.heap.size w w' := by
  have hq := deckleref34_Next.calls 5000 A c (dOf (inB L)) n x w (by rw [dOf_len]; exact hd.read.2) (by rw [dOf_len]; exact hd.read.1) (refNext hs h)
  rw [dOf_len] at hq
  exact hq
theorem refCount_calls {L : List S27} {P base : Nat} {A : Option Addr} {c : Nat} {w : World} (hd : DAt P base L (.slice A 4096 c) w) (hs : Sp (-1) L) : Calls Try.prog 21 #[.slice A 4096 c] w fun e w' => e = .returned (.int .i64 (cntK L L.length)) ∧ Below w.heap.size w w' := by
  have hq := deckleref34_Count.calls 5000 A c (dOf (inB L)) (cntK L L.length) w (by rw [dOf_len]; exact hd.read.2) (by rw [dOf_len]; exact hd.read.1) (refCount hs)
  rw [dOf_len] at hq
  exact hq.mono fun e w' h => ⟨h.1, drawn_any h.2⟩
theorem spansAll_calls {L : List S27} {P base : Nat} {A : Option Addr} {c : Nat} {w : World} (hd : DAt P base L (.slice A 4096 c) w) (hs : Sp (-1) L) : Calls Try.prog 25 #[.slice A 4096 c, .int .i64 0, .int .i64 4096, .bool true] w fun e w' => Aside0 (∃ u, e = .returned u ∧ OwnS w' w.heap.size u L ∧ Below w.heap.size w w') := by
  have hq := deckleref34_Spans.calls 10000 A c (dOf (inB L)) 0 4096 true L w (by rw [dOf_len]; exact hd.read.2) (by rw [dOf_len]; exact hd.read.1) (refSpans_all hs)
  rw [dOf_len] at hq
  exact hq.mono fun e w' ⟨u, h1, h2, h3⟩ => ⟨⟨u, h1, ownS h2, h3⟩⟩
theorem nextL (L : List S27) (P : Nat) (n x : Int) (w0 w : World) (h : LawAt L P w0 w) (hx : NextP L n x) : Calls Try.prog 14 #[.pointer (some ⟨P, 0, none⟩), .int .i64 n] w fun e w' => e = .returned (.int .i64 x) ∧ Below w.heap.size w w' := by
  refine (law_next L P w0 w ⟨h⟩ n).mono ?_
  rintro e w' ⟨⟨y, rfl, hy, hb⟩⟩
  rw [next_uniq hy hx]
  exact ⟨rfl, hb⟩
theorem may_calls2 (a b : Int) (w : World) : Calls Try.prog 22 #[.agg #[.int .i64 a, .int .i64 b]] w fun e w' => e = .returned (.bool (mayB a b)) ∧ Below w.heap.size w w' := by
  refine span_May.calls a b (mayB a b) w ?_
  have := refMay a b
  exact this
theorem asksL (L : List S27) (P : Nat) (a b : Int) (w0 w : World) (A : Option Addr) (c : Nat) (h : LawAt L P w0 w) {base : Nat} (hd : DAt P base L (.slice A 4096 c) w) : Calls Try.prog 20 #[.pointer (some ⟨P, 0, none⟩), .slice A 4096 c, .agg #[.int .i64 a, .int .i64 b]] w fun e w' => e = .returned (.bool true) ∧ Below w.heap.size w w' := by
  cases hm : mayB a b
  · exact asks_no L P a b w0 w _ ⟨h⟩ (Lib.hid hm)
  · exact asks_yes L P a b w0 w A c ⟨h⟩ ⟨hd.read.2⟩ (Lib.hid hd.read.1) (Lib.hid hm)
theorem getJA {p q r : Prop} {L L2 : List S27} {P X : Nat} {y0 y1 y2 y3 : Int} {d : Value} {w0 w : World} (h : p ∧ q ∧ r ∧ Aside0 (JA L L2 P X y0 y1 y2 y3 d w0 w)) : JA L L2 P X y0 y1 y2 y3 d w0 w := h.2.2.2.out
/-- A row that may be overwritten. -/
def Spoil (A : Option Addr) (n base : Nat) (w : World) : Prop := ∀ k, k < n → ∃ g cs, A = some ⟨g, 0, none⟩ ∧ base ≤ g ∧ w.heap[g]? = some (.cells cs 27 (0, 0)) ∧ 2 * n ≤ cs.size
theorem Spoil.of {L : List S27} {A : Option Addr} {c base : Nat} {w : World} (h : OwnS w base (.slice A L.length c) L) : Spoil A L.length base w := by
  intro k hk
  obtain ⟨g, c', e, hg, _, cs, hcs⟩ := Kd.R_form h (by omega)
  injection e with e en _
  subst e
  obtain ⟨ad, e2, h1, h2⟩ := at_T27 (Kd.R_reads' h).2.2 ((L.length - 1 : Nat) : Int) (by omega) (by omega)
  cases e2
  rw [Int.toNat_natCast] at h2
  have ea : (⟨g, 0, none⟩ : Addr).add ((L.length - 1) * 2) = ⟨g, (L.length - 1) * 2, none⟩ := by cases (L.length - 1) <;> simp [Addr.add]
  rw [ea] at h2
  have h3 : cs[(L.length - 1) * 2 + 1]? = some (.int .i64 (rd_T27 L ((L.length - 1 : Nat) : Int)).f1) := (blk_cell hcs _).symm.trans h2
  have := (Array.getElem?_eq_some_iff.1 h3).1
  exact ⟨g, cs, rfl, hg, hcs, by omega⟩
theorem Spoil.put {n base k g : Nat} {cs : Array Value} {w : World} (hk : k < n) (hg : base ≤ g) (hcs : w.heap[g]? = some (.cells cs 27 (0, 0))) (hsz : 2 * n ≤ cs.size) (i : Nat) (u : Value) (j : Nat) (v : Value) : Spoil (some ⟨g, 0, none⟩) n base ((w.setCell ⟨g, i, none⟩ u).setCell ⟨g, j, none⟩ v) :=
  fun _ _ => ⟨g, _, rfl, hg, blk_set (blk_set hcs i u) j v, by simpa using hsz⟩
set_option maxHeartbeats 16000000 in
set_option maxRecDepth 100000 in
theorem plays_core (A0 : Option Addr) (c0 : Nat) (zs : List S29) (w : World) (hr : Aside0 (Kd.C k29 w A0 zs.length zs)) :
    Calls Try.prog 5 #[.slice A0 zs.length c0] w fun e w' => e = .returned (.bool true) ∧ Below w.heap.size w w' := by
  have hN := Lib.hid (new_core w)
  go_enter Try.func5, Try.ntmps5
  go_wp2_with fail
  refine hN.out.mono ?_
  rintro e w2 ⟨rfl, ⟨hs, hb⟩⟩
  have L2 := Aside0.mk (LawAt.new hs hb)
  have hPw := Lib.hid (show w.heap.size ≤ w.heap.size from Nat.le_refl _)
  clear hs hb hN
  generalize hP : w.heap.size = P at L2 hPw ⊢
  replace hP := Lib.hid hP
  have hlt2 := Lib.hid L2.out.lt
  go_wp2_with ((with_reducible refine gate_dst (N := 14) rfl ?_); refine Kd.R_make Kd.bool _ 4 rfl (N := 14) rfl 42 _ _ rfl 4096 rfl rfl Try.underlying42 (.bool false) 1 info4 rfl (by decide) (by omega) false (ok := fun _ => True) (okp := fun _ => True) rfl (fun _ hk => hk) trivial (by omega) (by omega) (Below.refl _ _) (Nat.le_refl _) ?_; intro v1 w3 ho hb hg hn; clear hg hn; have HD := Aside0.mk (DAt.new (P := P) (base := w.heap.size) ho L2.out.bel.size hlt2.out); have L3 := Aside0.mk (L2.out.below hb); clear ho hb L2 hlt2)
  obtain ⟨A1, c1, rfl⟩ := HD.out.slice
  have hd2 := Lib.hid L3.out.lt
  go_wp2
  go_loopw [4, 5] (fun d y wr => ∃ (k : Nat) (L : List S27) (A : Option Addr) (c : Nat), k ≤ zs.length ∧ k ≤ 20 ∧ d = .slice A 4096 c ∧ y = .int .i64 k ∧ Aside0 (LawAt L P w wr) ∧ Aside0 (DAt P w.heap.size L (.slice A 4096 c) wr)) (fun _ y _ => zs.length - (intOf y).toNat)
  case atStart => exact ⟨0, [], A1, c1, Nat.zero_le _, by omega, rfl, rfl, L3, HD⟩
  case round =>
    clear L3 HD
    obtain ⟨k, L, A, c, hk, hk1, rfl, rfl, HL, HD⟩ := hrel
    by_cases hc : k < zs.length ∧ k < 20
    · obtain ⟨c1, c2⟩ := hc
      have yk : decide ((k : Int) < (zs.length : Int)) = true := decide_eq_true (by omega)
      have y2' : decide ((k : Int) < 20) = true := decide_eq_true (by omega)
      have i0 : decide ((0 : Int) ≤ (k : Int)) = true := decide_eq_true (by omega)
      obtain ⟨ad, e1, d0, d1, d2, d3⟩ := at_T29 (Kd.C_below hr.out HL.out.bel) (k : Int) (by omega) (by omega)
      cases e1
      rw [Int.toNat_natCast] at d0 d1 d2 d3
      generalize (rd_T29 zs (k : Int)).f0 = y0 at *
      generalize (rd_T29 zs (k : Int)).f1 = y1 at *
      generalize (rd_T29 zs (k : Int)).f2.f0 = y2 at *
      generalize (rd_T29 zs (k : Int)).f2.f1 = y3 at *
      have HJ : Aside0 (JA L L P wr.heap.size y0 y1 y2 y3 (.slice A 4096 c) w (wr.alloc (.cells #[.int .i64 y0, .int .i64 y1, .int .i64 y2, .int .i64 y3] 29))) := ⟨HL.out.below ((Below.refl _ _).alloc (Nat.le_refl _) _), Kd.R_below HD.out ((Below.refl _ _).alloc (Nat.le_refl _) _), heap_alloc_new wr _, HL.out.lt⟩
      clear HL HD
      go_upto_block 2 with (fail)
      generalize hX : wr.heap.size = X at *
      generalize hW1 : wr.alloc (.cells #[.int .i64 y0, .int .i64 y1, .int .i64 y2, .int .i64 y3] 29) = W1 at *
      clear hX hW1 d0 d1 d2 d3
      go_cut [4, 7, 8] (fun d a b wx => ∃ (cc : Int) (A' : Option Addr) (c' : Nat), d = .slice A' 4096 c' ∧ a = .int .i64 cc ∧ b = .int .i64 cc ∧ Aside0 (∃ L', JA L' L' P X y0 y1 y2 y3 (.slice A' 4096 c') w wx))
      case first =>
        by_cases h0 : y0 = 0
        · subst h0
          have hA := Lib.hid HJ.out.add
          obtain ⟨d0, d1, d2, d3⟩ := HJ.out.cells
          go_wp2_with fail
          refine hA.out.mono ?_
          rintro e w1 ⟨rfl, ⟨L', HJ1, hp⟩⟩
          clear hA HJ d0 d1 d2 d3
          obtain ⟨d0, d1, d2, d3⟩ := HJ1.cells
          have hA := Lib.hid (HJ1.ref_set true (SetP.add hp))
          clear HJ1 hp
          go_wp2_with fail
          refine hA.out.mono ?_
          rintro e w2 ⟨⟨A', c', rfl, HJ2⟩⟩
          replace HJ2 := Aside0.mk HJ2
          clear hA d0 d1 d2 d3
          go_wp2
          go_meet
          exact ⟨_, _, _, rfl, rfl, rfl, ⟨_, HJ2.out⟩⟩
        · have g0 : (y0 == 0) = false := beq_eq_false_iff_ne.2 h0
          clear h0
          by_cases h1 : y0 = 1
          · subst h1
            have hA := Lib.hid HJ.out.rem
            obtain ⟨d0, d1, d2, d3⟩ := HJ.out.cells
            go_wp2_with fail
            refine hA.out.mono ?_
            rintro e w1 ⟨rfl, ⟨L', HJ1, hp⟩⟩
            clear hA HJ d0 d1 d2 d3
            obtain ⟨d0, d1, d2, d3⟩ := HJ1.cells
            have hA := Lib.hid (HJ1.ref_set false (SetP.rem hp))
            clear HJ1 hp
            go_wp2_with fail
            refine hA.out.mono ?_
            rintro e w2 ⟨⟨A', c', rfl, HJ2⟩⟩
            replace HJ2 := Aside0.mk HJ2
            clear hA d0 d1 d2 d3
            go_wp2
            go_meet
            exact ⟨_, _, _, rfl, rfl, rfl, ⟨_, HJ2.out⟩⟩
          · have g1 : (y0 == 1) = false := beq_eq_false_iff_ne.2 h1
            clear h1
            obtain ⟨x, hx⟩ := next_ex HJ.out.law.sp y1
            have hn := has_next HJ.out.law.sp hx
            have q14 := Lib.hid fun w' (hj : JA L L P X y0 y1 y2 y3 (.slice A 4096 c) w w') => nextL L P y1 x w w' hj.law hx
            have q19 := Lib.hid fun w' (hj : JA L L P X y0 y1 y2 y3 (.slice A 4096 c) w w') => refNext_calls hj.ref hj.law.sp hx
            have q12' := Lib.hid fun w' (hj : JA L L P X y0 y1 y2 y3 (.slice A 4096 c) w w') => law_has L P w w' ⟨hj.law⟩ y1
            have q20 := Lib.hid fun w' (hj : JA L L P X y0 y1 y2 y3 (.slice A 4096 c) w w') => asksL L P y2 y3 w w' A c hj.law hj.ref
            have hss := Lib.hid fun (w' : World) (hj : JA L L P X y0 y1 y2 y3 (.slice A 4096 c) w w') => (show w'.cell? ⟨X, 1, none⟩ = some (.int .i64 y1) ∧ w'.cell? ⟨X, 2, none⟩ = some (.int .i64 y2) ∧ w'.cell? ⟨X, 3, none⟩ = some (.int .i64 y3) ∧ Aside0 (JA L L P X y0 y1 y2 y3 (.slice A 4096 c) w w') from ⟨hj.cells.2.1, hj.cells.2.2.1, hj.cells.2.2.2, ⟨hj⟩⟩)
            clear hx
            obtain ⟨d0, d1, d2, d3⟩ := HJ.out.cells
            by_cases hy : 0 ≤ y1
            · have z1 : decide (0 ≤ y1) = true := decide_eq_true hy
              have hq := hn.1 hy
              rw [hq] at q12'
              clear hn hy hq
              cases hxy : (x == y1)
              · rw [hxy] at q12'
                have q12 := Lib.hid q12'.out
                clear q12'
                go_wp2
                refine wp_region_held_drew (S := (fun w' => w'.cell? ⟨X, 1, none⟩ = some (.int .i64 y1) ∧ w'.cell? ⟨X, 2, none⟩ = some (.int .i64 y2) ∧ w'.cell? ⟨X, 3, none⟩ = some (.int .i64 y3) ∧ Aside0 (JA L L P X y0 y1 y2 y3 (.slice A 4096 c) w w'))) (by kernel_rfl) ?_ (fun hHeld => ?_)
                · ((refine hss.out _ ?_; (with_reducible repeat (first | exact Aside0.out (by assumption) | exact getJA (by assumption) | refine JA.drew ?_ | refine JA.drewN ?_ _ | refine JA.alloc ?_ _))))
                refine wpAnyH_take (i := 0) (oi := { dst := some 31, op := Op.move (Operand.tmp 3), type := 24, pos := "law.go:35", after := #[], guard := none }) (v := ?h1_0) rfl (by kernel_rfl) (by kernel_rfl) (by kernel_rfl) (fun _ _ _ h => h) (Or.inl ⟨by rfl, ?yh1_0⟩) (by assumption) ?rh1_0
                case yh1_0 => intro w hSw; (try dsimp only at hSw); go_simp; (try with_reducible rfl)
                simp only [Act.put, List.setIfInBounds_toArray, List.set_cons_zero, List.set_cons_succ]
                refine wpAnyH_take (i := 1) (oi := { dst := some 32, op := Op.fieldAddr 29 (Operand.tmp 6) 1, type := 0, pos := "law.go:35", after := #[], guard := none }) (v := ?h1_1) rfl (by kernel_rfl) (by kernel_rfl) (by kernel_rfl) (fun _ _ _ h => h) (Or.inl ⟨by rfl, ?yh1_1⟩) (by assumption) ?rh1_1
                case yh1_1 => intro w hSw; (try dsimp only at hSw); go_simp; (try with_reducible rfl)
                simp only [Act.put, List.setIfInBounds_toArray, List.set_cons_zero, List.set_cons_succ]
                refine wpAnyH_take (i := 2) (oi := { dst := some 33, op := Op.load 3 (Operand.tmp 32), type := 3, pos := "law.go:35", after := #[{ on := 1, ground := Ground.data }], guard := none }) (v := ?h1_2) rfl (by kernel_rfl) (by kernel_rfl) (by kernel_rfl) (fun _ _ _ h => h) (Or.inl ⟨by rfl, ?yh1_2⟩) (by assumption) ?rh1_2
                case yh1_2 => intro w hSw; (try dsimp only at hSw); go_simp; (try with_reducible rfl)
                simp only [Act.put, List.setIfInBounds_toArray, List.set_cons_zero, List.set_cons_succ]
                refine wpAnyH_take (i := 4) (oi := { dst := some 35, op := Op.move (Operand.tmp 4), type := 42, pos := "law.go:35", after := #[], guard := none }) (v := ?h1_4) rfl (by kernel_rfl) (by kernel_rfl) (by kernel_rfl) (fun _ _ _ h => h) (Or.inl ⟨by rfl, ?yh1_4⟩) (by assumption) ?rh1_4
                case yh1_4 => intro w hSw; (try dsimp only at hSw); go_simp; (try with_reducible rfl)
                simp only [Act.put, List.setIfInBounds_toArray, List.set_cons_zero, List.set_cons_succ]
                refine wpAnyH_take (i := 5) (oi := { dst := some 36, op := Op.fieldAddr 29 (Operand.tmp 6) 1, type := 0, pos := "law.go:35", after := #[], guard := none }) (v := ?h1_5) rfl (by kernel_rfl) (by kernel_rfl) (by kernel_rfl) (fun _ _ _ h => h) (Or.inl ⟨by rfl, ?yh1_5⟩) (by assumption) ?rh1_5
                case yh1_5 => intro w hSw; (try dsimp only at hSw); go_simp; (try with_reducible rfl)
                simp only [Act.put, List.setIfInBounds_toArray, List.set_cons_zero, List.set_cons_succ]
                refine wpAnyH_take (i := 6) (oi := { dst := some 37, op := Op.load 3 (Operand.tmp 36), type := 3, pos := "law.go:35", after := #[{ on := 5, ground := Ground.data }], guard := none }) (v := ?h1_6) rfl (by kernel_rfl) (by kernel_rfl) (by kernel_rfl) (fun _ _ _ h => h) (Or.inl ⟨by rfl, ?yh1_6⟩) (by assumption) ?rh1_6
                case yh1_6 => intro w hSw; (try dsimp only at hSw); go_simp; (try with_reducible rfl)
                simp only [Act.put, List.setIfInBounds_toArray, List.set_cons_zero, List.set_cons_succ]
                refine wpAnyH_ready (rs := [3]) (by kernel_rfl) (by simp) ?_
                refine AllReadyH.cons (o := { dst := some 34, op := Op.call { callee := Callee.value (Operand.func 14), args := #[Operand.tmp 31, Operand.tmp 33], argTypes := #[24, 3] }, type := 3, pos := "law.go:35", after := #[{ on := 0, ground := Ground.data }, { on := 2, ground := Ground.data }], guard := none }) rfl (fun K hK => ?_) AllReadyH.nil
                go_simp
                (go_at_call 14; refine (q14.out _ ?sh1_3).mono ?_; (case sh1_3 => exact getJA (by assumption)); rintro e w' ⟨rfl, hb⟩; have hk := Aside0.mk (JA.belowW (getJA (by assumption)) hb))
                refine hK.out _ _ ?_ (fun hHeld => ?_)
                · ((refine hss.out _ ?_; (with_reducible repeat (first | exact Aside0.out (by assumption) | exact getJA (by assumption) | refine JA.drew ?_ | refine JA.drewN ?_ _ | refine JA.alloc ?_ _))))
                clear hK K
                try simp only [Act.put, List.setIfInBounds_toArray, List.set_cons_zero, List.set_cons_succ]
                refine wpAnyH_ready (rs := [7]) (by kernel_rfl) (by simp) ?_
                refine AllReadyH.cons (o := { dst := some 38, op := Op.call { callee := Callee.value (Operand.func 19), args := #[Operand.tmp 35, Operand.tmp 37], argTypes := #[42, 3] }, type := 3, pos := "law.go:35", after := #[{ on := 4, ground := Ground.data }, { on := 6, ground := Ground.data }, { on := 3, ground := Ground.chain }], guard := none }) rfl (fun K hK => ?_) AllReadyH.nil
                go_simp
                (go_at_call 19; refine (q19.out _ ?sh1_7).mono ?_; (case sh1_7 => exact getJA (by assumption)); rintro e w' ⟨rfl, hb⟩; have hk := Aside0.mk (JA.belowW (getJA (by assumption)) hb))
                refine hK.out _ _ ?_ (fun hHeld => ?_)
                · ((refine hss.out _ ?_; (with_reducible repeat (first | exact Aside0.out (by assumption) | exact getJA (by assumption) | refine JA.drew ?_ | refine JA.drewN ?_ _ | refine JA.alloc ?_ _))))
                clear hK K
                try simp only [Act.put, List.setIfInBounds_toArray, List.set_cons_zero, List.set_cons_succ]
                refine wpAnyH_take (i := 8) (oi := { dst := some 39, op := Op.binOp BinOp.neq 3 (Operand.tmp 34) (Operand.tmp 38) 3, type := 4, pos := "law.go:35", after := #[{ on := 3, ground := Ground.data }, { on := 7, ground := Ground.data }], guard := none }) (v := ?h1_8) rfl (by kernel_rfl) (by kernel_rfl) (by kernel_rfl) (fun _ _ _ h => h) (Or.inl ⟨by rfl, ?yh1_8⟩) (by assumption) ?rh1_8
                case yh1_8 => intro w hSw; (try dsimp only at hSw); go_simp; (try with_reducible rfl)
                simp only [Act.put, List.setIfInBounds_toArray, List.set_cons_zero, List.set_cons_succ]
                refine wpAnyH_take (i := 9) (oi := { dst := some 40, op := Op.move (Operand.tmp 39), type := 4, pos := "law.go:35", after := #[{ on := 8, ground := Ground.data }, { on := 7, ground := Ground.chain }], guard := none }) (v := ?h1_9) rfl (by kernel_rfl) (by kernel_rfl) (by kernel_rfl) (fun _ _ _ h => h) (Or.inl ⟨by rfl, ?yh1_9⟩) (by assumption) ?rh1_9
                case yh1_9 => intro w hSw; (try dsimp only at hSw); go_simp; (try with_reducible rfl)
                simp only [Act.put, List.setIfInBounds_toArray, List.set_cons_zero, List.set_cons_succ]
                refine wpAnyH_take (i := 10) (oi := { dst := some 41, op := Op.move (Operand.tmp 3), type := 24, pos := "law.go:35", after := #[{ on := 9, ground := Ground.guard }], guard := some (9, false) }) (v := ?h1_10) rfl (by kernel_rfl) (by kernel_rfl) (by kernel_rfl) (fun _ _ _ h => h) (Or.inl ⟨by rfl, ?yh1_10⟩) (by assumption) ?rh1_10
                case yh1_10 => intro w hSw; (try dsimp only at hSw); go_simp; (try with_reducible rfl)
                simp only [Act.put, List.setIfInBounds_toArray, List.set_cons_zero, List.set_cons_succ]
                refine wpAnyH_take (i := 11) (oi := { dst := some 42, op := Op.fieldAddr 29 (Operand.tmp 6) 1, type := 0, pos := "law.go:35", after := #[{ on := 9, ground := Ground.guard }], guard := some (9, false) }) (v := ?h1_11) rfl (by kernel_rfl) (by kernel_rfl) (by kernel_rfl) (fun _ _ _ h => h) (Or.inl ⟨by rfl, ?yh1_11⟩) (by assumption) ?rh1_11
                case yh1_11 => intro w hSw; (try dsimp only at hSw); go_simp; (try with_reducible rfl)
                simp only [Act.put, List.setIfInBounds_toArray, List.set_cons_zero, List.set_cons_succ]
                refine wpAnyH_take (i := 12) (oi := { dst := some 43, op := Op.load 3 (Operand.tmp 42), type := 3, pos := "law.go:35", after := #[{ on := 11, ground := Ground.data }, { on := 9, ground := Ground.guard }], guard := some (9, false) }) (v := ?h1_12) rfl (by kernel_rfl) (by kernel_rfl) (by kernel_rfl) (fun _ _ _ h => h) (Or.inl ⟨by rfl, ?yh1_12⟩) (by assumption) ?rh1_12
                case yh1_12 => intro w hSw; (try dsimp only at hSw); go_simp; (try with_reducible rfl)
                simp only [Act.put, List.setIfInBounds_toArray, List.set_cons_zero, List.set_cons_succ]
                refine wpAnyH_take (i := 14) (oi := { dst := some 45, op := Op.fieldAddr 29 (Operand.tmp 6) 1, type := 0, pos := "law.go:35", after := #[{ on := 9, ground := Ground.guard }], guard := some (9, false) }) (v := ?h1_14) rfl (by kernel_rfl) (by kernel_rfl) (by kernel_rfl) (fun _ _ _ h => h) (Or.inl ⟨by rfl, ?yh1_14⟩) (by assumption) ?rh1_14
                case yh1_14 => intro w hSw; (try dsimp only at hSw); go_simp; (try with_reducible rfl)
                simp only [Act.put, List.setIfInBounds_toArray, List.set_cons_zero, List.set_cons_succ]
                refine wpAnyH_take (i := 15) (oi := { dst := some 46, op := Op.load 3 (Operand.tmp 45), type := 3, pos := "law.go:35", after := #[{ on := 14, ground := Ground.data }, { on := 9, ground := Ground.guard }], guard := some (9, false) }) (v := ?h1_15) rfl (by kernel_rfl) (by kernel_rfl) (by kernel_rfl) (fun _ _ _ h => h) (Or.inl ⟨by rfl, ?yh1_15⟩) (by assumption) ?rh1_15
                case yh1_15 => intro w hSw; (try dsimp only at hSw); go_simp; (try with_reducible rfl)
                simp only [Act.put, List.setIfInBounds_toArray, List.set_cons_zero, List.set_cons_succ]
                refine wpAnyH_take (i := 16) (oi := { dst := some 47, op := Op.binOp BinOp.geq 3 (Operand.tmp 46) (Operand.const (Value.int IntKind.i64 0)) 3, type := 4, pos := "law.go:35", after := #[{ on := 15, ground := Ground.data }, { on := 9, ground := Ground.guard }], guard := some (9, false) }) (v := ?h1_16) rfl (by kernel_rfl) (by kernel_rfl) (by kernel_rfl) (fun _ _ _ h => h) (Or.inl ⟨by rfl, ?yh1_16⟩) (by assumption) ?rh1_16
                case yh1_16 => intro w hSw; (try dsimp only at hSw); go_simp; (try with_reducible rfl)
                simp only [Act.put, List.setIfInBounds_toArray, List.set_cons_zero, List.set_cons_succ]
                refine wpAnyH_ready (rs := [13]) (by kernel_rfl) (by simp) ?_
                refine AllReadyH.cons (o := { dst := some 44, op := Op.call { callee := Callee.value (Operand.func 12), args := #[Operand.tmp 41, Operand.tmp 43], argTypes := #[24, 3] }, type := 4, pos := "law.go:35", after := #[{ on := 10, ground := Ground.data }, { on := 12, ground := Ground.data }, { on := 9, ground := Ground.chain }, { on := 9, ground := Ground.guard }], guard := some (9, false) }) rfl (fun K hK => ?_) AllReadyH.nil
                go_simp
                (go_at_call 12; refine (q12.out _ ?sh1_13).mono ?_; (case sh1_13 => exact getJA (by assumption)); rintro e w' ⟨rfl, hb⟩; have hk := Aside0.mk (JA.belowW (getJA (by assumption)) hb))
                refine hK.out _ _ ?_ (fun hHeld => ?_)
                · ((refine hss.out _ ?_; (with_reducible repeat (first | exact Aside0.out (by assumption) | exact getJA (by assumption) | refine JA.drew ?_ | refine JA.drewN ?_ _ | refine JA.alloc ?_ _))))
                clear hK K
                try simp only [Act.put, List.setIfInBounds_toArray, List.set_cons_zero, List.set_cons_succ]
                refine wpAnyH_take (i := 17) (oi := { dst := some 48, op := Op.move (Operand.tmp 47), type := 4, pos := "law.go:35", after := #[{ on := 16, ground := Ground.data }, { on := 13, ground := Ground.chain }, { on := 9, ground := Ground.guard }], guard := some (9, false) }) (v := ?h1_17) rfl (by kernel_rfl) (by kernel_rfl) (by kernel_rfl) (fun _ _ _ h => h) (Or.inl ⟨by rfl, ?yh1_17⟩) (by assumption) ?rh1_17
                case yh1_17 => intro w hSw; (try dsimp only at hSw); go_simp; (try with_reducible rfl)
                simp only [Act.put, List.setIfInBounds_toArray, List.set_cons_zero, List.set_cons_succ]
                refine wpAnyH_take (i := 18) (oi := { dst := some 49, op := Op.move (Operand.tmp 4), type := 42, pos := "law.go:35", after := #[{ on := 17, ground := Ground.guard }], guard := some (17, true) }) (v := ?h1_18) rfl (by kernel_rfl) (by kernel_rfl) (by kernel_rfl) (fun _ _ _ h => h) (Or.inl ⟨by rfl, ?yh1_18⟩) (by assumption) ?rh1_18
                case yh1_18 => intro w hSw; (try dsimp only at hSw); go_simp; (try with_reducible rfl)
                simp only [Act.put, List.setIfInBounds_toArray, List.set_cons_zero, List.set_cons_succ]
                refine wpAnyH_take (i := 19) (oi := { dst := some 50, op := Op.fieldAddr 29 (Operand.tmp 6) 1, type := 0, pos := "law.go:35", after := #[{ on := 17, ground := Ground.guard }], guard := some (17, true) }) (v := ?h1_19) rfl (by kernel_rfl) (by kernel_rfl) (by kernel_rfl) (fun _ _ _ h => h) (Or.inl ⟨by rfl, ?yh1_19⟩) (by assumption) ?rh1_19
                case yh1_19 => intro w hSw; (try dsimp only at hSw); go_simp; (try with_reducible rfl)
                simp only [Act.put, List.setIfInBounds_toArray, List.set_cons_zero, List.set_cons_succ]
                refine wpAnyH_take (i := 20) (oi := { dst := some 51, op := Op.load 3 (Operand.tmp 50), type := 3, pos := "law.go:35", after := #[{ on := 19, ground := Ground.data }, { on := 17, ground := Ground.guard }], guard := some (17, true) }) (v := ?h1_20) rfl (by kernel_rfl) (by kernel_rfl) (by kernel_rfl) (fun _ _ _ h => h) (Or.inl ⟨by rfl, ?yh1_20⟩) (by assumption) ?rh1_20
                case yh1_20 => intro w hSw; (try dsimp only at hSw); go_simp; (try with_reducible rfl)
                simp only [Act.put, List.setIfInBounds_toArray, List.set_cons_zero, List.set_cons_succ]
                refine wpAnyH_take (i := 22) (oi := { dst := some 53, op := Op.fieldAddr 29 (Operand.tmp 6) 1, type := 0, pos := "law.go:35", after := #[{ on := 17, ground := Ground.guard }], guard := some (17, true) }) (v := ?h1_22) rfl (by kernel_rfl) (by kernel_rfl) (by kernel_rfl) (fun _ _ _ h => h) (Or.inl ⟨by rfl, ?yh1_22⟩) (by assumption) ?rh1_22
                case yh1_22 => intro w hSw; (try dsimp only at hSw); go_simp; (try with_reducible rfl)
                simp only [Act.put, List.setIfInBounds_toArray, List.set_cons_zero, List.set_cons_succ]
                refine wpAnyH_take (i := 23) (oi := { dst := some 54, op := Op.load 3 (Operand.tmp 53), type := 3, pos := "law.go:35", after := #[{ on := 22, ground := Ground.data }, { on := 17, ground := Ground.guard }], guard := some (17, true) }) (v := ?h1_23) rfl (by kernel_rfl) (by kernel_rfl) (by kernel_rfl) (fun _ _ _ h => h) (Or.inl ⟨by rfl, ?yh1_23⟩) (by assumption) ?rh1_23
                case yh1_23 => intro w hSw; (try dsimp only at hSw); go_simp; (try with_reducible rfl)
                simp only [Act.put, List.setIfInBounds_toArray, List.set_cons_zero, List.set_cons_succ]
                refine wpAnyH_ready (rs := [21]) (by kernel_rfl) (by simp) ?_
                refine AllReadyH.cons (o := { dst := some 52, op := Op.call { callee := Callee.value (Operand.func 19), args := #[Operand.tmp 49, Operand.tmp 51], argTypes := #[42, 3] }, type := 3, pos := "law.go:35", after := #[{ on := 18, ground := Ground.data }, { on := 20, ground := Ground.data }, { on := 17, ground := Ground.chain }, { on := 17, ground := Ground.guard }], guard := some (17, true) }) rfl (fun K hK => ?_) AllReadyH.nil
                go_simp
                (go_at_call 19; refine (q19.out _ ?sh1_21).mono ?_; (case sh1_21 => exact getJA (by assumption)); rintro e w' ⟨rfl, hb⟩; have hk := Aside0.mk (JA.belowW (getJA (by assumption)) hb))
                refine hK.out _ _ ?_ (fun hHeld => ?_)
                · ((refine hss.out _ ?_; (with_reducible repeat (first | exact Aside0.out (by assumption) | exact getJA (by assumption) | refine JA.drew ?_ | refine JA.drewN ?_ _ | refine JA.alloc ?_ _))))
                clear hK K
                try simp only [Act.put, List.setIfInBounds_toArray, List.set_cons_zero, List.set_cons_succ]
                refine wpAnyH_take (i := 24) (oi := { dst := some 55, op := Op.binOp BinOp.eql 3 (Operand.tmp 52) (Operand.tmp 54) 3, type := 4, pos := "law.go:35", after := #[{ on := 21, ground := Ground.data }, { on := 23, ground := Ground.data }, { on := 17, ground := Ground.guard }], guard := some (17, true) }) (v := ?h1_24) rfl (by kernel_rfl) (by kernel_rfl) (by kernel_rfl) (fun _ _ _ h => h) (Or.inl ⟨by rfl, ?yh1_24⟩) (by assumption) ?rh1_24
                case yh1_24 => intro w hSw; (try dsimp only at hSw); go_simp; (try with_reducible rfl)
                simp only [Act.put, List.setIfInBounds_toArray, List.set_cons_zero, List.set_cons_succ]
                refine wpAnyH_take (i := 25) (oi := { dst := some 56, op := Op.pick (Operand.tmp 48) (Operand.tmp 55) (Operand.const (Value.bool false)), type := 4, pos := "law.go:35", after := #[{ on := 17, ground := Ground.data }, { on := 24, ground := Ground.data }, { on := 9, ground := Ground.guard }], guard := some (9, false) }) (v := ?h1_25) rfl (by kernel_rfl) (by kernel_rfl) (by kernel_rfl) (fun _ _ _ h => h) (Or.inl ⟨by rfl, ?yh1_25⟩) (by assumption) ?rh1_25
                case yh1_25 => intro w hSw; (try dsimp only at hSw); go_simp; (try with_reducible rfl)
                simp only [Act.put, List.setIfInBounds_toArray, List.set_cons_zero, List.set_cons_succ]
                refine wpAnyH_take (i := 26) (oi := { dst := some 57, op := Op.binOp BinOp.neq 4 (Operand.tmp 44) (Operand.tmp 56) 4, type := 4, pos := "law.go:35", after := #[{ on := 13, ground := Ground.data }, { on := 25, ground := Ground.data }, { on := 9, ground := Ground.guard }], guard := some (9, false) }) (v := ?h1_26) rfl (by kernel_rfl) (by kernel_rfl) (by kernel_rfl) (fun _ _ _ h => h) (Or.inl ⟨by rfl, ?yh1_26⟩) (by assumption) ?rh1_26
                case yh1_26 => intro w hSw; (try dsimp only at hSw); go_simp; (try with_reducible rfl)
                simp only [Act.put, List.setIfInBounds_toArray, List.set_cons_zero, List.set_cons_succ]
                refine wpAnyH_take (i := 27) (oi := { dst := some 58, op := Op.pick (Operand.tmp 40) (Operand.const (Value.bool true)) (Operand.tmp 57), type := 4, pos := "law.go:35", after := #[{ on := 9, ground := Ground.data }, { on := 26, ground := Ground.data }], guard := none }) (v := ?h1_27) rfl (by kernel_rfl) (by kernel_rfl) (by kernel_rfl) (fun _ _ _ h => h) (Or.inl ⟨by rfl, ?yh1_27⟩) (by assumption) ?rh1_27
                case yh1_27 => intro w hSw; (try dsimp only at hSw); go_simp; (try with_reducible rfl)
                simp only [Act.put, List.setIfInBounds_toArray, List.set_cons_zero, List.set_cons_succ]
                refine wpAnyH_take (i := 28) (oi := { dst := some 59, op := Op.move (Operand.tmp 58), type := 4, pos := "law.go:35", after := #[{ on := 27, ground := Ground.data }, { on := 21, ground := Ground.chain }], guard := none }) (v := ?h1_28) rfl (by kernel_rfl) (by kernel_rfl) (by kernel_rfl) (fun _ _ _ h => h) (Or.inl ⟨by rfl, ?yh1_28⟩) (by assumption) ?rh1_28
                case yh1_28 => intro w hSw; (try dsimp only at hSw); go_simp; (try with_reducible rfl)
                simp only [Act.put, List.setIfInBounds_toArray, List.set_cons_zero, List.set_cons_succ]
                refine wpAnyH_take (i := 29) (oi := { dst := some 60, op := Op.move (Operand.tmp 3), type := 24, pos := "law.go:35", after := #[{ on := 28, ground := Ground.guard }], guard := some (28, false) }) (v := ?h1_29) rfl (by kernel_rfl) (by kernel_rfl) (by kernel_rfl) (fun _ _ _ h => h) (Or.inl ⟨by rfl, ?yh1_29⟩) (by assumption) ?rh1_29
                case yh1_29 => intro w hSw; (try dsimp only at hSw); go_simp; (try with_reducible rfl)
                simp only [Act.put, List.setIfInBounds_toArray, List.set_cons_zero, List.set_cons_succ]
                refine wpAnyH_take (i := 30) (oi := { dst := some 61, op := Op.move (Operand.tmp 4), type := 42, pos := "law.go:35", after := #[{ on := 28, ground := Ground.guard }], guard := some (28, false) }) (v := ?h1_30) rfl (by kernel_rfl) (by kernel_rfl) (by kernel_rfl) (fun _ _ _ h => h) (Or.inl ⟨by rfl, ?yh1_30⟩) (by assumption) ?rh1_30
                case yh1_30 => intro w hSw; (try dsimp only at hSw); go_simp; (try with_reducible rfl)
                simp only [Act.put, List.setIfInBounds_toArray, List.set_cons_zero, List.set_cons_succ]
                refine wpAnyH_take (i := 31) (oi := { dst := some 62, op := Op.fieldAddr 29 (Operand.tmp 6) 2, type := 0, pos := "law.go:35", after := #[{ on := 28, ground := Ground.guard }], guard := some (28, false) }) (v := ?h1_31) rfl (by kernel_rfl) (by kernel_rfl) (by kernel_rfl) (fun _ _ _ h => h) (Or.inl ⟨by rfl, ?yh1_31⟩) (by assumption) ?rh1_31
                case yh1_31 => intro w hSw; (try dsimp only at hSw); go_simp; (try with_reducible rfl)
                simp only [Act.put, List.setIfInBounds_toArray, List.set_cons_zero, List.set_cons_succ]
                refine wpAnyH_take (i := 32) (oi := { dst := some 63, op := Op.load 27 (Operand.tmp 62), type := 27, pos := "law.go:35", after := #[{ on := 31, ground := Ground.data }, { on := 28, ground := Ground.guard }], guard := some (28, false) }) (v := ?h1_32) rfl (by kernel_rfl) (by kernel_rfl) (by kernel_rfl) (fun _ _ _ h => h) (Or.inl ⟨by rfl, ?yh1_32⟩) (by assumption) ?rh1_32
                case yh1_32 => intro w hSw; (try dsimp only at hSw); go_simp; (try with_reducible rfl)
                simp only [Act.put, List.setIfInBounds_toArray, List.set_cons_zero, List.set_cons_succ]
                refine wpAnyH_ready (rs := [33]) (by kernel_rfl) (by simp) ?_
                refine AllReadyH.cons (o := { dst := some 64, op := Op.call { callee := Callee.value (Operand.func 20), args := #[Operand.tmp 60, Operand.tmp 61, Operand.tmp 63], argTypes := #[24, 42, 27] }, type := 4, pos := "law.go:35", after := #[{ on := 29, ground := Ground.data }, { on := 30, ground := Ground.data }, { on := 32, ground := Ground.data }, { on := 28, ground := Ground.chain }, { on := 28, ground := Ground.guard }], guard := some (28, false) }) rfl (fun K hK => ?_) AllReadyH.nil
                go_simp
                (go_at_call 20; refine (q20.out _ ?sh1_33).mono ?_; (case sh1_33 => exact getJA (by assumption)); rintro e w' ⟨rfl, hb⟩; have hk := Aside0.mk (JA.belowW (getJA (by assumption)) hb))
                refine hK.out _ _ ?_ (fun hHeld => ?_)
                · ((refine hss.out _ ?_; (with_reducible repeat (first | exact Aside0.out (by assumption) | exact getJA (by assumption) | refine JA.drew ?_ | refine JA.drewN ?_ _ | refine JA.alloc ?_ _))))
                clear hK K
                try simp only [Act.put, List.setIfInBounds_toArray, List.set_cons_zero, List.set_cons_succ]
                refine wpAnyH_take (i := 34) (oi := { dst := some 65, op := Op.unOp UnOp.not 4 (Operand.tmp 64), type := 4, pos := "law.go:35", after := #[{ on := 33, ground := Ground.data }, { on := 28, ground := Ground.guard }], guard := some (28, false) }) (v := ?h1_34) rfl (by kernel_rfl) (by kernel_rfl) (by kernel_rfl) (fun _ _ _ h => h) (Or.inl ⟨by rfl, ?yh1_34⟩) (by assumption) ?rh1_34
                case yh1_34 => intro w hSw; (try dsimp only at hSw); go_simp; (try with_reducible rfl)
                simp only [Act.put, List.setIfInBounds_toArray, List.set_cons_zero, List.set_cons_succ]
                refine wpAnyH_take (i := 35) (oi := { dst := some 66, op := Op.pick (Operand.tmp 59) (Operand.const (Value.bool true)) (Operand.tmp 65), type := 4, pos := "law.go:35", after := #[{ on := 28, ground := Ground.data }, { on := 34, ground := Ground.data }], guard := none }) (v := ?h1_35) rfl (by kernel_rfl) (by kernel_rfl) (by kernel_rfl) (fun _ _ _ h => h) (Or.inl ⟨by rfl, ?yh1_35⟩) (by assumption) ?rh1_35
                case yh1_35 => intro w hSw; (try dsimp only at hSw); go_simp; (try with_reducible rfl)
                simp only [Act.put, List.setIfInBounds_toArray, List.set_cons_zero, List.set_cons_succ]
                refine wpAnyH_done (by kernel_rfl) ?_ _
                all_goals
                  go_wp2
                  go_meet
                  exact ⟨0, _, _, rfl, rfl, rfl, ⟨L, hk.out⟩⟩
              · rw [hxy] at q12'
                have q12 := Lib.hid q12'.out
                clear q12'
                go_wp2
                refine wp_region_held_drew (S := (fun w' => w'.cell? ⟨X, 1, none⟩ = some (.int .i64 y1) ∧ w'.cell? ⟨X, 2, none⟩ = some (.int .i64 y2) ∧ w'.cell? ⟨X, 3, none⟩ = some (.int .i64 y3) ∧ Aside0 (JA L L P X y0 y1 y2 y3 (.slice A 4096 c) w w'))) (by kernel_rfl) ?_ (fun hHeld => ?_)
                · ((refine hss.out _ ?_; (with_reducible repeat (first | exact Aside0.out (by assumption) | exact getJA (by assumption) | refine JA.drew ?_ | refine JA.drewN ?_ _ | refine JA.alloc ?_ _))))
                refine wpAnyH_take (i := 0) (oi := { dst := some 31, op := Op.move (Operand.tmp 3), type := 24, pos := "law.go:35", after := #[], guard := none }) (v := ?h2_0) rfl (by kernel_rfl) (by kernel_rfl) (by kernel_rfl) (fun _ _ _ h => h) (Or.inl ⟨by rfl, ?yh2_0⟩) (by assumption) ?rh2_0
                case yh2_0 => intro w hSw; (try dsimp only at hSw); go_simp; (try with_reducible rfl)
                simp only [Act.put, List.setIfInBounds_toArray, List.set_cons_zero, List.set_cons_succ]
                refine wpAnyH_take (i := 1) (oi := { dst := some 32, op := Op.fieldAddr 29 (Operand.tmp 6) 1, type := 0, pos := "law.go:35", after := #[], guard := none }) (v := ?h2_1) rfl (by kernel_rfl) (by kernel_rfl) (by kernel_rfl) (fun _ _ _ h => h) (Or.inl ⟨by rfl, ?yh2_1⟩) (by assumption) ?rh2_1
                case yh2_1 => intro w hSw; (try dsimp only at hSw); go_simp; (try with_reducible rfl)
                simp only [Act.put, List.setIfInBounds_toArray, List.set_cons_zero, List.set_cons_succ]
                refine wpAnyH_take (i := 2) (oi := { dst := some 33, op := Op.load 3 (Operand.tmp 32), type := 3, pos := "law.go:35", after := #[{ on := 1, ground := Ground.data }], guard := none }) (v := ?h2_2) rfl (by kernel_rfl) (by kernel_rfl) (by kernel_rfl) (fun _ _ _ h => h) (Or.inl ⟨by rfl, ?yh2_2⟩) (by assumption) ?rh2_2
                case yh2_2 => intro w hSw; (try dsimp only at hSw); go_simp; (try with_reducible rfl)
                simp only [Act.put, List.setIfInBounds_toArray, List.set_cons_zero, List.set_cons_succ]
                refine wpAnyH_take (i := 4) (oi := { dst := some 35, op := Op.move (Operand.tmp 4), type := 42, pos := "law.go:35", after := #[], guard := none }) (v := ?h2_4) rfl (by kernel_rfl) (by kernel_rfl) (by kernel_rfl) (fun _ _ _ h => h) (Or.inl ⟨by rfl, ?yh2_4⟩) (by assumption) ?rh2_4
                case yh2_4 => intro w hSw; (try dsimp only at hSw); go_simp; (try with_reducible rfl)
                simp only [Act.put, List.setIfInBounds_toArray, List.set_cons_zero, List.set_cons_succ]
                refine wpAnyH_take (i := 5) (oi := { dst := some 36, op := Op.fieldAddr 29 (Operand.tmp 6) 1, type := 0, pos := "law.go:35", after := #[], guard := none }) (v := ?h2_5) rfl (by kernel_rfl) (by kernel_rfl) (by kernel_rfl) (fun _ _ _ h => h) (Or.inl ⟨by rfl, ?yh2_5⟩) (by assumption) ?rh2_5
                case yh2_5 => intro w hSw; (try dsimp only at hSw); go_simp; (try with_reducible rfl)
                simp only [Act.put, List.setIfInBounds_toArray, List.set_cons_zero, List.set_cons_succ]
                refine wpAnyH_take (i := 6) (oi := { dst := some 37, op := Op.load 3 (Operand.tmp 36), type := 3, pos := "law.go:35", after := #[{ on := 5, ground := Ground.data }], guard := none }) (v := ?h2_6) rfl (by kernel_rfl) (by kernel_rfl) (by kernel_rfl) (fun _ _ _ h => h) (Or.inl ⟨by rfl, ?yh2_6⟩) (by assumption) ?rh2_6
                case yh2_6 => intro w hSw; (try dsimp only at hSw); go_simp; (try with_reducible rfl)
                simp only [Act.put, List.setIfInBounds_toArray, List.set_cons_zero, List.set_cons_succ]
                refine wpAnyH_ready (rs := [3]) (by kernel_rfl) (by simp) ?_
                refine AllReadyH.cons (o := { dst := some 34, op := Op.call { callee := Callee.value (Operand.func 14), args := #[Operand.tmp 31, Operand.tmp 33], argTypes := #[24, 3] }, type := 3, pos := "law.go:35", after := #[{ on := 0, ground := Ground.data }, { on := 2, ground := Ground.data }], guard := none }) rfl (fun K hK => ?_) AllReadyH.nil
                go_simp
                (go_at_call 14; refine (q14.out _ ?sh2_3).mono ?_; (case sh2_3 => exact getJA (by assumption)); rintro e w' ⟨rfl, hb⟩; have hk := Aside0.mk (JA.belowW (getJA (by assumption)) hb))
                refine hK.out _ _ ?_ (fun hHeld => ?_)
                · ((refine hss.out _ ?_; (with_reducible repeat (first | exact Aside0.out (by assumption) | exact getJA (by assumption) | refine JA.drew ?_ | refine JA.drewN ?_ _ | refine JA.alloc ?_ _))))
                clear hK K
                try simp only [Act.put, List.setIfInBounds_toArray, List.set_cons_zero, List.set_cons_succ]
                refine wpAnyH_ready (rs := [7]) (by kernel_rfl) (by simp) ?_
                refine AllReadyH.cons (o := { dst := some 38, op := Op.call { callee := Callee.value (Operand.func 19), args := #[Operand.tmp 35, Operand.tmp 37], argTypes := #[42, 3] }, type := 3, pos := "law.go:35", after := #[{ on := 4, ground := Ground.data }, { on := 6, ground := Ground.data }, { on := 3, ground := Ground.chain }], guard := none }) rfl (fun K hK => ?_) AllReadyH.nil
                go_simp
                (go_at_call 19; refine (q19.out _ ?sh2_7).mono ?_; (case sh2_7 => exact getJA (by assumption)); rintro e w' ⟨rfl, hb⟩; have hk := Aside0.mk (JA.belowW (getJA (by assumption)) hb))
                refine hK.out _ _ ?_ (fun hHeld => ?_)
                · ((refine hss.out _ ?_; (with_reducible repeat (first | exact Aside0.out (by assumption) | exact getJA (by assumption) | refine JA.drew ?_ | refine JA.drewN ?_ _ | refine JA.alloc ?_ _))))
                clear hK K
                try simp only [Act.put, List.setIfInBounds_toArray, List.set_cons_zero, List.set_cons_succ]
                refine wpAnyH_take (i := 8) (oi := { dst := some 39, op := Op.binOp BinOp.neq 3 (Operand.tmp 34) (Operand.tmp 38) 3, type := 4, pos := "law.go:35", after := #[{ on := 3, ground := Ground.data }, { on := 7, ground := Ground.data }], guard := none }) (v := ?h2_8) rfl (by kernel_rfl) (by kernel_rfl) (by kernel_rfl) (fun _ _ _ h => h) (Or.inl ⟨by rfl, ?yh2_8⟩) (by assumption) ?rh2_8
                case yh2_8 => intro w hSw; (try dsimp only at hSw); go_simp; (try with_reducible rfl)
                simp only [Act.put, List.setIfInBounds_toArray, List.set_cons_zero, List.set_cons_succ]
                refine wpAnyH_take (i := 9) (oi := { dst := some 40, op := Op.move (Operand.tmp 39), type := 4, pos := "law.go:35", after := #[{ on := 8, ground := Ground.data }, { on := 7, ground := Ground.chain }], guard := none }) (v := ?h2_9) rfl (by kernel_rfl) (by kernel_rfl) (by kernel_rfl) (fun _ _ _ h => h) (Or.inl ⟨by rfl, ?yh2_9⟩) (by assumption) ?rh2_9
                case yh2_9 => intro w hSw; (try dsimp only at hSw); go_simp; (try with_reducible rfl)
                simp only [Act.put, List.setIfInBounds_toArray, List.set_cons_zero, List.set_cons_succ]
                refine wpAnyH_take (i := 10) (oi := { dst := some 41, op := Op.move (Operand.tmp 3), type := 24, pos := "law.go:35", after := #[{ on := 9, ground := Ground.guard }], guard := some (9, false) }) (v := ?h2_10) rfl (by kernel_rfl) (by kernel_rfl) (by kernel_rfl) (fun _ _ _ h => h) (Or.inl ⟨by rfl, ?yh2_10⟩) (by assumption) ?rh2_10
                case yh2_10 => intro w hSw; (try dsimp only at hSw); go_simp; (try with_reducible rfl)
                simp only [Act.put, List.setIfInBounds_toArray, List.set_cons_zero, List.set_cons_succ]
                refine wpAnyH_take (i := 11) (oi := { dst := some 42, op := Op.fieldAddr 29 (Operand.tmp 6) 1, type := 0, pos := "law.go:35", after := #[{ on := 9, ground := Ground.guard }], guard := some (9, false) }) (v := ?h2_11) rfl (by kernel_rfl) (by kernel_rfl) (by kernel_rfl) (fun _ _ _ h => h) (Or.inl ⟨by rfl, ?yh2_11⟩) (by assumption) ?rh2_11
                case yh2_11 => intro w hSw; (try dsimp only at hSw); go_simp; (try with_reducible rfl)
                simp only [Act.put, List.setIfInBounds_toArray, List.set_cons_zero, List.set_cons_succ]
                refine wpAnyH_take (i := 12) (oi := { dst := some 43, op := Op.load 3 (Operand.tmp 42), type := 3, pos := "law.go:35", after := #[{ on := 11, ground := Ground.data }, { on := 9, ground := Ground.guard }], guard := some (9, false) }) (v := ?h2_12) rfl (by kernel_rfl) (by kernel_rfl) (by kernel_rfl) (fun _ _ _ h => h) (Or.inl ⟨by rfl, ?yh2_12⟩) (by assumption) ?rh2_12
                case yh2_12 => intro w hSw; (try dsimp only at hSw); go_simp; (try with_reducible rfl)
                simp only [Act.put, List.setIfInBounds_toArray, List.set_cons_zero, List.set_cons_succ]
                refine wpAnyH_take (i := 14) (oi := { dst := some 45, op := Op.fieldAddr 29 (Operand.tmp 6) 1, type := 0, pos := "law.go:35", after := #[{ on := 9, ground := Ground.guard }], guard := some (9, false) }) (v := ?h2_14) rfl (by kernel_rfl) (by kernel_rfl) (by kernel_rfl) (fun _ _ _ h => h) (Or.inl ⟨by rfl, ?yh2_14⟩) (by assumption) ?rh2_14
                case yh2_14 => intro w hSw; (try dsimp only at hSw); go_simp; (try with_reducible rfl)
                simp only [Act.put, List.setIfInBounds_toArray, List.set_cons_zero, List.set_cons_succ]
                refine wpAnyH_take (i := 15) (oi := { dst := some 46, op := Op.load 3 (Operand.tmp 45), type := 3, pos := "law.go:35", after := #[{ on := 14, ground := Ground.data }, { on := 9, ground := Ground.guard }], guard := some (9, false) }) (v := ?h2_15) rfl (by kernel_rfl) (by kernel_rfl) (by kernel_rfl) (fun _ _ _ h => h) (Or.inl ⟨by rfl, ?yh2_15⟩) (by assumption) ?rh2_15
                case yh2_15 => intro w hSw; (try dsimp only at hSw); go_simp; (try with_reducible rfl)
                simp only [Act.put, List.setIfInBounds_toArray, List.set_cons_zero, List.set_cons_succ]
                refine wpAnyH_take (i := 16) (oi := { dst := some 47, op := Op.binOp BinOp.geq 3 (Operand.tmp 46) (Operand.const (Value.int IntKind.i64 0)) 3, type := 4, pos := "law.go:35", after := #[{ on := 15, ground := Ground.data }, { on := 9, ground := Ground.guard }], guard := some (9, false) }) (v := ?h2_16) rfl (by kernel_rfl) (by kernel_rfl) (by kernel_rfl) (fun _ _ _ h => h) (Or.inl ⟨by rfl, ?yh2_16⟩) (by assumption) ?rh2_16
                case yh2_16 => intro w hSw; (try dsimp only at hSw); go_simp; (try with_reducible rfl)
                simp only [Act.put, List.setIfInBounds_toArray, List.set_cons_zero, List.set_cons_succ]
                refine wpAnyH_ready (rs := [13]) (by kernel_rfl) (by simp) ?_
                refine AllReadyH.cons (o := { dst := some 44, op := Op.call { callee := Callee.value (Operand.func 12), args := #[Operand.tmp 41, Operand.tmp 43], argTypes := #[24, 3] }, type := 4, pos := "law.go:35", after := #[{ on := 10, ground := Ground.data }, { on := 12, ground := Ground.data }, { on := 9, ground := Ground.chain }, { on := 9, ground := Ground.guard }], guard := some (9, false) }) rfl (fun K hK => ?_) AllReadyH.nil
                go_simp
                (go_at_call 12; refine (q12.out _ ?sh2_13).mono ?_; (case sh2_13 => exact getJA (by assumption)); rintro e w' ⟨rfl, hb⟩; have hk := Aside0.mk (JA.belowW (getJA (by assumption)) hb))
                refine hK.out _ _ ?_ (fun hHeld => ?_)
                · ((refine hss.out _ ?_; (with_reducible repeat (first | exact Aside0.out (by assumption) | exact getJA (by assumption) | refine JA.drew ?_ | refine JA.drewN ?_ _ | refine JA.alloc ?_ _))))
                clear hK K
                try simp only [Act.put, List.setIfInBounds_toArray, List.set_cons_zero, List.set_cons_succ]
                refine wpAnyH_take (i := 17) (oi := { dst := some 48, op := Op.move (Operand.tmp 47), type := 4, pos := "law.go:35", after := #[{ on := 16, ground := Ground.data }, { on := 13, ground := Ground.chain }, { on := 9, ground := Ground.guard }], guard := some (9, false) }) (v := ?h2_17) rfl (by kernel_rfl) (by kernel_rfl) (by kernel_rfl) (fun _ _ _ h => h) (Or.inl ⟨by rfl, ?yh2_17⟩) (by assumption) ?rh2_17
                case yh2_17 => intro w hSw; (try dsimp only at hSw); go_simp; (try with_reducible rfl)
                simp only [Act.put, List.setIfInBounds_toArray, List.set_cons_zero, List.set_cons_succ]
                refine wpAnyH_take (i := 18) (oi := { dst := some 49, op := Op.move (Operand.tmp 4), type := 42, pos := "law.go:35", after := #[{ on := 17, ground := Ground.guard }], guard := some (17, true) }) (v := ?h2_18) rfl (by kernel_rfl) (by kernel_rfl) (by kernel_rfl) (fun _ _ _ h => h) (Or.inl ⟨by rfl, ?yh2_18⟩) (by assumption) ?rh2_18
                case yh2_18 => intro w hSw; (try dsimp only at hSw); go_simp; (try with_reducible rfl)
                simp only [Act.put, List.setIfInBounds_toArray, List.set_cons_zero, List.set_cons_succ]
                refine wpAnyH_take (i := 19) (oi := { dst := some 50, op := Op.fieldAddr 29 (Operand.tmp 6) 1, type := 0, pos := "law.go:35", after := #[{ on := 17, ground := Ground.guard }], guard := some (17, true) }) (v := ?h2_19) rfl (by kernel_rfl) (by kernel_rfl) (by kernel_rfl) (fun _ _ _ h => h) (Or.inl ⟨by rfl, ?yh2_19⟩) (by assumption) ?rh2_19
                case yh2_19 => intro w hSw; (try dsimp only at hSw); go_simp; (try with_reducible rfl)
                simp only [Act.put, List.setIfInBounds_toArray, List.set_cons_zero, List.set_cons_succ]
                refine wpAnyH_take (i := 20) (oi := { dst := some 51, op := Op.load 3 (Operand.tmp 50), type := 3, pos := "law.go:35", after := #[{ on := 19, ground := Ground.data }, { on := 17, ground := Ground.guard }], guard := some (17, true) }) (v := ?h2_20) rfl (by kernel_rfl) (by kernel_rfl) (by kernel_rfl) (fun _ _ _ h => h) (Or.inl ⟨by rfl, ?yh2_20⟩) (by assumption) ?rh2_20
                case yh2_20 => intro w hSw; (try dsimp only at hSw); go_simp; (try with_reducible rfl)
                simp only [Act.put, List.setIfInBounds_toArray, List.set_cons_zero, List.set_cons_succ]
                refine wpAnyH_take (i := 22) (oi := { dst := some 53, op := Op.fieldAddr 29 (Operand.tmp 6) 1, type := 0, pos := "law.go:35", after := #[{ on := 17, ground := Ground.guard }], guard := some (17, true) }) (v := ?h2_22) rfl (by kernel_rfl) (by kernel_rfl) (by kernel_rfl) (fun _ _ _ h => h) (Or.inl ⟨by rfl, ?yh2_22⟩) (by assumption) ?rh2_22
                case yh2_22 => intro w hSw; (try dsimp only at hSw); go_simp; (try with_reducible rfl)
                simp only [Act.put, List.setIfInBounds_toArray, List.set_cons_zero, List.set_cons_succ]
                refine wpAnyH_take (i := 23) (oi := { dst := some 54, op := Op.load 3 (Operand.tmp 53), type := 3, pos := "law.go:35", after := #[{ on := 22, ground := Ground.data }, { on := 17, ground := Ground.guard }], guard := some (17, true) }) (v := ?h2_23) rfl (by kernel_rfl) (by kernel_rfl) (by kernel_rfl) (fun _ _ _ h => h) (Or.inl ⟨by rfl, ?yh2_23⟩) (by assumption) ?rh2_23
                case yh2_23 => intro w hSw; (try dsimp only at hSw); go_simp; (try with_reducible rfl)
                simp only [Act.put, List.setIfInBounds_toArray, List.set_cons_zero, List.set_cons_succ]
                refine wpAnyH_ready (rs := [21]) (by kernel_rfl) (by simp) ?_
                refine AllReadyH.cons (o := { dst := some 52, op := Op.call { callee := Callee.value (Operand.func 19), args := #[Operand.tmp 49, Operand.tmp 51], argTypes := #[42, 3] }, type := 3, pos := "law.go:35", after := #[{ on := 18, ground := Ground.data }, { on := 20, ground := Ground.data }, { on := 17, ground := Ground.chain }, { on := 17, ground := Ground.guard }], guard := some (17, true) }) rfl (fun K hK => ?_) AllReadyH.nil
                go_simp
                (go_at_call 19; refine (q19.out _ ?sh2_21).mono ?_; (case sh2_21 => exact getJA (by assumption)); rintro e w' ⟨rfl, hb⟩; have hk := Aside0.mk (JA.belowW (getJA (by assumption)) hb))
                refine hK.out _ _ ?_ (fun hHeld => ?_)
                · ((refine hss.out _ ?_; (with_reducible repeat (first | exact Aside0.out (by assumption) | exact getJA (by assumption) | refine JA.drew ?_ | refine JA.drewN ?_ _ | refine JA.alloc ?_ _))))
                clear hK K
                try simp only [Act.put, List.setIfInBounds_toArray, List.set_cons_zero, List.set_cons_succ]
                refine wpAnyH_take (i := 24) (oi := { dst := some 55, op := Op.binOp BinOp.eql 3 (Operand.tmp 52) (Operand.tmp 54) 3, type := 4, pos := "law.go:35", after := #[{ on := 21, ground := Ground.data }, { on := 23, ground := Ground.data }, { on := 17, ground := Ground.guard }], guard := some (17, true) }) (v := ?h2_24) rfl (by kernel_rfl) (by kernel_rfl) (by kernel_rfl) (fun _ _ _ h => h) (Or.inl ⟨by rfl, ?yh2_24⟩) (by assumption) ?rh2_24
                case yh2_24 => intro w hSw; (try dsimp only at hSw); go_simp; (try with_reducible rfl)
                simp only [Act.put, List.setIfInBounds_toArray, List.set_cons_zero, List.set_cons_succ]
                refine wpAnyH_take (i := 25) (oi := { dst := some 56, op := Op.pick (Operand.tmp 48) (Operand.tmp 55) (Operand.const (Value.bool false)), type := 4, pos := "law.go:35", after := #[{ on := 17, ground := Ground.data }, { on := 24, ground := Ground.data }, { on := 9, ground := Ground.guard }], guard := some (9, false) }) (v := ?h2_25) rfl (by kernel_rfl) (by kernel_rfl) (by kernel_rfl) (fun _ _ _ h => h) (Or.inl ⟨by rfl, ?yh2_25⟩) (by assumption) ?rh2_25
                case yh2_25 => intro w hSw; (try dsimp only at hSw); go_simp; (try with_reducible rfl)
                simp only [Act.put, List.setIfInBounds_toArray, List.set_cons_zero, List.set_cons_succ]
                refine wpAnyH_take (i := 26) (oi := { dst := some 57, op := Op.binOp BinOp.neq 4 (Operand.tmp 44) (Operand.tmp 56) 4, type := 4, pos := "law.go:35", after := #[{ on := 13, ground := Ground.data }, { on := 25, ground := Ground.data }, { on := 9, ground := Ground.guard }], guard := some (9, false) }) (v := ?h2_26) rfl (by kernel_rfl) (by kernel_rfl) (by kernel_rfl) (fun _ _ _ h => h) (Or.inl ⟨by rfl, ?yh2_26⟩) (by assumption) ?rh2_26
                case yh2_26 => intro w hSw; (try dsimp only at hSw); go_simp; (try with_reducible rfl)
                simp only [Act.put, List.setIfInBounds_toArray, List.set_cons_zero, List.set_cons_succ]
                refine wpAnyH_take (i := 27) (oi := { dst := some 58, op := Op.pick (Operand.tmp 40) (Operand.const (Value.bool true)) (Operand.tmp 57), type := 4, pos := "law.go:35", after := #[{ on := 9, ground := Ground.data }, { on := 26, ground := Ground.data }], guard := none }) (v := ?h2_27) rfl (by kernel_rfl) (by kernel_rfl) (by kernel_rfl) (fun _ _ _ h => h) (Or.inl ⟨by rfl, ?yh2_27⟩) (by assumption) ?rh2_27
                case yh2_27 => intro w hSw; (try dsimp only at hSw); go_simp; (try with_reducible rfl)
                simp only [Act.put, List.setIfInBounds_toArray, List.set_cons_zero, List.set_cons_succ]
                refine wpAnyH_take (i := 28) (oi := { dst := some 59, op := Op.move (Operand.tmp 58), type := 4, pos := "law.go:35", after := #[{ on := 27, ground := Ground.data }, { on := 21, ground := Ground.chain }], guard := none }) (v := ?h2_28) rfl (by kernel_rfl) (by kernel_rfl) (by kernel_rfl) (fun _ _ _ h => h) (Or.inl ⟨by rfl, ?yh2_28⟩) (by assumption) ?rh2_28
                case yh2_28 => intro w hSw; (try dsimp only at hSw); go_simp; (try with_reducible rfl)
                simp only [Act.put, List.setIfInBounds_toArray, List.set_cons_zero, List.set_cons_succ]
                refine wpAnyH_take (i := 29) (oi := { dst := some 60, op := Op.move (Operand.tmp 3), type := 24, pos := "law.go:35", after := #[{ on := 28, ground := Ground.guard }], guard := some (28, false) }) (v := ?h2_29) rfl (by kernel_rfl) (by kernel_rfl) (by kernel_rfl) (fun _ _ _ h => h) (Or.inl ⟨by rfl, ?yh2_29⟩) (by assumption) ?rh2_29
                case yh2_29 => intro w hSw; (try dsimp only at hSw); go_simp; (try with_reducible rfl)
                simp only [Act.put, List.setIfInBounds_toArray, List.set_cons_zero, List.set_cons_succ]
                refine wpAnyH_take (i := 30) (oi := { dst := some 61, op := Op.move (Operand.tmp 4), type := 42, pos := "law.go:35", after := #[{ on := 28, ground := Ground.guard }], guard := some (28, false) }) (v := ?h2_30) rfl (by kernel_rfl) (by kernel_rfl) (by kernel_rfl) (fun _ _ _ h => h) (Or.inl ⟨by rfl, ?yh2_30⟩) (by assumption) ?rh2_30
                case yh2_30 => intro w hSw; (try dsimp only at hSw); go_simp; (try with_reducible rfl)
                simp only [Act.put, List.setIfInBounds_toArray, List.set_cons_zero, List.set_cons_succ]
                refine wpAnyH_take (i := 31) (oi := { dst := some 62, op := Op.fieldAddr 29 (Operand.tmp 6) 2, type := 0, pos := "law.go:35", after := #[{ on := 28, ground := Ground.guard }], guard := some (28, false) }) (v := ?h2_31) rfl (by kernel_rfl) (by kernel_rfl) (by kernel_rfl) (fun _ _ _ h => h) (Or.inl ⟨by rfl, ?yh2_31⟩) (by assumption) ?rh2_31
                case yh2_31 => intro w hSw; (try dsimp only at hSw); go_simp; (try with_reducible rfl)
                simp only [Act.put, List.setIfInBounds_toArray, List.set_cons_zero, List.set_cons_succ]
                refine wpAnyH_take (i := 32) (oi := { dst := some 63, op := Op.load 27 (Operand.tmp 62), type := 27, pos := "law.go:35", after := #[{ on := 31, ground := Ground.data }, { on := 28, ground := Ground.guard }], guard := some (28, false) }) (v := ?h2_32) rfl (by kernel_rfl) (by kernel_rfl) (by kernel_rfl) (fun _ _ _ h => h) (Or.inl ⟨by rfl, ?yh2_32⟩) (by assumption) ?rh2_32
                case yh2_32 => intro w hSw; (try dsimp only at hSw); go_simp; (try with_reducible rfl)
                simp only [Act.put, List.setIfInBounds_toArray, List.set_cons_zero, List.set_cons_succ]
                refine wpAnyH_ready (rs := [33]) (by kernel_rfl) (by simp) ?_
                refine AllReadyH.cons (o := { dst := some 64, op := Op.call { callee := Callee.value (Operand.func 20), args := #[Operand.tmp 60, Operand.tmp 61, Operand.tmp 63], argTypes := #[24, 42, 27] }, type := 4, pos := "law.go:35", after := #[{ on := 29, ground := Ground.data }, { on := 30, ground := Ground.data }, { on := 32, ground := Ground.data }, { on := 28, ground := Ground.chain }, { on := 28, ground := Ground.guard }], guard := some (28, false) }) rfl (fun K hK => ?_) AllReadyH.nil
                go_simp
                (go_at_call 20; refine (q20.out _ ?sh2_33).mono ?_; (case sh2_33 => exact getJA (by assumption)); rintro e w' ⟨rfl, hb⟩; have hk := Aside0.mk (JA.belowW (getJA (by assumption)) hb))
                refine hK.out _ _ ?_ (fun hHeld => ?_)
                · ((refine hss.out _ ?_; (with_reducible repeat (first | exact Aside0.out (by assumption) | exact getJA (by assumption) | refine JA.drew ?_ | refine JA.drewN ?_ _ | refine JA.alloc ?_ _))))
                clear hK K
                try simp only [Act.put, List.setIfInBounds_toArray, List.set_cons_zero, List.set_cons_succ]
                refine wpAnyH_take (i := 34) (oi := { dst := some 65, op := Op.unOp UnOp.not 4 (Operand.tmp 64), type := 4, pos := "law.go:35", after := #[{ on := 33, ground := Ground.data }, { on := 28, ground := Ground.guard }], guard := some (28, false) }) (v := ?h2_34) rfl (by kernel_rfl) (by kernel_rfl) (by kernel_rfl) (fun _ _ _ h => h) (Or.inl ⟨by rfl, ?yh2_34⟩) (by assumption) ?rh2_34
                case yh2_34 => intro w hSw; (try dsimp only at hSw); go_simp; (try with_reducible rfl)
                simp only [Act.put, List.setIfInBounds_toArray, List.set_cons_zero, List.set_cons_succ]
                refine wpAnyH_take (i := 35) (oi := { dst := some 66, op := Op.pick (Operand.tmp 59) (Operand.const (Value.bool true)) (Operand.tmp 65), type := 4, pos := "law.go:35", after := #[{ on := 28, ground := Ground.data }, { on := 34, ground := Ground.data }], guard := none }) (v := ?h2_35) rfl (by kernel_rfl) (by kernel_rfl) (by kernel_rfl) (fun _ _ _ h => h) (Or.inl ⟨by rfl, ?yh2_35⟩) (by assumption) ?rh2_35
                case yh2_35 => intro w hSw; (try dsimp only at hSw); go_simp; (try with_reducible rfl)
                simp only [Act.put, List.setIfInBounds_toArray, List.set_cons_zero, List.set_cons_succ]
                refine wpAnyH_done (by kernel_rfl) ?_ _
                all_goals
                  go_wp2
                  go_meet
                  exact ⟨0, _, _, rfl, rfl, rfl, ⟨L, hk.out⟩⟩
            · have z1 : decide (0 ≤ y1) = false := decide_eq_false hy
              have hq := hn.2 (by omega)
              rw [hq] at q12'
              have q12 := Lib.hid q12'.out
              clear hn hy hq q12'
              go_wp2
              refine wp_region_held_drew (S := (fun w' => w'.cell? ⟨X, 1, none⟩ = some (.int .i64 y1) ∧ w'.cell? ⟨X, 2, none⟩ = some (.int .i64 y2) ∧ w'.cell? ⟨X, 3, none⟩ = some (.int .i64 y3) ∧ Aside0 (JA L L P X y0 y1 y2 y3 (.slice A 4096 c) w w'))) (by kernel_rfl) ?_ (fun hHeld => ?_)
              · ((refine hss.out _ ?_; (with_reducible repeat (first | exact Aside0.out (by assumption) | exact getJA (by assumption) | refine JA.drew ?_ | refine JA.drewN ?_ _ | refine JA.alloc ?_ _))))
              refine wpAnyH_take (i := 0) (oi := { dst := some 31, op := Op.move (Operand.tmp 3), type := 24, pos := "law.go:35", after := #[], guard := none }) (v := ?h3_0) rfl (by kernel_rfl) (by kernel_rfl) (by kernel_rfl) (fun _ _ _ h => h) (Or.inl ⟨by rfl, ?yh3_0⟩) (by assumption) ?rh3_0
              case yh3_0 => intro w hSw; (try dsimp only at hSw); go_simp; (try with_reducible rfl)
              simp only [Act.put, List.setIfInBounds_toArray, List.set_cons_zero, List.set_cons_succ]
              refine wpAnyH_take (i := 1) (oi := { dst := some 32, op := Op.fieldAddr 29 (Operand.tmp 6) 1, type := 0, pos := "law.go:35", after := #[], guard := none }) (v := ?h3_1) rfl (by kernel_rfl) (by kernel_rfl) (by kernel_rfl) (fun _ _ _ h => h) (Or.inl ⟨by rfl, ?yh3_1⟩) (by assumption) ?rh3_1
              case yh3_1 => intro w hSw; (try dsimp only at hSw); go_simp; (try with_reducible rfl)
              simp only [Act.put, List.setIfInBounds_toArray, List.set_cons_zero, List.set_cons_succ]
              refine wpAnyH_take (i := 2) (oi := { dst := some 33, op := Op.load 3 (Operand.tmp 32), type := 3, pos := "law.go:35", after := #[{ on := 1, ground := Ground.data }], guard := none }) (v := ?h3_2) rfl (by kernel_rfl) (by kernel_rfl) (by kernel_rfl) (fun _ _ _ h => h) (Or.inl ⟨by rfl, ?yh3_2⟩) (by assumption) ?rh3_2
              case yh3_2 => intro w hSw; (try dsimp only at hSw); go_simp; (try with_reducible rfl)
              simp only [Act.put, List.setIfInBounds_toArray, List.set_cons_zero, List.set_cons_succ]
              refine wpAnyH_take (i := 4) (oi := { dst := some 35, op := Op.move (Operand.tmp 4), type := 42, pos := "law.go:35", after := #[], guard := none }) (v := ?h3_4) rfl (by kernel_rfl) (by kernel_rfl) (by kernel_rfl) (fun _ _ _ h => h) (Or.inl ⟨by rfl, ?yh3_4⟩) (by assumption) ?rh3_4
              case yh3_4 => intro w hSw; (try dsimp only at hSw); go_simp; (try with_reducible rfl)
              simp only [Act.put, List.setIfInBounds_toArray, List.set_cons_zero, List.set_cons_succ]
              refine wpAnyH_take (i := 5) (oi := { dst := some 36, op := Op.fieldAddr 29 (Operand.tmp 6) 1, type := 0, pos := "law.go:35", after := #[], guard := none }) (v := ?h3_5) rfl (by kernel_rfl) (by kernel_rfl) (by kernel_rfl) (fun _ _ _ h => h) (Or.inl ⟨by rfl, ?yh3_5⟩) (by assumption) ?rh3_5
              case yh3_5 => intro w hSw; (try dsimp only at hSw); go_simp; (try with_reducible rfl)
              simp only [Act.put, List.setIfInBounds_toArray, List.set_cons_zero, List.set_cons_succ]
              refine wpAnyH_take (i := 6) (oi := { dst := some 37, op := Op.load 3 (Operand.tmp 36), type := 3, pos := "law.go:35", after := #[{ on := 5, ground := Ground.data }], guard := none }) (v := ?h3_6) rfl (by kernel_rfl) (by kernel_rfl) (by kernel_rfl) (fun _ _ _ h => h) (Or.inl ⟨by rfl, ?yh3_6⟩) (by assumption) ?rh3_6
              case yh3_6 => intro w hSw; (try dsimp only at hSw); go_simp; (try with_reducible rfl)
              simp only [Act.put, List.setIfInBounds_toArray, List.set_cons_zero, List.set_cons_succ]
              refine wpAnyH_ready (rs := [3]) (by kernel_rfl) (by simp) ?_
              refine AllReadyH.cons (o := { dst := some 34, op := Op.call { callee := Callee.value (Operand.func 14), args := #[Operand.tmp 31, Operand.tmp 33], argTypes := #[24, 3] }, type := 3, pos := "law.go:35", after := #[{ on := 0, ground := Ground.data }, { on := 2, ground := Ground.data }], guard := none }) rfl (fun K hK => ?_) AllReadyH.nil
              go_simp
              (go_at_call 14; refine (q14.out _ ?sh3_3).mono ?_; (case sh3_3 => exact getJA (by assumption)); rintro e w' ⟨rfl, hb⟩; have hk := Aside0.mk (JA.belowW (getJA (by assumption)) hb))
              refine hK.out _ _ ?_ (fun hHeld => ?_)
              · ((refine hss.out _ ?_; (with_reducible repeat (first | exact Aside0.out (by assumption) | exact getJA (by assumption) | refine JA.drew ?_ | refine JA.drewN ?_ _ | refine JA.alloc ?_ _))))
              clear hK K
              try simp only [Act.put, List.setIfInBounds_toArray, List.set_cons_zero, List.set_cons_succ]
              refine wpAnyH_ready (rs := [7]) (by kernel_rfl) (by simp) ?_
              refine AllReadyH.cons (o := { dst := some 38, op := Op.call { callee := Callee.value (Operand.func 19), args := #[Operand.tmp 35, Operand.tmp 37], argTypes := #[42, 3] }, type := 3, pos := "law.go:35", after := #[{ on := 4, ground := Ground.data }, { on := 6, ground := Ground.data }, { on := 3, ground := Ground.chain }], guard := none }) rfl (fun K hK => ?_) AllReadyH.nil
              go_simp
              (go_at_call 19; refine (q19.out _ ?sh3_7).mono ?_; (case sh3_7 => exact getJA (by assumption)); rintro e w' ⟨rfl, hb⟩; have hk := Aside0.mk (JA.belowW (getJA (by assumption)) hb))
              refine hK.out _ _ ?_ (fun hHeld => ?_)
              · ((refine hss.out _ ?_; (with_reducible repeat (first | exact Aside0.out (by assumption) | exact getJA (by assumption) | refine JA.drew ?_ | refine JA.drewN ?_ _ | refine JA.alloc ?_ _))))
              clear hK K
              try simp only [Act.put, List.setIfInBounds_toArray, List.set_cons_zero, List.set_cons_succ]
              refine wpAnyH_take (i := 8) (oi := { dst := some 39, op := Op.binOp BinOp.neq 3 (Operand.tmp 34) (Operand.tmp 38) 3, type := 4, pos := "law.go:35", after := #[{ on := 3, ground := Ground.data }, { on := 7, ground := Ground.data }], guard := none }) (v := ?h3_8) rfl (by kernel_rfl) (by kernel_rfl) (by kernel_rfl) (fun _ _ _ h => h) (Or.inl ⟨by rfl, ?yh3_8⟩) (by assumption) ?rh3_8
              case yh3_8 => intro w hSw; (try dsimp only at hSw); go_simp; (try with_reducible rfl)
              simp only [Act.put, List.setIfInBounds_toArray, List.set_cons_zero, List.set_cons_succ]
              refine wpAnyH_take (i := 9) (oi := { dst := some 40, op := Op.move (Operand.tmp 39), type := 4, pos := "law.go:35", after := #[{ on := 8, ground := Ground.data }, { on := 7, ground := Ground.chain }], guard := none }) (v := ?h3_9) rfl (by kernel_rfl) (by kernel_rfl) (by kernel_rfl) (fun _ _ _ h => h) (Or.inl ⟨by rfl, ?yh3_9⟩) (by assumption) ?rh3_9
              case yh3_9 => intro w hSw; (try dsimp only at hSw); go_simp; (try with_reducible rfl)
              simp only [Act.put, List.setIfInBounds_toArray, List.set_cons_zero, List.set_cons_succ]
              refine wpAnyH_take (i := 10) (oi := { dst := some 41, op := Op.move (Operand.tmp 3), type := 24, pos := "law.go:35", after := #[{ on := 9, ground := Ground.guard }], guard := some (9, false) }) (v := ?h3_10) rfl (by kernel_rfl) (by kernel_rfl) (by kernel_rfl) (fun _ _ _ h => h) (Or.inl ⟨by rfl, ?yh3_10⟩) (by assumption) ?rh3_10
              case yh3_10 => intro w hSw; (try dsimp only at hSw); go_simp; (try with_reducible rfl)
              simp only [Act.put, List.setIfInBounds_toArray, List.set_cons_zero, List.set_cons_succ]
              refine wpAnyH_take (i := 11) (oi := { dst := some 42, op := Op.fieldAddr 29 (Operand.tmp 6) 1, type := 0, pos := "law.go:35", after := #[{ on := 9, ground := Ground.guard }], guard := some (9, false) }) (v := ?h3_11) rfl (by kernel_rfl) (by kernel_rfl) (by kernel_rfl) (fun _ _ _ h => h) (Or.inl ⟨by rfl, ?yh3_11⟩) (by assumption) ?rh3_11
              case yh3_11 => intro w hSw; (try dsimp only at hSw); go_simp; (try with_reducible rfl)
              simp only [Act.put, List.setIfInBounds_toArray, List.set_cons_zero, List.set_cons_succ]
              refine wpAnyH_take (i := 12) (oi := { dst := some 43, op := Op.load 3 (Operand.tmp 42), type := 3, pos := "law.go:35", after := #[{ on := 11, ground := Ground.data }, { on := 9, ground := Ground.guard }], guard := some (9, false) }) (v := ?h3_12) rfl (by kernel_rfl) (by kernel_rfl) (by kernel_rfl) (fun _ _ _ h => h) (Or.inl ⟨by rfl, ?yh3_12⟩) (by assumption) ?rh3_12
              case yh3_12 => intro w hSw; (try dsimp only at hSw); go_simp; (try with_reducible rfl)
              simp only [Act.put, List.setIfInBounds_toArray, List.set_cons_zero, List.set_cons_succ]
              refine wpAnyH_take (i := 14) (oi := { dst := some 45, op := Op.fieldAddr 29 (Operand.tmp 6) 1, type := 0, pos := "law.go:35", after := #[{ on := 9, ground := Ground.guard }], guard := some (9, false) }) (v := ?h3_14) rfl (by kernel_rfl) (by kernel_rfl) (by kernel_rfl) (fun _ _ _ h => h) (Or.inl ⟨by rfl, ?yh3_14⟩) (by assumption) ?rh3_14
              case yh3_14 => intro w hSw; (try dsimp only at hSw); go_simp; (try with_reducible rfl)
              simp only [Act.put, List.setIfInBounds_toArray, List.set_cons_zero, List.set_cons_succ]
              refine wpAnyH_take (i := 15) (oi := { dst := some 46, op := Op.load 3 (Operand.tmp 45), type := 3, pos := "law.go:35", after := #[{ on := 14, ground := Ground.data }, { on := 9, ground := Ground.guard }], guard := some (9, false) }) (v := ?h3_15) rfl (by kernel_rfl) (by kernel_rfl) (by kernel_rfl) (fun _ _ _ h => h) (Or.inl ⟨by rfl, ?yh3_15⟩) (by assumption) ?rh3_15
              case yh3_15 => intro w hSw; (try dsimp only at hSw); go_simp; (try with_reducible rfl)
              simp only [Act.put, List.setIfInBounds_toArray, List.set_cons_zero, List.set_cons_succ]
              refine wpAnyH_take (i := 16) (oi := { dst := some 47, op := Op.binOp BinOp.geq 3 (Operand.tmp 46) (Operand.const (Value.int IntKind.i64 0)) 3, type := 4, pos := "law.go:35", after := #[{ on := 15, ground := Ground.data }, { on := 9, ground := Ground.guard }], guard := some (9, false) }) (v := ?h3_16) rfl (by kernel_rfl) (by kernel_rfl) (by kernel_rfl) (fun _ _ _ h => h) (Or.inl ⟨by rfl, ?yh3_16⟩) (by assumption) ?rh3_16
              case yh3_16 => intro w hSw; (try dsimp only at hSw); go_simp; (try with_reducible rfl)
              simp only [Act.put, List.setIfInBounds_toArray, List.set_cons_zero, List.set_cons_succ]
              refine wpAnyH_ready (rs := [13]) (by kernel_rfl) (by simp) ?_
              refine AllReadyH.cons (o := { dst := some 44, op := Op.call { callee := Callee.value (Operand.func 12), args := #[Operand.tmp 41, Operand.tmp 43], argTypes := #[24, 3] }, type := 4, pos := "law.go:35", after := #[{ on := 10, ground := Ground.data }, { on := 12, ground := Ground.data }, { on := 9, ground := Ground.chain }, { on := 9, ground := Ground.guard }], guard := some (9, false) }) rfl (fun K hK => ?_) AllReadyH.nil
              go_simp
              (go_at_call 12; refine (q12.out _ ?sh3_13).mono ?_; (case sh3_13 => exact getJA (by assumption)); rintro e w' ⟨rfl, hb⟩; have hk := Aside0.mk (JA.belowW (getJA (by assumption)) hb))
              refine hK.out _ _ ?_ (fun hHeld => ?_)
              · ((refine hss.out _ ?_; (with_reducible repeat (first | exact Aside0.out (by assumption) | exact getJA (by assumption) | refine JA.drew ?_ | refine JA.drewN ?_ _ | refine JA.alloc ?_ _))))
              clear hK K
              try simp only [Act.put, List.setIfInBounds_toArray, List.set_cons_zero, List.set_cons_succ]
              refine wpAnyH_take (i := 17) (oi := { dst := some 48, op := Op.move (Operand.tmp 47), type := 4, pos := "law.go:35", after := #[{ on := 16, ground := Ground.data }, { on := 13, ground := Ground.chain }, { on := 9, ground := Ground.guard }], guard := some (9, false) }) (v := ?h3_17) rfl (by kernel_rfl) (by kernel_rfl) (by kernel_rfl) (fun _ _ _ h => h) (Or.inl ⟨by rfl, ?yh3_17⟩) (by assumption) ?rh3_17
              case yh3_17 => intro w hSw; (try dsimp only at hSw); go_simp; (try with_reducible rfl)
              simp only [Act.put, List.setIfInBounds_toArray, List.set_cons_zero, List.set_cons_succ]
              refine wpAnyH_take (i := 18) (oi := { dst := some 49, op := Op.move (Operand.tmp 4), type := 42, pos := "law.go:35", after := #[{ on := 17, ground := Ground.guard }], guard := some (17, true) }) (v := undef) rfl (by kernel_rfl) (by kernel_rfl) (by kernel_rfl) (fun _ _ _ h => h) (Or.inr ⟨by rfl, rfl⟩) (by assumption) ?_
              simp only [Act.put, List.setIfInBounds_toArray, List.set_cons_zero, List.set_cons_succ]
              refine wpAnyH_take (i := 19) (oi := { dst := some 50, op := Op.fieldAddr 29 (Operand.tmp 6) 1, type := 0, pos := "law.go:35", after := #[{ on := 17, ground := Ground.guard }], guard := some (17, true) }) (v := undef) rfl (by kernel_rfl) (by kernel_rfl) (by kernel_rfl) (fun _ _ _ h => h) (Or.inr ⟨by rfl, rfl⟩) (by assumption) ?_
              simp only [Act.put, List.setIfInBounds_toArray, List.set_cons_zero, List.set_cons_succ]
              refine wpAnyH_take (i := 20) (oi := { dst := some 51, op := Op.load 3 (Operand.tmp 50), type := 3, pos := "law.go:35", after := #[{ on := 19, ground := Ground.data }, { on := 17, ground := Ground.guard }], guard := some (17, true) }) (v := undef) rfl (by kernel_rfl) (by kernel_rfl) (by kernel_rfl) (fun _ _ _ h => h) (Or.inr ⟨by rfl, rfl⟩) (by assumption) ?_
              simp only [Act.put, List.setIfInBounds_toArray, List.set_cons_zero, List.set_cons_succ]
              refine wpAnyH_take (i := 21) (oi := { dst := some 52, op := Op.call { callee := Callee.value (Operand.func 19), args := #[Operand.tmp 49, Operand.tmp 51], argTypes := #[42, 3] }, type := 3, pos := "law.go:35", after := #[{ on := 18, ground := Ground.data }, { on := 20, ground := Ground.data }, { on := 17, ground := Ground.chain }, { on := 17, ground := Ground.guard }], guard := some (17, true) }) (v := undef) rfl (by kernel_rfl) (by kernel_rfl) (by kernel_rfl) (fun _ _ _ h => h) (Or.inr ⟨by rfl, rfl⟩) (by assumption) ?_
              simp only [Act.put, List.setIfInBounds_toArray, List.set_cons_zero, List.set_cons_succ]
              refine wpAnyH_take (i := 22) (oi := { dst := some 53, op := Op.fieldAddr 29 (Operand.tmp 6) 1, type := 0, pos := "law.go:35", after := #[{ on := 17, ground := Ground.guard }], guard := some (17, true) }) (v := undef) rfl (by kernel_rfl) (by kernel_rfl) (by kernel_rfl) (fun _ _ _ h => h) (Or.inr ⟨by rfl, rfl⟩) (by assumption) ?_
              simp only [Act.put, List.setIfInBounds_toArray, List.set_cons_zero, List.set_cons_succ]
              refine wpAnyH_take (i := 23) (oi := { dst := some 54, op := Op.load 3 (Operand.tmp 53), type := 3, pos := "law.go:35", after := #[{ on := 22, ground := Ground.data }, { on := 17, ground := Ground.guard }], guard := some (17, true) }) (v := undef) rfl (by kernel_rfl) (by kernel_rfl) (by kernel_rfl) (fun _ _ _ h => h) (Or.inr ⟨by rfl, rfl⟩) (by assumption) ?_
              simp only [Act.put, List.setIfInBounds_toArray, List.set_cons_zero, List.set_cons_succ]
              refine wpAnyH_take (i := 24) (oi := { dst := some 55, op := Op.binOp BinOp.eql 3 (Operand.tmp 52) (Operand.tmp 54) 3, type := 4, pos := "law.go:35", after := #[{ on := 21, ground := Ground.data }, { on := 23, ground := Ground.data }, { on := 17, ground := Ground.guard }], guard := some (17, true) }) (v := undef) rfl (by kernel_rfl) (by kernel_rfl) (by kernel_rfl) (fun _ _ _ h => h) (Or.inr ⟨by rfl, rfl⟩) (by assumption) ?_
              simp only [Act.put, List.setIfInBounds_toArray, List.set_cons_zero, List.set_cons_succ]
              refine wpAnyH_take (i := 25) (oi := { dst := some 56, op := Op.pick (Operand.tmp 48) (Operand.tmp 55) (Operand.const (Value.bool false)), type := 4, pos := "law.go:35", after := #[{ on := 17, ground := Ground.data }, { on := 24, ground := Ground.data }, { on := 9, ground := Ground.guard }], guard := some (9, false) }) (v := ?h3_25) rfl (by kernel_rfl) (by kernel_rfl) (by kernel_rfl) (fun _ _ _ h => h) (Or.inl ⟨by rfl, ?yh3_25⟩) (by assumption) ?rh3_25
              case yh3_25 => intro w hSw; (try dsimp only at hSw); go_simp; (try with_reducible rfl)
              simp only [Act.put, List.setIfInBounds_toArray, List.set_cons_zero, List.set_cons_succ]
              refine wpAnyH_take (i := 26) (oi := { dst := some 57, op := Op.binOp BinOp.neq 4 (Operand.tmp 44) (Operand.tmp 56) 4, type := 4, pos := "law.go:35", after := #[{ on := 13, ground := Ground.data }, { on := 25, ground := Ground.data }, { on := 9, ground := Ground.guard }], guard := some (9, false) }) (v := ?h3_26) rfl (by kernel_rfl) (by kernel_rfl) (by kernel_rfl) (fun _ _ _ h => h) (Or.inl ⟨by rfl, ?yh3_26⟩) (by assumption) ?rh3_26
              case yh3_26 => intro w hSw; (try dsimp only at hSw); go_simp; (try with_reducible rfl)
              simp only [Act.put, List.setIfInBounds_toArray, List.set_cons_zero, List.set_cons_succ]
              refine wpAnyH_take (i := 27) (oi := { dst := some 58, op := Op.pick (Operand.tmp 40) (Operand.const (Value.bool true)) (Operand.tmp 57), type := 4, pos := "law.go:35", after := #[{ on := 9, ground := Ground.data }, { on := 26, ground := Ground.data }], guard := none }) (v := ?h3_27) rfl (by kernel_rfl) (by kernel_rfl) (by kernel_rfl) (fun _ _ _ h => h) (Or.inl ⟨by rfl, ?yh3_27⟩) (by assumption) ?rh3_27
              case yh3_27 => intro w hSw; (try dsimp only at hSw); go_simp; (try with_reducible rfl)
              simp only [Act.put, List.setIfInBounds_toArray, List.set_cons_zero, List.set_cons_succ]
              refine wpAnyH_take (i := 28) (oi := { dst := some 59, op := Op.move (Operand.tmp 58), type := 4, pos := "law.go:35", after := #[{ on := 27, ground := Ground.data }, { on := 21, ground := Ground.chain }], guard := none }) (v := ?h3_28) rfl (by kernel_rfl) (by kernel_rfl) (by kernel_rfl) (fun _ _ _ h => h) (Or.inl ⟨by rfl, ?yh3_28⟩) (by assumption) ?rh3_28
              case yh3_28 => intro w hSw; (try dsimp only at hSw); go_simp; (try with_reducible rfl)
              simp only [Act.put, List.setIfInBounds_toArray, List.set_cons_zero, List.set_cons_succ]
              refine wpAnyH_take (i := 29) (oi := { dst := some 60, op := Op.move (Operand.tmp 3), type := 24, pos := "law.go:35", after := #[{ on := 28, ground := Ground.guard }], guard := some (28, false) }) (v := ?h3_29) rfl (by kernel_rfl) (by kernel_rfl) (by kernel_rfl) (fun _ _ _ h => h) (Or.inl ⟨by rfl, ?yh3_29⟩) (by assumption) ?rh3_29
              case yh3_29 => intro w hSw; (try dsimp only at hSw); go_simp; (try with_reducible rfl)
              simp only [Act.put, List.setIfInBounds_toArray, List.set_cons_zero, List.set_cons_succ]
              refine wpAnyH_take (i := 30) (oi := { dst := some 61, op := Op.move (Operand.tmp 4), type := 42, pos := "law.go:35", after := #[{ on := 28, ground := Ground.guard }], guard := some (28, false) }) (v := ?h3_30) rfl (by kernel_rfl) (by kernel_rfl) (by kernel_rfl) (fun _ _ _ h => h) (Or.inl ⟨by rfl, ?yh3_30⟩) (by assumption) ?rh3_30
              case yh3_30 => intro w hSw; (try dsimp only at hSw); go_simp; (try with_reducible rfl)
              simp only [Act.put, List.setIfInBounds_toArray, List.set_cons_zero, List.set_cons_succ]
              refine wpAnyH_take (i := 31) (oi := { dst := some 62, op := Op.fieldAddr 29 (Operand.tmp 6) 2, type := 0, pos := "law.go:35", after := #[{ on := 28, ground := Ground.guard }], guard := some (28, false) }) (v := ?h3_31) rfl (by kernel_rfl) (by kernel_rfl) (by kernel_rfl) (fun _ _ _ h => h) (Or.inl ⟨by rfl, ?yh3_31⟩) (by assumption) ?rh3_31
              case yh3_31 => intro w hSw; (try dsimp only at hSw); go_simp; (try with_reducible rfl)
              simp only [Act.put, List.setIfInBounds_toArray, List.set_cons_zero, List.set_cons_succ]
              refine wpAnyH_take (i := 32) (oi := { dst := some 63, op := Op.load 27 (Operand.tmp 62), type := 27, pos := "law.go:35", after := #[{ on := 31, ground := Ground.data }, { on := 28, ground := Ground.guard }], guard := some (28, false) }) (v := ?h3_32) rfl (by kernel_rfl) (by kernel_rfl) (by kernel_rfl) (fun _ _ _ h => h) (Or.inl ⟨by rfl, ?yh3_32⟩) (by assumption) ?rh3_32
              case yh3_32 => intro w hSw; (try dsimp only at hSw); go_simp; (try with_reducible rfl)
              simp only [Act.put, List.setIfInBounds_toArray, List.set_cons_zero, List.set_cons_succ]
              refine wpAnyH_ready (rs := [33]) (by kernel_rfl) (by simp) ?_
              refine AllReadyH.cons (o := { dst := some 64, op := Op.call { callee := Callee.value (Operand.func 20), args := #[Operand.tmp 60, Operand.tmp 61, Operand.tmp 63], argTypes := #[24, 42, 27] }, type := 4, pos := "law.go:35", after := #[{ on := 29, ground := Ground.data }, { on := 30, ground := Ground.data }, { on := 32, ground := Ground.data }, { on := 28, ground := Ground.chain }, { on := 28, ground := Ground.guard }], guard := some (28, false) }) rfl (fun K hK => ?_) AllReadyH.nil
              go_simp
              (go_at_call 20; refine (q20.out _ ?sh3_33).mono ?_; (case sh3_33 => exact getJA (by assumption)); rintro e w' ⟨rfl, hb⟩; have hk := Aside0.mk (JA.belowW (getJA (by assumption)) hb))
              refine hK.out _ _ ?_ (fun hHeld => ?_)
              · ((refine hss.out _ ?_; (with_reducible repeat (first | exact Aside0.out (by assumption) | exact getJA (by assumption) | refine JA.drew ?_ | refine JA.drewN ?_ _ | refine JA.alloc ?_ _))))
              clear hK K
              try simp only [Act.put, List.setIfInBounds_toArray, List.set_cons_zero, List.set_cons_succ]
              refine wpAnyH_take (i := 34) (oi := { dst := some 65, op := Op.unOp UnOp.not 4 (Operand.tmp 64), type := 4, pos := "law.go:35", after := #[{ on := 33, ground := Ground.data }, { on := 28, ground := Ground.guard }], guard := some (28, false) }) (v := ?h3_34) rfl (by kernel_rfl) (by kernel_rfl) (by kernel_rfl) (fun _ _ _ h => h) (Or.inl ⟨by rfl, ?yh3_34⟩) (by assumption) ?rh3_34
              case yh3_34 => intro w hSw; (try dsimp only at hSw); go_simp; (try with_reducible rfl)
              simp only [Act.put, List.setIfInBounds_toArray, List.set_cons_zero, List.set_cons_succ]
              refine wpAnyH_take (i := 35) (oi := { dst := some 66, op := Op.pick (Operand.tmp 59) (Operand.const (Value.bool true)) (Operand.tmp 65), type := 4, pos := "law.go:35", after := #[{ on := 28, ground := Ground.data }, { on := 34, ground := Ground.data }], guard := none }) (v := ?h3_35) rfl (by kernel_rfl) (by kernel_rfl) (by kernel_rfl) (fun _ _ _ h => h) (Or.inl ⟨by rfl, ?yh3_35⟩) (by assumption) ?rh3_35
              case yh3_35 => intro w hSw; (try dsimp only at hSw); go_simp; (try with_reducible rfl)
              simp only [Act.put, List.setIfInBounds_toArray, List.set_cons_zero, List.set_cons_succ]
              refine wpAnyH_done (by kernel_rfl) ?_ _
              all_goals
                go_wp2
                go_meet
                exact ⟨0, _, _, rfl, rfl, rfl, ⟨L, hk.out⟩⟩
      case rest =>
        obtain ⟨cc, A', c', rfl, rfl, rfl, ⟨L', HJ2⟩⟩ := hcut
        replace HJ2 := Aside0.mk HJ2
        clear HJ
        have q13 := Lib.hid fun w' (hj : JA L' L' P X y0 y1 y2 y3 (.slice A' 4096 c') w w') => law_count L' P w w' ⟨hj.law⟩
        have q21 := Lib.hid fun w' (hj : JA L' L' P X y0 y1 y2 y3 (.slice A' 4096 c') w w') => refCount_calls hj.ref hj.law.sp
        have q22 := Lib.hid fun w' (hj : JA L' L' P X y0 y1 y2 y3 (.slice A' 4096 c') w w') => may_calls2 y2 y3 w'
        have q23 := Lib.hid fun w' (hj : JA L' L' P X y0 y1 y2 y3 (.slice A' 4096 c') w w') => refMay_calls y2 y3 w'
        have hss := Lib.hid fun (w' : World) (hj : JA L' L' P X y0 y1 y2 y3 (.slice A' 4096 c') w w') => (show w'.cell? ⟨X, 1, none⟩ = some (.int .i64 y1) ∧ w'.cell? ⟨X, 2, none⟩ = some (.int .i64 y2) ∧ w'.cell? ⟨X, 3, none⟩ = some (.int .i64 y3) ∧ Aside0 (JA L' L' P X y0 y1 y2 y3 (.slice A' 4096 c') w w') from ⟨hj.cells.2.1, hj.cells.2.2.1, hj.cells.2.2.2, ⟨hj⟩⟩)
        generalize cntK L' L'.length = cn at *
        generalize mayB y2 y3 = mb at *
        go_upto_region 19 with (fail)
        refine wp_region_held_drew (S := (fun w' => w'.cell? ⟨X, 1, none⟩ = some (.int .i64 y1) ∧ w'.cell? ⟨X, 2, none⟩ = some (.int .i64 y2) ∧ w'.cell? ⟨X, 3, none⟩ = some (.int .i64 y3) ∧ Aside0 (JA L' L' P X y0 y1 y2 y3 (.slice A' 4096 c') w w'))) (by kernel_rfl) ?_ (fun hHeld => ?_)
        · ((refine hss.out _ ?_; (with_reducible repeat (first | exact Aside0.out (by assumption) | exact getJA (by assumption) | refine JA.drew ?_ | refine JA.drewN ?_ _ | refine JA.alloc ?_ _))))
        refine wpAnyH_take (i := 0) (oi := { dst := some 93, op := Op.move (Operand.tmp 7), type := 30, pos := "law.go:39", after := #[], guard := none }) (v := ?h4_0) rfl (by kernel_rfl) (by kernel_rfl) (by kernel_rfl) (fun _ _ _ h => h) (Or.inl ⟨by rfl, ?yh4_0⟩) (by assumption) ?rh4_0
        case yh4_0 => intro w hSw; (try dsimp only at hSw); go_simp; (try with_reducible rfl)
        simp only [Act.put, List.setIfInBounds_toArray, List.set_cons_zero, List.set_cons_succ]
        refine wpAnyH_take (i := 1) (oi := { dst := some 94, op := Op.move (Operand.tmp 8), type := 30, pos := "law.go:39", after := #[], guard := none }) (v := ?h4_1) rfl (by kernel_rfl) (by kernel_rfl) (by kernel_rfl) (fun _ _ _ h => h) (Or.inl ⟨by rfl, ?yh4_1⟩) (by assumption) ?rh4_1
        case yh4_1 => intro w hSw; (try dsimp only at hSw); go_simp; (try with_reducible rfl)
        simp only [Act.put, List.setIfInBounds_toArray, List.set_cons_zero, List.set_cons_succ]
        refine wpAnyH_take (i := 2) (oi := { dst := some 95, op := Op.binOp BinOp.neq 30 (Operand.tmp 93) (Operand.tmp 94) 30, type := 4, pos := "law.go:39", after := #[{ on := 0, ground := Ground.data }, { on := 1, ground := Ground.data }], guard := none }) (v := ?h4_2) rfl (by kernel_rfl) (by kernel_rfl) (by kernel_rfl) (fun _ _ _ h => h) (Or.inl ⟨by rfl, ?yh4_2⟩) (by assumption) ?rh4_2
        case yh4_2 => intro w hSw; (try dsimp only at hSw); go_simp; (try with_reducible rfl)
        simp only [Act.put, List.setIfInBounds_toArray, List.set_cons_zero, List.set_cons_succ]
        refine wpAnyH_take (i := 3) (oi := { dst := some 96, op := Op.move (Operand.tmp 95), type := 4, pos := "law.go:39", after := #[{ on := 2, ground := Ground.data }], guard := none }) (v := ?h4_3) rfl (by kernel_rfl) (by kernel_rfl) (by kernel_rfl) (fun _ _ _ h => h) (Or.inl ⟨by rfl, ?yh4_3⟩) (by assumption) ?rh4_3
        case yh4_3 => intro w hSw; (try dsimp only at hSw); go_simp; (try with_reducible rfl)
        simp only [Act.put, List.setIfInBounds_toArray, List.set_cons_zero, List.set_cons_succ]
        refine wpAnyH_take (i := 4) (oi := { dst := some 97, op := Op.move (Operand.tmp 3), type := 24, pos := "law.go:39", after := #[{ on := 3, ground := Ground.guard }], guard := some (3, false) }) (v := ?h4_4) rfl (by kernel_rfl) (by kernel_rfl) (by kernel_rfl) (fun _ _ _ h => h) (Or.inl ⟨by rfl, ?yh4_4⟩) (by assumption) ?rh4_4
        case yh4_4 => intro w hSw; (try dsimp only at hSw); go_simp; (try with_reducible rfl)
        simp only [Act.put, List.setIfInBounds_toArray, List.set_cons_zero, List.set_cons_succ]
        refine wpAnyH_take (i := 6) (oi := { dst := some 99, op := Op.move (Operand.tmp 4), type := 42, pos := "law.go:39", after := #[{ on := 3, ground := Ground.guard }], guard := some (3, false) }) (v := ?h4_6) rfl (by kernel_rfl) (by kernel_rfl) (by kernel_rfl) (fun _ _ _ h => h) (Or.inl ⟨by rfl, ?yh4_6⟩) (by assumption) ?rh4_6
        case yh4_6 => intro w hSw; (try dsimp only at hSw); go_simp; (try with_reducible rfl)
        simp only [Act.put, List.setIfInBounds_toArray, List.set_cons_zero, List.set_cons_succ]
        refine wpAnyH_ready (rs := [5]) (by kernel_rfl) (by simp) ?_
        refine AllReadyH.cons (o := { dst := some 98, op := Op.call { callee := Callee.value (Operand.func 13), args := #[Operand.tmp 97], argTypes := #[24] }, type := 3, pos := "law.go:39", after := #[{ on := 4, ground := Ground.data }, { on := 3, ground := Ground.chain }, { on := 3, ground := Ground.guard }], guard := some (3, false) }) rfl (fun K hK => ?_) AllReadyH.nil
        go_simp
        (go_at_call 13; refine (q13.out _ ?sh4_5).mono ?_; (case sh4_5 => exact getJA (by assumption)); rintro e w' ⟨rfl, hb⟩; have hk := Aside0.mk (JA.belowW (getJA (by assumption)) hb))
        refine hK.out _ _ ?_ (fun hHeld => ?_)
        · ((refine hss.out _ ?_; (with_reducible repeat (first | exact Aside0.out (by assumption) | exact getJA (by assumption) | refine JA.drew ?_ | refine JA.drewN ?_ _ | refine JA.alloc ?_ _))))
        clear hK K
        try simp only [Act.put, List.setIfInBounds_toArray, List.set_cons_zero, List.set_cons_succ]
        refine wpAnyH_ready (rs := [7]) (by kernel_rfl) (by simp) ?_
        refine AllReadyH.cons (o := { dst := some 100, op := Op.call { callee := Callee.value (Operand.func 21), args := #[Operand.tmp 99], argTypes := #[42] }, type := 3, pos := "law.go:39", after := #[{ on := 6, ground := Ground.data }, { on := 5, ground := Ground.chain }, { on := 3, ground := Ground.guard }], guard := some (3, false) }) rfl (fun K hK => ?_) AllReadyH.nil
        go_simp
        (go_at_call 21; refine (q21.out _ ?sh4_7).mono ?_; (case sh4_7 => exact getJA (by assumption)); rintro e w' ⟨rfl, hb⟩; have hk := Aside0.mk (JA.belowW (getJA (by assumption)) hb))
        refine hK.out _ _ ?_ (fun hHeld => ?_)
        · ((refine hss.out _ ?_; (with_reducible repeat (first | exact Aside0.out (by assumption) | exact getJA (by assumption) | refine JA.drew ?_ | refine JA.drewN ?_ _ | refine JA.alloc ?_ _))))
        clear hK K
        try simp only [Act.put, List.setIfInBounds_toArray, List.set_cons_zero, List.set_cons_succ]
        refine wpAnyH_take (i := 8) (oi := { dst := some 101, op := Op.binOp BinOp.neq 3 (Operand.tmp 98) (Operand.tmp 100) 3, type := 4, pos := "law.go:39", after := #[{ on := 5, ground := Ground.data }, { on := 7, ground := Ground.data }, { on := 3, ground := Ground.guard }], guard := some (3, false) }) (v := ?h4_8) rfl (by kernel_rfl) (by kernel_rfl) (by kernel_rfl) (fun _ _ _ h => h) (Or.inl ⟨by rfl, ?yh4_8⟩) (by assumption) ?rh4_8
        case yh4_8 => intro w hSw; (try dsimp only at hSw); go_simp; (try with_reducible rfl)
        simp only [Act.put, List.setIfInBounds_toArray, List.set_cons_zero, List.set_cons_succ]
        refine wpAnyH_take (i := 9) (oi := { dst := some 102, op := Op.pick (Operand.tmp 96) (Operand.const (Value.bool true)) (Operand.tmp 101), type := 4, pos := "law.go:39", after := #[{ on := 3, ground := Ground.data }, { on := 8, ground := Ground.data }], guard := none }) (v := ?h4_9) rfl (by kernel_rfl) (by kernel_rfl) (by kernel_rfl) (fun _ _ _ h => h) (Or.inl ⟨by rfl, ?yh4_9⟩) (by assumption) ?rh4_9
        case yh4_9 => intro w hSw; (try dsimp only at hSw); go_simp; (try with_reducible rfl)
        simp only [Act.put, List.setIfInBounds_toArray, List.set_cons_zero, List.set_cons_succ]
        refine wpAnyH_take (i := 10) (oi := { dst := some 103, op := Op.move (Operand.tmp 102), type := 4, pos := "law.go:39", after := #[{ on := 9, ground := Ground.data }, { on := 7, ground := Ground.chain }], guard := none }) (v := ?h4_10) rfl (by kernel_rfl) (by kernel_rfl) (by kernel_rfl) (fun _ _ _ h => h) (Or.inl ⟨by rfl, ?yh4_10⟩) (by assumption) ?rh4_10
        case yh4_10 => intro w hSw; (try dsimp only at hSw); go_simp; (try with_reducible rfl)
        simp only [Act.put, List.setIfInBounds_toArray, List.set_cons_zero, List.set_cons_succ]
        refine wpAnyH_take (i := 11) (oi := { dst := some 104, op := Op.fieldAddr 29 (Operand.tmp 6) 2, type := 0, pos := "law.go:39", after := #[{ on := 10, ground := Ground.guard }], guard := some (10, false) }) (v := ?h4_11) rfl (by kernel_rfl) (by kernel_rfl) (by kernel_rfl) (fun _ _ _ h => h) (Or.inl ⟨by rfl, ?yh4_11⟩) (by assumption) ?rh4_11
        case yh4_11 => intro w hSw; (try dsimp only at hSw); go_simp; (try with_reducible rfl)
        simp only [Act.put, List.setIfInBounds_toArray, List.set_cons_zero, List.set_cons_succ]
        refine wpAnyH_take (i := 12) (oi := { dst := some 105, op := Op.load 27 (Operand.tmp 104), type := 27, pos := "law.go:39", after := #[{ on := 11, ground := Ground.data }, { on := 10, ground := Ground.guard }], guard := some (10, false) }) (v := ?h4_12) rfl (by kernel_rfl) (by kernel_rfl) (by kernel_rfl) (fun _ _ _ h => h) (Or.inl ⟨by rfl, ?yh4_12⟩) (by assumption) ?rh4_12
        case yh4_12 => intro w hSw; (try dsimp only at hSw); go_simp; (try with_reducible rfl)
        simp only [Act.put, List.setIfInBounds_toArray, List.set_cons_zero, List.set_cons_succ]
        refine wpAnyH_take (i := 14) (oi := { dst := some 107, op := Op.fieldAddr 29 (Operand.tmp 6) 2, type := 0, pos := "law.go:39", after := #[{ on := 10, ground := Ground.guard }], guard := some (10, false) }) (v := ?h4_14) rfl (by kernel_rfl) (by kernel_rfl) (by kernel_rfl) (fun _ _ _ h => h) (Or.inl ⟨by rfl, ?yh4_14⟩) (by assumption) ?rh4_14
        case yh4_14 => intro w hSw; (try dsimp only at hSw); go_simp; (try with_reducible rfl)
        simp only [Act.put, List.setIfInBounds_toArray, List.set_cons_zero, List.set_cons_succ]
        refine wpAnyH_take (i := 15) (oi := { dst := some 108, op := Op.load 27 (Operand.tmp 107), type := 27, pos := "law.go:39", after := #[{ on := 14, ground := Ground.data }, { on := 10, ground := Ground.guard }], guard := some (10, false) }) (v := ?h4_15) rfl (by kernel_rfl) (by kernel_rfl) (by kernel_rfl) (fun _ _ _ h => h) (Or.inl ⟨by rfl, ?yh4_15⟩) (by assumption) ?rh4_15
        case yh4_15 => intro w hSw; (try dsimp only at hSw); go_simp; (try with_reducible rfl)
        simp only [Act.put, List.setIfInBounds_toArray, List.set_cons_zero, List.set_cons_succ]
        refine wpAnyH_ready (rs := [13]) (by kernel_rfl) (by simp) ?_
        refine AllReadyH.cons (o := { dst := some 106, op := Op.call { callee := Callee.value (Operand.func 22), args := #[Operand.tmp 105], argTypes := #[27] }, type := 4, pos := "law.go:39", after := #[{ on := 12, ground := Ground.data }, { on := 10, ground := Ground.chain }, { on := 10, ground := Ground.guard }], guard := some (10, false) }) rfl (fun K hK => ?_) AllReadyH.nil
        go_simp
        (go_at_call 22; refine (q22.out _ ?sh4_13).mono ?_; (case sh4_13 => exact getJA (by assumption)); rintro e w' ⟨rfl, hb⟩; have hk := Aside0.mk (JA.belowW (getJA (by assumption)) hb))
        refine hK.out _ _ ?_ (fun hHeld => ?_)
        · ((refine hss.out _ ?_; (with_reducible repeat (first | exact Aside0.out (by assumption) | exact getJA (by assumption) | refine JA.drew ?_ | refine JA.drewN ?_ _ | refine JA.alloc ?_ _))))
        clear hK K
        try simp only [Act.put, List.setIfInBounds_toArray, List.set_cons_zero, List.set_cons_succ]
        refine wpAnyH_ready (rs := [16]) (by kernel_rfl) (by simp) ?_
        refine AllReadyH.cons (o := { dst := some 109, op := Op.call { callee := Callee.value (Operand.func 23), args := #[Operand.tmp 108], argTypes := #[27] }, type := 4, pos := "law.go:39", after := #[{ on := 15, ground := Ground.data }, { on := 13, ground := Ground.chain }, { on := 10, ground := Ground.guard }], guard := some (10, false) }) rfl (fun K hK => ?_) AllReadyH.nil
        go_simp
        (go_at_call 23; refine (q23.out _ ?sh4_16).mono ?_; (case sh4_16 => exact getJA (by assumption)); rintro e w' ⟨rfl, hb⟩; have hk := Aside0.mk (JA.belowW (getJA (by assumption)) hb))
        refine hK.out _ _ ?_ (fun hHeld => ?_)
        · ((refine hss.out _ ?_; (with_reducible repeat (first | exact Aside0.out (by assumption) | exact getJA (by assumption) | refine JA.drew ?_ | refine JA.drewN ?_ _ | refine JA.alloc ?_ _))))
        clear hK K
        try simp only [Act.put, List.setIfInBounds_toArray, List.set_cons_zero, List.set_cons_succ]
        refine wpAnyH_take (i := 17) (oi := { dst := some 110, op := Op.binOp BinOp.neq 4 (Operand.tmp 106) (Operand.tmp 109) 4, type := 4, pos := "law.go:39", after := #[{ on := 13, ground := Ground.data }, { on := 16, ground := Ground.data }, { on := 10, ground := Ground.guard }], guard := some (10, false) }) (v := ?h4_17) rfl (by kernel_rfl) (by kernel_rfl) (by kernel_rfl) (fun _ _ _ h => h) (Or.inl ⟨by rfl, ?yh4_17⟩) (by assumption) ?rh4_17
        case yh4_17 => intro w hSw; (try dsimp only at hSw); go_simp; (try with_reducible rfl)
        simp only [Act.put, List.setIfInBounds_toArray, List.set_cons_zero, List.set_cons_succ]
        refine wpAnyH_take (i := 18) (oi := { dst := some 111, op := Op.pick (Operand.tmp 103) (Operand.const (Value.bool true)) (Operand.tmp 110), type := 4, pos := "law.go:39", after := #[{ on := 10, ground := Ground.data }, { on := 17, ground := Ground.data }], guard := none }) (v := ?h4_18) rfl (by kernel_rfl) (by kernel_rfl) (by kernel_rfl) (fun _ _ _ h => h) (Or.inl ⟨by rfl, ?yh4_18⟩) (by assumption) ?rh4_18
        case yh4_18 => intro w hSw; (try dsimp only at hSw); go_simp; (try with_reducible rfl)
        simp only [Act.put, List.setIfInBounds_toArray, List.set_cons_zero, List.set_cons_succ]
        refine wpAnyH_done (by kernel_rfl) ?_ _
        go_wp2
        go_roundw
        case rel => exact ⟨k + 1, L', A', c', by omega, by omega, rfl, by go_num, ⟨hk.out.law⟩, ⟨hk.out.ref⟩⟩
        case measure => simp [intOf]; omega
    · have hex : zs.length ≤ k ∨ (k < zs.length ∧ 20 ≤ k) := by omega
      have hSp := Lib.hid (law_spans L P w _ HL)
      clear hr hc
      rcases hex with hx | ⟨hx, hx2⟩
      · have yk : decide ((k : Int) < (zs.length : Int)) = false := decide_eq_false (by omega)
        go_wp2_with fail
        refine hSp.out.mono ?_
        rintro e w4 ⟨⟨u, rfl, ho, hb⟩⟩
        have L4 := Aside0.mk (HL.out.below hb)
        have D4 := Aside0.mk (show DAt P w.heap.size L (.slice A 4096 c) w4 from Kd.R_below HD.out hb)
        have B4 := Aside0.mk hb
        obtain ⟨A5, c5, rfl⟩ := Kd.R_slice ho
        have O4 := Aside0.mk ho
        have hC := Lib.hid (spansAll_calls D4.out L4.out.sp)
        clear ho hb hSp D4 L4
        go_wp2_with fail
        refine hC.out.mono ?_
        rintro e w5 ⟨⟨u, rfl, ho, hb⟩⟩
        have B5 := Aside0.mk (B4.out.trans (hb.mono B4.out.size))
        have O5 := Aside0.mk (Kd.R_below O4.out hb)
        obtain ⟨A6, c6, rfl⟩ := Kd.R_slice ho
        have hR := Kd.R_reads' ho
        have hR' := Kd.R_reads' O5.out
        have hS1 := Lib.hid (same_calls L (by have := HL.out.sp.short; omega) A5 A6 c5 c6 w5 hR'.2.2 hR'.2.1 hR.2.2 hR.2.1)
        clear ho hb hC hR hR' B4 O4
        go_wp2_with fail
        refine hS1.out.mono ?_
        rintro e w6 ⟨rfl, hb⟩
        have B6 := Aside0.mk (B5.out.trans (hb.mono B5.out.size))
        have Z6 := Aside0.mk (Spoil.of (Kd.R_below O5.out hb))
        clear hb hS1 B5 O5
        generalize wr = W3 at *
        have hl9 := Lib.hid HL.out.sp.short
        go_wp2
        go_loopw [10, 121] (fun a y wq => ∃ q : Nat, q ≤ L.length ∧ y = .int .i64 q ∧ Aside0 (Below W3.heap.size W3 wq) ∧ Aside0 (Spoil A5 L.length W3.heap.size wq)) (fun _ y _ => L.length - (intOf y).toNat)
        case atStart => exact ⟨0, Nat.zero_le _, rfl, B6, Z6⟩
        case round =>
          clear B6 Z6
          obtain ⟨q, hq, rfl, HB, HZ⟩ := hrel
          have hl8 := hl9.out
          by_cases hlt : q < L.length
          · have yq : decide ((q : Int) < (L.length : Int)) = true := decide_eq_true (by omega)
            have i0 : decide ((0 : Int) ≤ (q : Int)) = true := decide_eq_true (by omega)
            obtain ⟨g, cs, rfl, hg, hcs, hsz⟩ := HZ.out q hlt
            obtain ⟨x0, e0⟩ : ∃ x, cs[q * 2]? = some x := ⟨_, Array.getElem?_eq_getElem (by omega)⟩
            obtain ⟨x1, e1⟩ : ∃ x, cs[q * 2 + 1]? = some x := ⟨_, Array.getElem?_eq_getElem (by omega)⟩
            have d0 := (blk_cell hcs (q * 2)).trans e0
            have d1 := (blk_cell hcs (q * 2 + 1)).trans e1
            have f0 := blk_frozen hcs (q * 2)
            have f1 := blk_frozen hcs (q * 2 + 1)
            have hB2 := Aside0.mk ((HB.out.setCell (p := ⟨g, q * 2, none⟩) hg (.int .i64 9)).setCell (p := ⟨g, q * 2 + 1, none⟩) hg (.int .i64 1))
            have hZ2 := Aside0.mk (Spoil.put hlt hg hcs hsz (q * 2) (.int .i64 9) (q * 2 + 1) (.int .i64 1))
            have hcs' := Aside0.mk hcs
            clear HB HZ hcs hsz e0 e1
            go_wp2
            go_roundw
            case rel => exact ⟨q + 1, by omega, by go_num, hB2, hZ2⟩
            case measure => simp [intOf]; omega
          · obtain rfl : q = L.length := by omega
            have L7 := Aside0.mk (HL.out.below HB.out)
            have D7 := Aside0.mk (show DAt P w.heap.size L (.slice A 4096 c) _ from Kd.R_below HD.out HB.out)
            have hSp := Lib.hid (law_spans L P w _ L7)
            clear HL HD HZ HB
            go_wp2_with fail
            refine hSp.out.mono ?_
            rintro e w8 ⟨⟨u, rfl, ho, hb⟩⟩
            have L8 := Aside0.mk (L7.out.below hb)
            have D8 := Aside0.mk (show DAt P w.heap.size L (.slice A 4096 c) w8 from Kd.R_below D7.out hb)
            obtain ⟨A8, c8, rfl⟩ := Kd.R_slice ho
            have O8 := Aside0.mk ho
            have hC := Lib.hid (spansAll_calls D8.out L8.out.sp)
            clear ho hb hSp D7 L7 D8
            go_wp2_with fail
            refine hC.out.mono ?_
            rintro e w9 ⟨⟨u, rfl, ho, hb⟩⟩
            have L9 := Aside0.mk (L8.out.below hb)
            have O9 := Aside0.mk (Kd.R_below O8.out hb)
            obtain ⟨A9, c9, rfl⟩ := Kd.R_slice ho
            have hR := Kd.R_reads' ho
            have hR' := Kd.R_reads' O9.out
            have hS1 := Lib.hid (same_calls L (by omega) A8 A9 c8 c9 w9 hR'.2.2 hR'.2.1 hR.2.2 hR.2.1)
            clear ho hb hC hR hR' L8 O8 O9
            go_wp2_with fail
            refine hS1.out.mono ?_
            rintro e w10 ⟨rfl, hb⟩
            have L10 := Aside0.mk (L9.out.below hb)
            have hW := Lib.hid (works_calls w10)
            clear hb hS1 L9
            go_wp2_with fail
            refine hW.out.mono ?_
            rintro e w11 ⟨rfl, hb⟩
            have L11 := Aside0.mk (L10.out.below hb)
            clear hb hW L10
            go_wp2
            go_ret
            exact ⟨rfl, L11.out.bel⟩
      · have yk : decide ((k : Int) < (zs.length : Int)) = true := decide_eq_true (by omega)
        have y2' : decide ((k : Int) < 20) = false := decide_eq_false (by omega)
        go_wp2_with fail
        refine hSp.out.mono ?_
        rintro e w4 ⟨⟨u, rfl, ho, hb⟩⟩
        have L4 := Aside0.mk (HL.out.below hb)
        have D4 := Aside0.mk (show DAt P w.heap.size L (.slice A 4096 c) w4 from Kd.R_below HD.out hb)
        have B4 := Aside0.mk hb
        obtain ⟨A5, c5, rfl⟩ := Kd.R_slice ho
        have O4 := Aside0.mk ho
        have hC := Lib.hid (spansAll_calls D4.out L4.out.sp)
        clear ho hb hSp D4 L4
        go_wp2_with fail
        refine hC.out.mono ?_
        rintro e w5 ⟨⟨u, rfl, ho, hb⟩⟩
        have B5 := Aside0.mk (B4.out.trans (hb.mono B4.out.size))
        have O5 := Aside0.mk (Kd.R_below O4.out hb)
        obtain ⟨A6, c6, rfl⟩ := Kd.R_slice ho
        have hR := Kd.R_reads' ho
        have hR' := Kd.R_reads' O5.out
        have hS1 := Lib.hid (same_calls L (by have := HL.out.sp.short; omega) A5 A6 c5 c6 w5 hR'.2.2 hR'.2.1 hR.2.2 hR.2.1)
        clear ho hb hC hR hR' B4 O4
        go_wp2_with fail
        refine hS1.out.mono ?_
        rintro e w6 ⟨rfl, hb⟩
        have B6 := Aside0.mk (B5.out.trans (hb.mono B5.out.size))
        have Z6 := Aside0.mk (Spoil.of (Kd.R_below O5.out hb))
        clear hb hS1 B5 O5
        generalize wr = W3 at *
        have hl9 := Lib.hid HL.out.sp.short
        go_wp2
        go_loopw [10, 121] (fun a y wq => ∃ q : Nat, q ≤ L.length ∧ y = .int .i64 q ∧ Aside0 (Below W3.heap.size W3 wq) ∧ Aside0 (Spoil A5 L.length W3.heap.size wq)) (fun _ y _ => L.length - (intOf y).toNat)
        case atStart => exact ⟨0, Nat.zero_le _, rfl, B6, Z6⟩
        case round =>
          clear B6 Z6
          obtain ⟨q, hq, rfl, HB, HZ⟩ := hrel
          have hl8 := hl9.out
          by_cases hlt : q < L.length
          · have yq : decide ((q : Int) < (L.length : Int)) = true := decide_eq_true (by omega)
            have i0 : decide ((0 : Int) ≤ (q : Int)) = true := decide_eq_true (by omega)
            obtain ⟨g, cs, rfl, hg, hcs, hsz⟩ := HZ.out q hlt
            obtain ⟨x0, e0⟩ : ∃ x, cs[q * 2]? = some x := ⟨_, Array.getElem?_eq_getElem (by omega)⟩
            obtain ⟨x1, e1⟩ : ∃ x, cs[q * 2 + 1]? = some x := ⟨_, Array.getElem?_eq_getElem (by omega)⟩
            have d0 := (blk_cell hcs (q * 2)).trans e0
            have d1 := (blk_cell hcs (q * 2 + 1)).trans e1
            have f0 := blk_frozen hcs (q * 2)
            have f1 := blk_frozen hcs (q * 2 + 1)
            have hB2 := Aside0.mk ((HB.out.setCell (p := ⟨g, q * 2, none⟩) hg (.int .i64 9)).setCell (p := ⟨g, q * 2 + 1, none⟩) hg (.int .i64 1))
            have hZ2 := Aside0.mk (Spoil.put hlt hg hcs hsz (q * 2) (.int .i64 9) (q * 2 + 1) (.int .i64 1))
            have hcs' := Aside0.mk hcs
            clear HB HZ hcs hsz e0 e1
            go_wp2
            go_roundw
            case rel => exact ⟨q + 1, by omega, by go_num, hB2, hZ2⟩
            case measure => simp [intOf]; omega
          · obtain rfl : q = L.length := by omega
            have L7 := Aside0.mk (HL.out.below HB.out)
            have D7 := Aside0.mk (show DAt P w.heap.size L (.slice A 4096 c) _ from Kd.R_below HD.out HB.out)
            have hSp := Lib.hid (law_spans L P w _ L7)
            clear HL HD HZ HB
            go_wp2_with fail
            refine hSp.out.mono ?_
            rintro e w8 ⟨⟨u, rfl, ho, hb⟩⟩
            have L8 := Aside0.mk (L7.out.below hb)
            have D8 := Aside0.mk (show DAt P w.heap.size L (.slice A 4096 c) w8 from Kd.R_below D7.out hb)
            obtain ⟨A8, c8, rfl⟩ := Kd.R_slice ho
            have O8 := Aside0.mk ho
            have hC := Lib.hid (spansAll_calls D8.out L8.out.sp)
            clear ho hb hSp D7 L7 D8
            go_wp2_with fail
            refine hC.out.mono ?_
            rintro e w9 ⟨⟨u, rfl, ho, hb⟩⟩
            have L9 := Aside0.mk (L8.out.below hb)
            have O9 := Aside0.mk (Kd.R_below O8.out hb)
            obtain ⟨A9, c9, rfl⟩ := Kd.R_slice ho
            have hR := Kd.R_reads' ho
            have hR' := Kd.R_reads' O9.out
            have hS1 := Lib.hid (same_calls L (by omega) A8 A9 c8 c9 w9 hR'.2.2 hR'.2.1 hR.2.2 hR.2.1)
            clear ho hb hC hR hR' L8 O8 O9
            go_wp2_with fail
            refine hS1.out.mono ?_
            rintro e w10 ⟨rfl, hb⟩
            have L10 := Aside0.mk (L9.out.below hb)
            have hW := Lib.hid (works_calls w10)
            clear hb hS1 L9
            go_wp2_with fail
            refine hW.out.mono ?_
            rintro e w11 ⟨rfl, hb⟩
            have L11 := Aside0.mk (L10.out.below hb)
            clear hb hW L10
            go_wp2
            go_ret
            exact ⟨rfl, L11.out.bel⟩
end Go.Proofs.Ytaandjafmmpbkaa.PQ
