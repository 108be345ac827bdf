/- CostHists walked. -/
import Derived.Test.YtnamndioodnelaaDoorRanks
import Derived.Test.YtnamndioodnelaaDoorPQx2
namespace Go.Proofs.YtnamndioodnelaaDoor.PQ
open Go.RowKit Go.Proofs.YtnamndioodnelaaDoorW.PrintWords Go.Proofs.YtnamndioodnelaaDoorW.PrintLast Go.Proofs.YtnamndioodnelaaDoorW.PrintMore
set_option linter.unusedVariables false
set_option linter.unusedSimpArgs false
theorem info3 : (Tryd.prog.info? 3).map (fun i => (i.zero, i.size, i.bytes)) = some (some (.int .i64 0), 1, 8) := by kernel_rfl
/-- Two histograms, of blocks B1 and B2, made since w0. -/
structure Inv (B1 B2 : Nat) (w0 : World) (L1 L2 : List Int) (w : World) : Prop where
  one : ∃ v, HistAt v B1 w ∧ Rep v L1
  two : ∃ v, HistAt v B2 w ∧ Rep v L2
  below : Below w0.heap.size w0 w
  b1 : w0.heap.size ≤ B1
  b2 : w0.heap.size ≤ B2
  ne : B1 ≠ B2
theorem Inv.size {B1 B2 : Nat} {w0 w : World} {L1 L2 : List Int} (h : Inv B1 B2 w0 L1 L2 w) : w0.heap.size ≤ w.heap.size := h.below.size
theorem Inv.belowW {B1 B2 : Nat} {w0 w w' : World} {L1 L2 : List Int} (h : Inv B1 B2 w0 L1 L2 w) (d : Below w.heap.size w w') : Inv B1 B2 w0 L1 L2 w' := by
  obtain ⟨v, hv, rv⟩ := h.one
  obtain ⟨u, hu, ru⟩ := h.two
  exact ⟨⟨v, hv.below d, rv⟩, ⟨u, hu.below d, ru⟩, h.below.trans (d.mono h.size), h.b1, h.b2, h.ne⟩
theorem Inv.drawn {B1 B2 : Nat} {w0 w w' : World} {L1 L2 : List Int} (h : Inv B1 B2 w0 L1 L2 w) (d : Drawn0 w w') : Inv B1 B2 w0 L1 L2 w' := h.belowW (Drawn0.below d)
/-- What appends may leave. -/
theorem Inv.grown {B1 B2 : Nat} {w0 w w' : World} {L1 L2 : List Int} (h : Inv B1 B2 w0 L1 L2 w) {row : Option Nat} (hb : Below w0.heap.size w0 w') (hg : w.grownBy w' row) (h1 : row ≠ some B1) (h2 : row ≠ some B2) : Inv B1 B2 w0 L1 L2 w' := by
  obtain ⟨v, hv, rv⟩ := h.one
  obtain ⟨u, hu, ru⟩ := h.two
  exact ⟨⟨v, hv.block (hg.block B1 hv.lt (fun e => h1 e.symm)), rv⟩, ⟨u, hu.block (hg.block B2 hu.lt (fun e => h2 e.symm)), ru⟩, hb, h.b1, h.b2, h.ne⟩
abbrev Out (B1 B2 : Nat) (w0 w : World) (v : Value) (L : List Int) : Prop := Kd.R (Kd.int .i64) 3 w w0.heap.size (fun k => k ≠ B1 ∧ k ≠ B2) v L
theorem out_own {B1 B2 : Nat} {w0 w : World} {v : Value} {L : List Int} (h : Out B1 B2 w0 w v L) : v.ownBlock ≠ some B1 ∧ v.ownBlock ≠ some B2 := by
  refine ⟨fun e => ?_, fun e => ?_⟩
  · exact (h.1 _ e).1 rfl
  · exact (h.1 _ e).2 rfl
theorem out_keep {B1 B2 : Nat} {w0 w w' : World} {v : Value} {L : List Int} (h : Out B1 B2 w0 w v L) {b : Nat} (hb : b = B1 ∨ b = B2) (hg : w.grownBy w' (some b)) : Out B1 B2 w0 w' v L :=
  Kd.R_step h (fun k hk hlt => hg.block k hlt (fun e => by have := Option.some.inj e; rcases hb with rfl | rfl; exact hk.1 this; exact hk.2 this))
theorem add_one {B1 B2 : Nat} {w0 w : World} {L1 L2 : List Int} (h : Inv B1 B2 w0 L1 L2 w) (x : Int) (hx : x ≤ 9223372036854775807) (hs : L1.length + 1 ≤ 1000) {v : Value} {L : List Int} (ho : Out B1 B2 w0 w v L) :
    Calls Tryd.prog 8 #[.pointer (some ⟨B1, 0, none⟩), .int .i64 x] w fun e w' => e = .returned (.int .i64 (if x < 0 then 1 else 0)) ∧ Inv B1 B2 w0 (if x < 0 then L1 else L1 ++ [x]) L2 w' ∧ Out B1 B2 w0 w' v L := by
  by_cases c : x < 0
  · rw [if_pos c, if_pos c]
    exact (add_low B1 x w c).mono fun e w' ⟨h1, h2⟩ => by subst h2; exact ⟨h1, h, ho⟩
  · rw [if_neg c, if_neg c]
    obtain ⟨a, ha, ra⟩ := h.one
    refine (hist_add B1 a x w ha ra.sumOk (by omega) hx).mono fun e w' ⟨h1, h2, h3⟩ => ⟨h1, ?_, out_keep ho (.inl rfl) h3⟩
    obtain ⟨u, hu, ru⟩ := h.two
    exact ⟨⟨_, h2, ra.add x ⟨by omega, hx⟩ hs⟩, ⟨u, hu.ch h3 (Ne.symm h.ne), ru⟩, h.below.grown h3 h.size (fun j hj => by cases hj; exact h.b1), h.b1, h.b2, h.ne⟩
theorem add_two {B1 B2 : Nat} {w0 w : World} {L1 L2 : List Int} (h : Inv B1 B2 w0 L1 L2 w) (x : Int) (hx : x ≤ 9223372036854775807) (hs : L2.length + 1 ≤ 1000) {v : Value} {L : List Int} (ho : Out B1 B2 w0 w v L) :
    Calls Tryd.prog 8 #[.pointer (some ⟨B2, 0, none⟩), .int .i64 x] w fun e w' => (∃ c, e = .returned (.int .i64 c)) ∧ Inv B1 B2 w0 L1 (if x < 0 then L2 else L2 ++ [x]) w' ∧ Out B1 B2 w0 w' v L := by
  by_cases c : x < 0
  · rw [if_pos c]
    exact (add_low B2 x w c).mono fun e w' ⟨h1, h2⟩ => by subst h2; exact ⟨⟨_, h1⟩, h, ho⟩
  · rw [if_neg c]
    obtain ⟨a, ha, ra⟩ := h.two
    refine (hist_add B2 a x w ha ra.sumOk (by omega) hx).mono fun e w' ⟨h1, h2, h3⟩ => ⟨⟨_, h1⟩, ?_, out_keep ho (.inr rfl) h3⟩
    obtain ⟨u, hu, ru⟩ := h.one
    exact ⟨⟨u, hu.ch h3 h.ne, ru⟩, ⟨_, h2, ra.add x ⟨by omega, hx⟩ hs⟩, h.below.grown h3 h.size (fun j hj => by cases hj; exact h.b2), h.b1, h.b2, h.ne⟩
theorem merge_inv {B1 B2 : Nat} {w0 w : World} {L1 L2 : List Int} (h : Inv B1 B2 w0 L1 L2 w) (hs : L1.length + L2.length ≤ 1000) {v : Value} {L : List Int} (ho : Out B1 B2 w0 w v L) :
    Calls Tryd.prog 11 #[.pointer (some ⟨B1, 0, none⟩), .pointer (some ⟨B2, 0, none⟩)] w fun e w' => e = .returned (.int .i64 0) ∧ Inv B1 B2 w0 (L1 ++ L2) L2 w' ∧ Out B1 B2 w0 w' v L := by
  obtain ⟨a, ha, ra⟩ := h.one
  obtain ⟨u, hu, ru⟩ := h.two
  refine (merge_spec B1 B2 a u w ha hu (Ne.symm h.ne) (merge_sumOk u ra) ru.sumOk).mono fun e w' hh => ?_
  obtain ⟨h1, h2', h3⟩ := hh
  have h2 : HistAt (mergeH a u) B1 w' := by unfold mergeH; exact h2'
  refine ⟨h1, ?_, out_keep ho (.inl rfl) h3⟩
  exact ⟨⟨_, h2, ra.merge ru hs⟩, ⟨u, hu.ch h3 (Ne.symm h.ne), ru⟩, h.below.grown h3 h.size (fun j hj => by cases hj; exact h.b1), h.b1, h.b2, h.ne⟩
set_option maxHeartbeats 1000000 in
set_option maxRecDepth 100000 in
theorem costHists_long0 (A0 A1 : Option Addr) (c0 c1 : Nat) (l0 l1 : List Int) (p : Int) (w : World) (hl : 300 < l0.length) :
    Calls Tryd.prog 4 #[.slice A0 l0.length c0, .slice A1 l1.length c1, .int .i64 p] w fun e w' => e = .returned (.bool true) ∧ Below w.heap.size w w' := by
  have y300 : decide ((300 : Int) < (l0.length : Int)) = true := decide_eq_true (by omega)
  clear hl
  go_enter Tryd.func4, Tryd.ntmps4
  go_wp2_with fail
  refine (works_spec _).mono ?_
  rintro e w1 ⟨rfl, hb1⟩
  have hw1 := Aside0.mk hb1
  clear hb1
  go_wp2
  go_ret
  exact ⟨rfl, hw1.out⟩
set_option maxHeartbeats 1000000 in
set_option maxRecDepth 100000 in
theorem costHists_long1 (A0 A1 : Option Addr) (c0 c1 : Nat) (l0 l1 : List Int) (p : Int) (w : World) (hl0 : l0.length ≤ 300) (hl : 300 < l1.length) :
    Calls Tryd.prog 4 #[.slice A0 l0.length c0, .slice A1 l1.length c1, .int .i64 p] w fun e w' => e = .returned (.bool true) ∧ Below w.heap.size w w' := by
  have y0 : decide ((300 : Int) < (l0.length : Int)) = false := decide_eq_false (by omega)
  have y300 : decide ((300 : Int) < (l1.length : Int)) = true := decide_eq_true (by omega)
  clear hl hl0
  go_enter Tryd.func4, Tryd.ntmps4
  go_wp2_with fail
  refine (works_spec _).mono ?_
  rintro e w1 ⟨rfl, hb1⟩
  have hw1 := Aside0.mk hb1
  clear hb1
  go_wp2
  go_ret
  exact ⟨rfl, hw1.out⟩
/-- What the methods and the document's functions answer, where both histograms and the list lie. -/
def Same (B1 B2 : Nat) (w0 : World) (L1 L2 : List Int) (v : Value) (L : List Int) (w : World) : Prop := Aside0 (Inv B1 B2 w0 L1 L2 w) ∧ Aside0 (Out B1 B2 w0 w v L)
theorem same_below {B1 B2 : Nat} {w0 w w' : World} {L1 L2 L : List Int} {v : Value} (h : Inv B1 B2 w0 L1 L2 w) (ho : Out B1 B2 w0 w v L) (d : Below w.heap.size w w') : Same B1 B2 w0 L1 L2 v L w' := ⟨⟨h.belowW d⟩, ⟨Kd.R_below ho d⟩⟩
theorem rank_one {B1 B2 : Nat} {w0 w : World} {L1 L2 L : List Int} {v : Value} (h : Inv B1 B2 w0 L1 L2 w) (ho : Out B1 B2 w0 w v L) (p r : Int) (hr : deckleref42_Rank.f 1200 L1 p = some r) :
    Calls Tryd.prog 10 #[.pointer (some ⟨B1, 0, none⟩), .int .i64 p] w fun e w' => e = .returned (.int .i64 r) ∧ Same B1 B2 w0 L1 L2 v L w' := by
  obtain ⟨a, ha, ra⟩ := h.one
  rw [refRank ra p 1200 (by omega)] at hr
  obtain rfl := Option.some.inj hr
  exact (hist_rank B1 a p w ha ra.countOk).mono fun e w' ⟨h1, h2⟩ => ⟨h1, same_below h ho (Drawn0.below h2)⟩
theorem sum_one {B1 B2 : Nat} {w0 w : World} {L1 L2 L : List Int} {v : Value} (h : Inv B1 B2 w0 L1 L2 w) (ho : Out B1 B2 w0 w v L) (r : Int) (hr : deckleref42_Sum.f 1200 L1 = some r) :
    Calls Tryd.prog 13 #[.pointer (some ⟨B1, 0, none⟩)] w fun e w' => e = .returned (.int .i64 r) ∧ Same B1 B2 w0 L1 L2 v L w' := by
  obtain ⟨a, ha, ra⟩ := h.one
  rw [refSum ra 1200 (by omega)] at hr
  obtain rfl := Option.some.inj hr
  exact (hist_sum B1 a w ha).mono fun e w' ⟨h1, h2⟩ => ⟨h1, by subst h2; exact ⟨⟨h⟩, ⟨ho⟩⟩⟩
theorem bucket_one {B1 B2 : Nat} {w0 w : World} {L1 L2 L : List Int} {v : Value} (h : Inv B1 B2 w0 L1 L2 w) (ho : Out B1 B2 w0 w v L) (i r : Int) (hr : deckleref42_Count.f 1200 L1 i = some r) :
    Calls Tryd.prog 15 #[.pointer (some ⟨B1, 0, none⟩), .int .i64 i] w fun e w' => e = .returned (.int .i64 r) ∧ Same B1 B2 w0 L1 L2 v L w' := by
  obtain ⟨a, ha, ra⟩ := h.one
  rw [refCount_bucket ra i 1200 (by omega)] at hr
  obtain rfl := Option.some.inj hr
  exact (hist_bucket B1 a i w ha).mono fun e w' ⟨h1, h2⟩ => ⟨h1, by subst h2; exact ⟨⟨h⟩, ⟨ho⟩⟩⟩
theorem count_one {B1 B2 : Nat} {w0 w : World} {L1 L2 L : List Int} {v : Value} (h : Inv B1 B2 w0 L1 L2 w) (ho : Out B1 B2 w0 w v L) :
    Calls Tryd.prog 9 #[.pointer (some ⟨B1, 0, none⟩)] w fun e w' => e = .returned (.int .i64 (L1.length : Int)) ∧ Same B1 B2 w0 L1 L2 v L w' := by
  obtain ⟨a, ha, ra⟩ := h.one
  have := hist_count B1 a w ha
  rw [ra.count] at this
  exact this.mono fun e w' ⟨h1, h2⟩ => ⟨h1, by subst h2; exact ⟨⟨h⟩, ⟨ho⟩⟩⟩
theorem most_one {B1 B2 : Nat} {w0 w : World} {L1 L2 L : List Int} {v : Value} (h : Inv B1 B2 w0 L1 L2 w) (ho : Out B1 B2 w0 w v L) :
    Calls Tryd.prog 17 #[.pointer (some ⟨B1, 0, none⟩)] w fun e w' => e = .returned (.int .i64 (L1.foldl max 0)) ∧ Same B1 B2 w0 L1 L2 v L w' := by
  obtain ⟨a, ha, ra⟩ := h.one
  have := hist_most B1 a w ha
  rw [ra.most] at this
  exact this.mono fun e w' ⟨h1, h2⟩ => ⟨h1, by subst h2; exact ⟨⟨h⟩, ⟨ho⟩⟩⟩
theorem ref_rank {B1 B2 : Nat} {w0 w : World} {L1 L2 L : List Int} {A : Option Addr} {c : Nat} (h : Inv B1 B2 w0 L1 L2 w) (ho : Out B1 B2 w0 w (.slice A L.length c) L) (p r : Int) (hr : deckleref42_Rank.f 1200 L p = some r) :
    Calls Tryd.prog 12 #[.slice A L.length c, .int .i64 p] w fun e w' => e = .returned (.int .i64 r) ∧ Same B1 B2 w0 L1 L2 (.slice A L.length c) L w' :=
  (deckleref42_Rank.calls 1200 A c L p r w (Kd.R_reads' ho).2.2 (Kd.R_reads' ho).2.1 hr).mono fun e w' ⟨h1, h2⟩ => ⟨h1, same_below h ho h2⟩
theorem ref_sum {B1 B2 : Nat} {w0 w : World} {L1 L2 L : List Int} {A : Option Addr} {c : Nat} (h : Inv B1 B2 w0 L1 L2 w) (ho : Out B1 B2 w0 w (.slice A L.length c) L) (r : Int) (hr : deckleref42_Sum.f 1200 L = some r) :
    Calls Tryd.prog 14 #[.slice A L.length c] w fun e w' => e = .returned (.int .i64 r) ∧ Same B1 B2 w0 L1 L2 (.slice A L.length c) L w' :=
  (deckleref42_Sum.calls 1200 A c L r w (Kd.R_reads' ho).2.2 (Kd.R_reads' ho).2.1 hr).mono fun e w' ⟨h1, h2⟩ => ⟨h1, same_below h ho (Drawn0.below h2)⟩
theorem ref_count {B1 B2 : Nat} {w0 w : World} {L1 L2 L : List Int} {A : Option Addr} {c : Nat} (h : Inv B1 B2 w0 L1 L2 w) (ho : Out B1 B2 w0 w (.slice A L.length c) L) (i r : Int) (hr : deckleref42_Count.f 1200 L i = some r) :
    Calls Tryd.prog 16 #[.slice A L.length c, .int .i64 i] w fun e w' => e = .returned (.int .i64 r) ∧ Same B1 B2 w0 L1 L2 (.slice A L.length c) L w' :=
  (deckleref42_Count.calls 1200 A c L i r w (Kd.R_reads' ho).2.2 (Kd.R_reads' ho).2.1 hr).mono fun e w' ⟨h1, h2⟩ => ⟨h1, same_below h ho (Drawn0.below h2)⟩
/-- The document's answers are there. -/
theorem refs_there {B1 B2 : Nat} {w0 w : World} {L1 L2 : List Int} (h : Inv B1 B2 w0 L1 L2 w) (p : Int) : ∃ r s, deckleref42_Rank.f 1200 L1 p = some r ∧ deckleref42_Sum.f 1200 L1 = some s := by
  obtain ⟨a, ha, ra⟩ := h.one
  exact ⟨_, _, refRank ra p 1200 (by omega), refSum ra 1200 (by omega)⟩
theorem ref_bucket_there {B1 B2 : Nat} {w0 w : World} {L1 L2 : List Int} (h : Inv B1 B2 w0 L1 L2 w) (p : Int) : ∃ r, deckleref42_Count.f 1200 L1 p = some r := by
  obtain ⟨a, ha, ra⟩ := h.one
  exact ⟨_, refCount_bucket ra p 1200 (by omega)⟩
set_option maxHeartbeats 8000000 in
set_option maxRecDepth 100000 in
theorem costHists_core (A0 A1 : Option Addr) (c0 c1 : Nat) (l0 l1 : List Int) (p : Int) (w : World) (hr0 : Aside0 (Kd.C (Kd.int .i64) w A0 l0.length l0)) (hr1 : Aside0 (Kd.C (Kd.int .i64) w A1 l1.length l1)) (hw0 : Aside0 (∀ x ∈ l0, x ≤ 9223372036854775807)) (hw1 : Aside0 (∀ x ∈ l1, x ≤ 9223372036854775807)) (hl0 : Hid (l0.length ≤ 300)) (hl1 : Hid (l1.length ≤ 300)) :
    Calls Tryd.prog 4 #[.slice A0 l0.length c0, .slice A1 l1.length c1, .int .i64 p] w fun e w' => e = .returned (.bool true) ∧ Below w.heap.size w w' := by
  have y0 : decide ((300 : Int) < (l0.length : Int)) = false := decide_eq_false (by have := hl0.out; omega)
  have y1 : decide ((300 : Int) < (l1.length : Int)) = false := decide_eq_false (by have := hl1.out; omega)
  go_enter Tryd.func4, Tryd.ntmps4
  go_wp2_with fail
  refine (hist_new w).mono ?_
  rintro e w1 ⟨rfl, H1, hb1⟩
  have h1s := H1.lt
  go_wp2_with fail
  refine (hist_new w1).mono ?_
  rintro e w2 ⟨rfl, H2, hb2⟩
  have hI : Aside0 (Inv w.heap.size w1.heap.size w [] [] w2) := ⟨⟨_, H1.below hb2, Rep.nil⟩, ⟨_, H2, Rep.nil⟩, hb1.trans (hb2.mono hb1.size), Nat.le_refl _, hb1.size, by omega⟩
  clear H1 H2 hb1 hb2 h1s
  generalize hC : w.heap.size = B1 at hI ⊢
  generalize w1.heap.size = B2 at hI ⊢
  clear w1
  go_wp2_with fail
  refine (merge_nil B1 w2).mono ?_
  rintro e w3 ⟨rfl, rfl⟩
  go_wp2_with fail
  have hO : Aside0 (Out B1 B2 w w3 (.slice none 0 0) []) := ⟨Kd.R_nil _ _ _ _ _⟩
  go_loopw [9, 10] (fun v i wr => ∃ k : Nat, k ≤ l0.length ∧ i = .int .i64 k ∧ Aside0 (Inv B1 B2 w (Fs l0 k) [] wr) ∧ Aside0 (Out B1 B2 w wr v (Fs l0 k))) (fun _ i _ => l0.length - (intOf i).toNat)
  case atStart => exact ⟨0, by omega, rfl, hI, hO⟩
  case round =>
    clear hI hO
    obtain ⟨k, hk, rfl, HI, HO⟩ := hrel
    by_cases hlt : k < l0.length
    · have yk : decide ((k : Int) < (l0.length : Int)) = true := decide_eq_true (by omega)
      obtain ⟨ad, e1, hx⟩ := Kd.at_int (Kd.C_below hr0.out HI.out.below) (k : Int) (by omega) (by omega)
      cases e1
      rw [Int.toNat_natCast] at hx
      have hmem := hw0.out _ (rd_mem l0 k hlt)
      have hlen := Fs_len l0 k
      have hk9 : k < 300 := by have := hl0.out; omega
      have hsz : Hid ((Fs l0 k).length + 1 ≤ 1000) := Lib.hid (by have := hl0.out; omega)
      have hA0 := add_one (HI.out.drawn (w' := wr.drew) ⟨⟨1, rfl⟩⟩) (rd l0 (k : Int)) hmem hsz.out (Kd.R_drew HO.out)
      have hcell : ∀ w', Inv B1 B2 w (if rd l0 (k : Int) < 0 then Fs l0 k else Fs l0 k ++ [rd l0 (k : Int)]) [] w' → w'.cell? (ad.add k) = some (.int .i64 (rd l0 (k : Int))) := fun w' h => by
        obtain ⟨ad', e2, hx'⟩ := Kd.at_int (Kd.C_below hr0.out h.below) (k : Int) (by omega) (by omega)
        cases e2
        rwa [Int.toNat_natCast] at hx'
      by_cases c : rd l0 (k : Int) < 0
      · have hF := Lib.hid (Fs_neg l0 k hlt c)
        rw [if_pos c] at hA0 hcell
        rw [if_pos c] at hA0
        have hA : Hid (Calls Tryd.prog 8 #[.pointer (some ⟨B1, 0, none⟩), .int .i64 (rd l0 (k : Int))] wr.drew fun e w' => e = .returned (.int .i64 1) ∧ Aside0 (Inv B1 B2 w (Fs l0 k) [] w') ∧ Aside0 (Out B1 B2 w w' u9 (Fs l0 k)) ∧ w'.cell? (ad.add k) = some (.int .i64 (rd l0 (k : Int)))) := Lib.hid (hA0.mono fun e w' h => ⟨h.1, ⟨h.2.1⟩, ⟨h.2.2⟩, hcell w' h.2.1⟩)
        have cg : decide (0 ≤ rd l0 (k : Int)) = false := decide_eq_false (by omega)
        have hx1 : wr.drew.cell? (ad.add k) = some (.int .i64 (rd l0 (k : Int))) := hx
        clear hcell hA0 hmem hlen hsz c HI HO hx
        generalize rd l0 (k : Int) = x at *
        go_wp2_with fail
        go_region_with (go_at_call 8; refine hA.out.mono ?_; rintro e w4 ⟨rfl, HI4, HO4, hx4⟩)
        all_goals
          clear hA hx1
          go_wp2
          go_roundw
          case rel => exact ⟨k + 1, by omega, by go_num, ⟨by rw [hF.out]; exact HI4.out⟩, ⟨by rw [hF.out]; exact HO4.out⟩⟩
          case measure => simp [intOf]; omega
      · have hF := Lib.hid (Fs_pos l0 k hlt (by omega))
        rw [if_neg c] at hA0 hcell
        rw [if_neg c] at hA0
        have hA : Hid (Calls Tryd.prog 8 #[.pointer (some ⟨B1, 0, none⟩), .int .i64 (rd l0 (k : Int))] wr.drew fun e w' => e = .returned (.int .i64 0) ∧ Aside0 (Inv B1 B2 w (Fs l0 k ++ [rd l0 (k : Int)]) [] w') ∧ Aside0 (Out B1 B2 w w' u9 (Fs l0 k)) ∧ w'.cell? (ad.add k) = some (.int .i64 (rd l0 (k : Int)))) := Lib.hid (hA0.mono fun e w' h => ⟨h.1, ⟨h.2.1⟩, ⟨h.2.2⟩, hcell w' h.2.1⟩)
        have cg : decide (0 ≤ rd l0 (k : Int)) = true := decide_eq_true (by omega)
        have hx1 : wr.drew.cell? (ad.add k) = some (.int .i64 (rd l0 (k : Int))) := hx
        clear hcell hA0 hmem hlen c HI HO hx
        generalize rd l0 (k : Int) = x at *
        go_wp2_with fail
        go_region_with (go_at_call 8; refine hA.out.mono ?_; rintro e w4 ⟨rfl, HI4, HO4, hx4⟩)
        all_goals
          clear hA hx1
          have hF8 : Hid (((Fs l0 k).length + 1) * 8 ≤ 140737488355328) := Lib.hid (by have := hsz.out; omega)
          have hB4 : Hid (∀ j, w4.heap.size ≤ j → j ≠ B1 ∧ j ≠ B2) := Lib.hid (by
            obtain ⟨a, ha, _⟩ := HI4.out.one
            obtain ⟨b, hb, _⟩ := HI4.out.two
            have := ha.lt; have := hb.lt
            intro j hj; omega)
          go_wp2_with ((with_reducible refine gate_builtin (b := .append) (xs := #[.tmp 61, .tmp 66]) rfl ?_); at_builtin; refine Kd.R_append (Kd.int .i64) (w0 := w) w.heap.size rfl (.tmp 61) (.tmp 66) 22 3 (.int .i64 0) 8 rfl Tryd.underlying22 info3 rfl (by decide) (by decide) u9 (Fs l0 k) x [.int .i64 x] (fun k => k ≠ B1 ∧ k ≠ B2) (fun _ => False) rfl rfl ?aP (fun _ hk => hk.elim) ?aF ?aO ?aB ?aS ?aL ?_; (case aP => exact rfl); (case aF => exact hB4.out); (case aO => exact HO4.out); (case aB => exact HI4.out.below); (case aS => exact HI4.out.size); (case aL => exact hF8.out); intro v5 w5 ho hb hg hat; have HI5 : Aside0 (Inv B1 B2 w (Fs l0 k ++ [x]) [] w5) := ⟨HI4.out.grown hb hg (out_own HO4.out).1 (out_own HO4.out).2⟩; have HO5 : Aside0 (Out B1 B2 w w5 v5 (Fs l0 k ++ [x])) := ⟨ho⟩; clear ho hb hg hat HI4 HO4)
          go_roundw
          case rel => exact ⟨k + 1, by omega, by go_num, ⟨by rw [hF.out]; exact HI5.out⟩, ⟨by rw [hF.out]; exact HO5.out⟩⟩
          case measure => simp [intOf]; omega
    · obtain rfl : k = l0.length := by omega
      have yk : decide (((l0.length : Nat) : Int) < (l0.length : Int)) = false := decide_eq_false (by omega)
      have hM : Aside0 (∀ x ∈ Fs l0 l0.length, 0 ≤ x ∧ x ≤ 9223372036854775807) := ⟨by obtain ⟨a, _, ra⟩ := HI.out.one; exact ra.ge⟩
      have hMl : Hid ((Fs l0 l0.length).length ≤ 300) := Lib.hid (by have := Fs_len l0 l0.length; have := hl0.out; omega)
      clear hr0 hw0 hl0 hlt
      generalize Fs l0 l0.length = M1 at *
      obtain ⟨A9, c9, rfl⟩ := Kd.R_slice HO.out
      obtain ⟨r, s, er, es⟩ := refs_there HI.out p
      replace er := Lib.hid er
      replace es := Lib.hid es
      go_wp2_with fail
      refine (rank_one HI.out HO.out p r er.out).mono ?_
      clear HI HO
      rintro e w4 ⟨rfl, HI, HO⟩
      go_wp2_with fail
      refine (ref_rank HI.out HO.out p r er.out).mono ?_
      clear HI HO
      rintro e w5 ⟨rfl, HI, HO⟩
      go_wp2_with fail
      refine (sum_one HI.out HO.out s es.out).mono ?_
      clear HI HO
      rintro e w6 ⟨rfl, HI, HO⟩
      go_wp2_with fail
      refine (ref_sum HI.out HO.out s es.out).mono ?_
      clear HI HO
      rintro e w7 ⟨rfl, HI, HO⟩
      go_wp2_with fail
      have HO0 : Aside0 (Out B1 B2 w w7 (.slice A9 M1.length c9) (M1 ++ Fs l1 0)) := ⟨by rw [show Fs l1 0 = [] from rfl, List.append_nil]; exact HO.out⟩
      go_loopw [9, 11] (fun v i wr => ∃ k : Nat, k ≤ l1.length ∧ i = .int .i64 k ∧ Aside0 (Inv B1 B2 w M1 (Fs l1 k) wr) ∧ Aside0 (Out B1 B2 w wr v (M1 ++ Fs l1 k))) (fun _ i _ => l1.length - (intOf i).toNat)
      case atStart => exact ⟨0, by omega, rfl, HI, HO0⟩
      case round =>
        clear HI HO HO0 er es
        obtain ⟨k, hk, rfl, HI, HO⟩ := hrel
        by_cases hlt : k < l1.length
        · have yk : decide ((k : Int) < (l1.length : Int)) = true := decide_eq_true (by omega)
          obtain ⟨ad, e1, hx⟩ := Kd.at_int (Kd.C_below hr1.out HI.out.below) (k : Int) (by omega) (by omega)
          cases e1
          rw [Int.toNat_natCast] at hx
          have hmem := hw1.out _ (rd_mem l1 k hlt)
          have hlen := Fs_len l1 k
          have hk9 : k < 300 := by have := hl1.out; omega
          have hsz : Hid ((Fs l1 k).length + 1 ≤ 1000 ∧ ((M1 ++ Fs l1 k).length + 1) * 8 ≤ 140737488355328) := Lib.hid (by have := hl1.out; have := hMl.out; rw [List.length_append]; omega)
          have hcell : ∀ w', Inv B1 B2 w M1 (Fs l1 k) w' → w'.cell? (ad.add k) = some (.int .i64 (rd l1 (k : Int))) := fun w' h => by
            obtain ⟨ad', e2, hx'⟩ := Kd.at_int (Kd.C_below hr1.out h.below) (k : Int) (by omega) (by omega)
            cases e2
            rwa [Int.toNat_natCast] at hx'
          have hcl := Lib.hid hcell
          have hmm := Lib.hid hmem
          by_cases c : rd l1 (k : Int) < 0
          · have hF := Lib.hid (Fs_neg l1 k hlt c)
            have hN := Lib.hid c
            have cg : decide (0 ≤ rd l1 (k : Int)) = false := decide_eq_false (by omega)
            clear hcell hmem c
            generalize rd l1 (k : Int) = x at *
            go_wp2_with fail
            have hAA := add_two HI.out x hmm.out hsz.out.1 HO.out
            rw [if_pos hN.out] at hAA
            refine hAA.mono ?_
            rintro e w8 ⟨⟨cc, rfl⟩, HI8, HO8⟩
            replace HI8 := Aside0.mk HI8
            replace HO8 := Aside0.mk HO8
            clear hAA HI HO hx
            go_wp2
            go_roundw
            case rel => exact ⟨k + 1, by omega, by go_num, ⟨by rw [hF.out]; exact HI8.out⟩, ⟨by rw [hF.out]; exact HO8.out⟩⟩
            case measure => simp [intOf]; omega
          · have hF := Lib.hid (Fs_pos l1 k hlt (by omega))
            have hN := Lib.hid c
            have cg : decide (0 ≤ rd l1 (k : Int)) = true := decide_eq_true (by omega)
            clear hcell hmem c
            generalize rd l1 (k : Int) = x at *
            have hB4 : Hid (∀ j, wr.heap.size ≤ j → j ≠ B1 ∧ j ≠ B2) := Lib.hid (by
              obtain ⟨a, ha, _⟩ := HI.out.one
              obtain ⟨b, hb, _⟩ := HI.out.two
              have := ha.lt; have := hb.lt
              intro j hj; omega)
            go_wp2_with ((with_reducible refine gate_builtin (b := .append) (xs := #[.tmp 93, .tmp 98]) rfl ?_); at_builtin; refine Kd.R_append (Kd.int .i64) (w0 := w) w.heap.size rfl (.tmp 93) (.tmp 98) 22 3 (.int .i64 0) 8 rfl Tryd.underlying22 info3 rfl (by decide) (by decide) u9 (M1 ++ Fs l1 k) x [.int .i64 x] (fun k => k ≠ B1 ∧ k ≠ B2) (fun _ => False) rfl rfl ?aP (fun _ hk => hk.elim) ?aF ?aO ?aB ?aS ?aL ?_; (case aP => exact rfl); (case aF => exact hB4.out); (case aO => exact HO.out); (case aB => exact HI.out.below); (case aS => exact HI.out.size); (case aL => exact hsz.out.2); intro v5 w5 ho hb hg hat; have HI5 : Aside0 (Inv B1 B2 w M1 (Fs l1 k) w5) := ⟨HI.out.grown hb hg (out_own HO.out).1 (out_own HO.out).2⟩; have HO5 : Aside0 (Out B1 B2 w w5 v5 (M1 ++ Fs l1 k ++ [x])) := ⟨ho⟩; have hx5 := hcl.out w5 HI5.out; clear ho hb hg hat HI HO hx)
            have hAA := add_two HI5.out x hmm.out hsz.out.1 HO5.out
            rw [if_neg (by have := hN.out; omega)] at hAA
            refine hAA.mono ?_
            rintro e w8 ⟨⟨cc, rfl⟩, HI8, HO8⟩
            replace HI8 := Aside0.mk HI8
            replace HO8 := Aside0.mk HO8
            clear hAA HI5 HO5 hx5
            go_wp2
            go_roundw
            case rel => exact ⟨k + 1, by omega, by go_num, ⟨by rw [hF.out]; exact HI8.out⟩, ⟨by rw [hF.out, ← List.append_assoc]; exact HO8.out⟩⟩
            case measure => simp [intOf]; omega
        · obtain rfl : k = l1.length := by omega
          have yk : decide (((l1.length : Nat) : Int) < (l1.length : Int)) = false := decide_eq_false (by omega)
          have hs2 : Hid (M1.length + (Fs l1 l1.length).length ≤ 1000) := Lib.hid (by have := Fs_len l1 l1.length; have := hl1.out; have := hMl.out; omega)
          clear hr1 hw1 hl1 hlt hMl hM
          generalize Fs l1 l1.length = M2 at *
          obtain ⟨A9, c9, rfl⟩ := Kd.R_slice HO.out
          go_wp2_with fail
          refine (merge_inv HI.out hs2.out HO.out).mono ?_
          rintro e w4 ⟨rfl, HI4, HO4⟩
          replace HI := Aside0.mk HI4
          replace HO := Aside0.mk HO4
          have hs3 : Hid ((M1 ++ M2).length ≤ 1000) := Lib.hid (by rw [List.length_append]; exact hs2.out)
          clear HI4 HO4 hs2
          obtain ⟨r, s, er, es⟩ := refs_there HI.out p
          replace er := Lib.hid er
          replace es := Lib.hid es
          generalize M1 ++ M2 = M at *
          go_wp2_with fail
          refine (count_one HI.out HO.out).mono ?_
          clear HI HO
          rintro e w5 ⟨rfl, HI, HO⟩
          go_wp2_with fail
          refine (sum_one HI.out HO.out s es.out).mono ?_
          clear HI HO
          rintro e w6 ⟨rfl, HI, HO⟩
          go_wp2_with fail
          refine (ref_sum HI.out HO.out s es.out).mono ?_
          clear HI HO
          rintro e w7 ⟨rfl, HI, HO⟩
          go_wp2_with fail
          refine (rank_one HI.out HO.out p r er.out).mono ?_
          clear HI HO
          rintro e w8 ⟨rfl, HI, HO⟩
          go_wp2_with fail
          refine (ref_rank HI.out HO.out p r er.out).mono ?_
          clear HI HO er es
          rintro e w9 ⟨rfl, HI, HO⟩
          go_wp2_with fail
          go_loopw [12, 13] (fun m i wr => ∃ k : Nat, k ≤ M.length ∧ i = .int .i64 k ∧ m = .int .i64 ((M.take k).foldl max 0) ∧ Same B1 B2 w M M2 (.slice A9 M.length c9) M wr) (fun _ i _ => M.length - (intOf i).toNat)
          case atStart => exact ⟨0, by omega, rfl, rfl, HI, HO⟩
          case round =>
            clear HI HO
            obtain ⟨k, hk, rfl, rfl, HI, HO⟩ := hrel
            by_cases hlt : k < M.length
            · have yk : decide ((k : Int) < (M.length : Int)) = true := decide_eq_true (by omega)
              obtain ⟨ad, e1, hx⟩ := Kd.at_int (Kd.R_reads' HO.out).2.2 (k : Int) (by omega) (by omega)
              cases e1
              rw [Int.toNat_natCast] at hx
              have hk9 : k < 1000 := by have := hs3.out; omega
              have e2 : Aside0 ((M.take (k + 1)).foldl max 0 = max ((M.take k).foldl max 0) (rd M (k : Int))) := ⟨by rw [take_rd M k hlt, List.foldl_append]; rfl⟩
              generalize rd M (k : Int) = x at *
              go_wp2
              go_roundw
              case rel => exact ⟨k + 1, by omega, by go_num, by rw [e2.out], HI, HO⟩
              case measure => simp [intOf]; omega
            · obtain rfl : k = M.length := by omega
              have yk : decide (((M.length : Nat) : Int) < (M.length : Int)) = false := decide_eq_false (by omega)
              have hT : Aside0 ((M.take M.length).foldl max 0 = M.foldl max 0) := ⟨by rw [List.take_length]⟩
              generalize (M.take M.length).foldl max 0 = mm at *
              clear hlt hk
              go_wp2_with fail
              go_loopw [14] (fun i wr => ∃ k : Nat, k ≤ 67 ∧ i = .int .i64 ((k : Int) - 1) ∧ Same B1 B2 w M M2 (.slice A9 M.length c9) M wr) (fun i _ => 67 - ((intOf i) + 1).toNat)
              case atStart => exact ⟨0, by omega, rfl, HI, HO⟩
              case round =>
                clear HI HO
                obtain ⟨k, hk, rfl, HI, HO⟩ := hrel
                by_cases hlt : k < 67
                · have y66 : decide (((k : Int) - 1) < 66) = true := decide_eq_true (by omega)
                  obtain ⟨r, er⟩ := ref_bucket_there HI.out ((k : Int) - 1)
                  replace er := Lib.hid er
                  have hnext : IntKind.i64.wrap (((k : Int) - 1) + 1) = ((k + 1 : Nat) : Int) - 1 := by rw [i64_w]; unfold wrap64; omega
                  obtain ⟨i, hi⟩ : ∃ i, i = (k : Int) - 1 := ⟨_, rfl⟩
                  rw [← hi] at y66 er hnext ⊢
                  have hkk := Lib.hid hlt
                  have hii := Lib.hid hi
                  clear hlt hk hi
                  go_wp2_with fail
                  refine (bucket_one HI.out HO.out i r er.out).mono ?_
                  clear HI HO
                  rintro e w5 ⟨rfl, HI, HO⟩
                  go_wp2_with fail
                  refine (ref_count HI.out HO.out i r er.out).mono ?_
                  clear HI HO
                  rintro e w6 ⟨rfl, HI, HO⟩
                  go_wp2
                  go_roundw
                  case rel => exact ⟨k + 1, by have := hkk.out; omega, congrArg _ (by omega), HI, HO⟩
                  case measure => have := hkk.out; have := hii.out; simp [intOf]; omega
                · obtain rfl : k = 67 := by omega
                  have y66 : decide ((((67 : Nat) : Int) - 1) < 66) = false := by decide
                  go_wp2_with fail
                  refine (most_one HI.out HO.out).mono ?_
                  rw [← hT.out]
                  clear HI HO
                  rintro e w5 ⟨rfl, HI, HO⟩
                  go_wp2_with fail
                  refine (works_spec _).mono ?_
                  rintro e w6 ⟨rfl, hb⟩
                  have fin := Aside0.mk (HI.out.belowW hb).below
                  go_wp2
                  go_ret
                  exact ⟨rfl, fin.out⟩
end Go.Proofs.YtnamndioodnelaaDoor.PQ
