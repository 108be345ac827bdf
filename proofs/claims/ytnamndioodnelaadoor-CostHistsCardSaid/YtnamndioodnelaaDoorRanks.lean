/- CostRanks walked. -/
import Derived.Test.YtnamndioodnelaaDoorWorks
import Derived.Test.YtnamndioodnelaaDoorPure
namespace Go.Proofs.YtnamndioodnelaaDoor.PQ
open Go.RowKit Go.Proofs.YtnamndioodnelaaDoorW.PrintWords Go.Proofs.YtnamndioodnelaaDoorW.PrintLast Go.Proofs.YtnamndioodnelaaDoorW.PrintMore
set_option linter.unusedVariables false
set_option linter.unusedSimpArgs false
/-- The numbers that are put in: those that are not below 0. -/
def Fs (l : List Int) (k : Nat) : List Int := (l.take k).filter (fun n => decide (0 ≤ n))
theorem Fs_len (l : List Int) (k : Nat) : (Fs l k).length ≤ k := by
  unfold Fs
  have h1 := List.length_filter_le (fun n => decide (0 ≤ n)) (l.take k)
  have h2 := List.length_take_le k l
  omega
theorem take_rd (l : List Int) (k : Nat) (h : k < l.length) : l.take (k + 1) = l.take k ++ [rd l (k : Int)] := by
  rw [List.take_succ_eq_append_getElem h]
  unfold rd
  rw [Int.toNat_natCast, List.getD_eq_getElem?_getD, List.getElem?_eq_getElem h]
  rfl
theorem Fs_neg (l : List Int) (k : Nat) (h : k < l.length) (hx : rd l (k : Int) < 0) : Fs l (k + 1) = Fs l k := by
  unfold Fs
  rw [take_rd l k h, List.filter_append, List.filter_cons, decide_eq_false (by omega)]
  simp
theorem Fs_pos (l : List Int) (k : Nat) (h : k < l.length) (hx : 0 ≤ rd l (k : Int)) : Fs l (k + 1) = Fs l k ++ [rd l (k : Int)] := by
  unfold Fs
  rw [take_rd l k h, List.filter_append, List.filter_cons, decide_eq_true hx]
  simp
set_option maxHeartbeats 8000000 in
set_option maxRecDepth 100000 in
theorem costRanks_core (A0 : Option Addr) (c0 : Nat) (l : List Int) (p q : Int) (w : World) (hr : Aside0 (Kd.C (Kd.int .i64) w A0 l.length l)) (hw : Aside0 (∀ x ∈ l, x ≤ 9223372036854775807)) (hl : l.length ≤ 300) :
    Calls Tryd.prog 3 #[.slice A0 l.length c0, .agg #[.int .i64 p, .int .i64 q]] w fun e w' => e = .returned (.bool true) ∧ Below w.heap.size w w' := by
  have hu23 := Tryd.underlying23
  have y300 : decide ((300 : Int) < (l.length : Int)) = false := decide_eq_false (by omega)
  go_enter Tryd.func3, Tryd.ntmps3
  go_wp2_with fail
  refine (works_spec _).mono ?_
  rintro e w1 ⟨rfl, hb1⟩
  have hrow : Aside0 (w1.heap[w.heap.size]? = some (.cells #[.int .i64 p, .int .i64 q] 23 (0, 0))) := ⟨(hb1.block _ (by simp)).trans (heap_alloc_new w _)⟩
  have hw1 : Aside0 (Below w.heap.size w w1) := ⟨((Below.refl _ w).alloc (Nat.le_refl _) _).trans (hb1.mono (by simp))⟩
  have hlt : Hid (w.heap.size < w1.heap.size) := Lib.hid (Array.getElem?_eq_some_iff.1 hrow.out).1
  generalize hC : w.heap.size = C at *
  clear hb1
  go_wp2_with fail
  refine (hist_new w1).mono ?_
  rintro e w2 ⟨rfl, H0, hb2⟩
  have H0' : Aside0 (HistAt (List.replicate 67 0) w1.heap.size w2) := ⟨H0⟩
  have hw2 : Aside0 (Below C w w2) := ⟨hw1.out.trans (hb2.mono (Nat.le_of_lt hlt.out))⟩
  have hrow2 : Aside0 (w2.heap[C]? = some (.cells #[.int .i64 p, .int .i64 q] 23 (0, 0))) := ⟨(hb2.block _ hlt.out).trans hrow.out⟩
  have hne : Hid (C < w1.heap.size) := hlt
  clear H0 hb2 hw1 hrow hlt
  generalize w1.heap.size = B at *
  clear w1
  go_wp2_with fail
  go_loopw [6, 7, 24] (fun s m i wr => ∃ k : Nat, k ≤ l.length ∧ i = .int .i64 k ∧ s = .int .i64 ((Fs l k).foldl min 9223372036854775807) ∧ m = .int .i64 ((Fs l k).foldl max 0) ∧ Aside0 (∃ v, HistAt v B wr ∧ Rep v (Fs l k)) ∧ Aside0 (Below C w wr) ∧ Aside0 (wr.heap[C]? = some (.cells #[.int .i64 p, .int .i64 q] 23 (0, 0)))) (fun _ _ i _ => l.length - (intOf i).toNat)
  case atStart => exact ⟨0, by omega, rfl, rfl, rfl, ⟨⟨_, H0'.out, Rep.nil⟩⟩, hw2, hrow2⟩
  case round =>
    clear H0' hw2 hrow2
    obtain ⟨k, hk, rfl, rfl, rfl, HK, HB, HR⟩ := hrel
    by_cases hlt : k < l.length
    · have yk : decide ((k : Int) < (l.length : Int)) = true := decide_eq_true (by omega)
      obtain ⟨ad, e1, hx⟩ := Kd.at_int (Kd.C_below hr.out (hC ▸ HB.out)) (k : Int) (by omega) (by omega)
      cases e1
      rw [Int.toNat_natCast] at hx
      obtain ⟨v, HV, hR⟩ := HK.out
      have hBs : Hid (C ≤ wr.heap.size) := Lib.hid (by have := HV.lt; have := hne.out; omega)
      have hmem := hw.out _ (rd_mem l k hlt)
      by_cases hx0 : rd l (k : Int) < 0
      · have hF := Lib.hid (Fs_neg l k hlt hx0)
        have HK1 : Aside0 (∃ v, HistAt v B wr ∧ Rep v (Fs l (k + 1))) := ⟨⟨v, HV, by rw [hF.out]; exact hR⟩⟩
        have hA := add_low B (rd l (k : Int)) wr hx0
        clear HK HV hmem hx0
        generalize rd l (k : Int) = x at hx hA
        go_wp2_with fail
        refine hA.mono ?_
        rintro e w3 ⟨rfl, rfl⟩
        go_wp2
        go_roundw
        case rel => exact ⟨k + 1, by omega, by go_num, by rw [hF.out], by rw [hF.out], HK1, HB, HR⟩
        case measure => simp [intOf]; omega
      · have hx0' : 0 ≤ rd l (k : Int) := by omega
        have hF0 := Fs_pos l k hlt hx0'
        have hlen := Fs_len l k
        have hA := hist_add B v (rd l (k : Int)) wr HV hR.sumOk hx0' hmem
        have hR2 : Aside0 (Rep (addH v (rd l (k : Int))) (Fs l (k + 1))) := ⟨by rw [hF0]; exact hR.add _ ⟨hx0', hmem⟩ (by omega)⟩
        have e1 : Aside0 ((Fs l (k + 1)).foldl min 9223372036854775807 = min ((Fs l k).foldl min 9223372036854775807) (rd l (k : Int))) := ⟨by rw [hF0, List.foldl_append]; rfl⟩
        have e2 : Aside0 ((Fs l (k + 1)).foldl max 0 = max ((Fs l k).foldl max 0) (rd l (k : Int))) := ⟨by rw [hF0, List.foldl_append]; rfl⟩
        clear HK HV hmem hx0 hx0' hF0 hlen hR
        generalize rd l (k : Int) = x at hx hA e1 e2 hR2
        go_wp2_with fail
        refine hA.mono ?_
        rintro e w3 ⟨rfl, H3, g3⟩
        have HB3 : Aside0 (Below C w w3) := ⟨HB.out.grown g3 hBs.out (fun j hj => by cases hj; exact Nat.le_of_lt hne.out)⟩
        have HR3 : Aside0 (w3.heap[C]? = some (.cells #[.int .i64 p, .int .i64 q] 23 (0, 0))) := ⟨(g3.block C (Array.getElem?_eq_some_iff.1 HR.out).1 (fun e => by have := Option.some.inj e; have := hne.out; omega)).trans HR.out⟩
        have HK3 : Aside0 (∃ v, HistAt v B w3 ∧ Rep v (Fs l (k + 1))) := ⟨⟨_, H3, hR2.out⟩⟩
        clear H3 g3 HB HR hx hR2
        go_wp2
        go_roundw
        case rel => exact ⟨k + 1, by omega, by go_num, by rw [e1.out], by rw [e2.out], HK3, HB3, HR3⟩
        case measure => simp [intOf]; omega
    · obtain rfl : k = l.length := by omega
      have y0 : decide (((l.length : Nat) : Int) < (l.length : Int)) = false := decide_eq_false (by omega)
      obtain ⟨v, HV, hR⟩ := HK.out
      have hBs : Hid (C ≤ wr.heap.size) := Lib.hid (by have := HV.lt; have := hne.out; omega)
      have hcount := hR.count
      have hok := hR.countOk
      have hrk : ∀ (n : Nat) (x : Int), Calls Tryd.prog 10 #[.pointer (some ⟨B, 0, none⟩), .int .i64 x] (wr.drewN n) fun e w' => e = .returned (.int .i64 (rankI v x)) ∧ Drawn0 (wr.drewN n) w' := fun n x => hist_rank B v x (wr.drewN n) (HV.drawn ⟨⟨n, rfl⟩⟩) hok
      have hc := hist_count B v wr HV
      have d0 : wr.cell? ⟨C, 0, none⟩ = some (.int .i64 p) := (blk_cell HR.out 0).trans rfl
      have d1 : wr.cell? ⟨C, 1, none⟩ = some (.int .i64 q) := (blk_cell HR.out 1).trans rfl
      have fin : ∀ n, Below C w (wr.drewN n) := fun n => HB.out.trans ((Drawn0.below ⟨⟨n, rfl⟩⟩).mono hBs.out)
      have fin' := Aside0.mk fin
      clear fin HK HV HR HB hok hBs hr hw
      by_cases hL : Fs l l.length = []
      · have r0 : rankI v p = 0 := by unfold rankI; rw [hcount, hL]; rfl
        rw [hcount, hL] at hc
        have hp := hrk 0 p
        rw [r0] at hp
        have hp' := Lib.hid hp
        clear hR hcount hrk r0 hL hp hl
        go_wp2_with fail
        refine hc.mono ?_
        rintro e w3 ⟨rfl, rfl⟩
        go_wp2_with fail
        refine hp'.out.mono ?_
        rintro e w4 ⟨rfl, ⟨m, rfl⟩⟩
        go_wp2
        go_ret
        exact ⟨rfl, hC ▸ fin'.out m⟩
      · have cne : ((((Fs l l.length).length : Nat) : Int) == 0) = false := by
          rw [beq_eq_false_iff_ne]
          have := List.length_pos_iff.2 hL
          omega
        rw [hcount] at hc
        have m1 := rank_mono hR hL (min p q) (max p q) (by omega)
        have m2 := rank_mono hR hL 0 (min p q) (by omega)
        have m3 := rank_mono hR hL (max p q) 1000 (by omega)
        obtain ⟨l1, l2⟩ := rank_last hR hL
        obtain ⟨f1, f2⟩ := rank_first hR hL
        have g1 := rank_range hR hL 1000
        have g2 := rank_range hR hL 0
        have hq : ∀ (x : Int) (n : Nat), Calls Tryd.prog 10 #[.pointer (some ⟨B, 0, none⟩), .int .i64 x] (wr.drewN n) fun e w'' => e = .returned (.int .i64 (rankI v x)) ∧ ∃ m, w'' = wr.drewN m := fun x n =>
          Calls.quiet_of ((hrk n x).mono fun e w' ⟨h1, h2⟩ => ⟨h1, by obtain ⟨m, hm⟩ := h2; exact ⟨m, hm⟩⟩)
        have q1 := hq (min p q)
        have q2 := hq (max p q)
        have q3 := Lib.hid (fun n => hrk n 1000)
        have q4 := Lib.hid (fun n => hrk n 0)
        clear hq hrk hcount hR hL hl
        generalize rankI v (min p q) = a at *
        generalize rankI v (max p q) = b at *
        generalize rankI v 1000 = c at *
        generalize rankI v 0 = d at *
        obtain ⟨c2, hc2⟩ : ∃ c2, Int.tdiv c 2 = c2 := ⟨_, rfl⟩
        obtain ⟨d2, hd2⟩ : ∃ d2, Int.tdiv d 2 = d2 := ⟨_, rfl⟩
        have w1 : wrap64 (Int.tdiv c 2) = c2 := by
          rw [← hc2, Int.tdiv_eq_ediv_of_nonneg g1.1]
          unfold wrap64; omega
        have w2 : wrap64 (Int.tdiv d 2) = d2 := by
          rw [← hd2, Int.tdiv_eq_ediv_of_nonneg g2.1]
          unfold wrap64; omega
        rw [hc2] at l2
        rw [hd2] at f2
        clear g1 g2 hc2 hd2
        generalize (Fs l l.length).foldl max 0 = M at *
        generalize (Fs l l.length).foldl min 9223372036854775807 = N at *
        generalize (((Fs l l.length).length : Nat) : Int) = cn at *
        have b1 : decide (a ≤ b) = true := decide_eq_true m1
        have b2 : decide (d ≤ a) = true := decide_eq_true m2
        have b3 : decide (b ≤ c) = true := decide_eq_true m3
        have b4 : decide (M ≤ c) = true := decide_eq_true l1
        have b5 : decide (N ≤ d) = true := decide_eq_true f1
        clear m1 m2 m3 l1 f1
        obtain ⟨x1, hx1⟩ : ∃ x1, (M == 0) = x1 := ⟨_, rfl⟩
        obtain ⟨x2, hx2⟩ : ∃ x2, (N == 0) = x2 := ⟨_, rfl⟩
        have l3 : x1 = false → decide (c2 < M) = true := fun h => decide_eq_true (l2.resolve_left (by rw [h] at hx1; exact beq_eq_false_iff_ne.1 hx1))
        have f3 : x2 = false → decide (d2 < N) = true := fun h => decide_eq_true (f2.resolve_left (by rw [h] at hx2; exact beq_eq_false_iff_ne.1 hx2))
        clear l2 f2
        have finish : Aside0 (∀ n, Below w.heap.size w (wr.drewN n)) := ⟨fun n => hC ▸ fin'.out n⟩
        clear fin' hC
        go_wp2_with fail
        refine hc.mono ?_
        rintro e w3 ⟨rfl, rfl⟩
        clear hc
        go_wp2_with fail
        go_quiet (first | (with_reducible exact q1 _) | (with_reducible exact q2 _))
        clear q1 q2
        go_wp2_with fail
        refine (q3.out _).mono ?_
        rintro e w4 ⟨rfl, ⟨m4, rfl⟩⟩
        go_wp2_with fail
        refine (q4.out _).mono ?_
        rintro e w5 ⟨rfl, ⟨m5, rfl⟩⟩
        clear q3 q4
        cases x1 <;> cases x2
        · have l4 := l3 rfl
          have f4 := f3 rfl
          clear l3 f3
          go_wp2
          go_ret
          exact ⟨rfl, finish.out _⟩
        · have l4 := l3 rfl
          clear l3 f3
          go_wp2
          go_ret
          exact ⟨rfl, finish.out _⟩
        · have f4 := f3 rfl
          clear l3 f3
          go_wp2
          go_ret
          exact ⟨rfl, finish.out _⟩
        · clear l3 f3
          go_wp2
          go_ret
          exact ⟨rfl, finish.out _⟩
end Go.Proofs.YtnamndioodnelaaDoor.PQ
