/- The sectors by rank, walked. -/
import Derived.Test.YtihggmhmfocnpaaSort
namespace Go.Proofs.Ytihggmhmfocnpaa.PQ
open Go.RowKit Go.Proofs.YtihggmhmfocnpaaW.PrintWords Go.Proofs.YtihggmhmfocnpaaW.PrintLast Go.Proofs.YtihggmhmfocnpaaW.PrintMore Go.Shelf Go.Lib Go.Sort
set_option linter.unusedVariables false
set_option linter.unusedSimpArgs false
attribute [local go_sem] max2_int min2_int
def hotK (cs : List Int) (k : Nat) : List Int := ((List.range k).filter fun i : Nat => decide (0 < rd cs (i : Int))).map fun i : Nat => (i : Int)
theorem hotK_succ (cs : List Int) (k : Nat) : hotK cs (k + 1) = hotK cs k ++ if 0 < rd cs (k : Int) then [(k : Int)] else [] := by
  unfold hotK
  rw [List.range_succ, List.filter_append, List.map_append]
  congr 1
  by_cases h : 0 < rd cs (k : Int)
  · rw [if_pos h, List.filter_cons, if_pos (by simpa using h)]; rfl
  · rw [if_neg h, List.filter_cons, if_neg (by simpa using h)]; rfl
theorem hotK_len (cs : List Int) (k : Nat) : (hotK cs k).length ≤ k := by
  unfold hotK
  rw [List.length_map]
  exact Nat.le_trans (List.length_filter_le _ _) (by rw [List.length_range]; exact Nat.le_refl _)
theorem hotK_all (cs : List Int) : hotK cs cs.length = (hotN cs).map fun i : Nat => (i : Int) := rfl
set_option maxHeartbeats 1000000 in
theorem clip_calls (A : Option Addr) (m c : Nat) (h : m ≤ c) (hA : A = none → c = 0) (w : World) : Calls Try.prog 28 #[.slice A m c] w fun e w' => e = .returned (.slice A m m) ∧ w' = w := by
  cases A with
  | none =>
    obtain rfl := hA rfl
    obtain rfl : m = 0 := by omega
    go_enter Try.func28, Try.ntmps28
    go_wp2
    go_ret
    exact ⟨rfl, rfl⟩
  | some a =>
    go_enter Try.func28, Try.ntmps28
    go_wp2
    go_ret
    exact ⟨by simp [Addr.add], rfl⟩
/-- What is handed back: the ranks read; a row of the call's own. -/
structure Ranked (l : List Int) (w0 : World) (v : Value) (w : World) : Prop where
  bel : Below w0.heap.size w0 w
  read : ∃ A, v = .slice A l.length l.length ∧ Kd.C (Kd.int .i64) w A l.length l ∧ (∀ k, k < l.length → ∃ g cur, A = some ⟨g, 0, none⟩ ∧ w0.heap.size ≤ g ∧ w.heap[g]? = some (.cells cur 3 (0, 0)) ∧ l.length ≤ cur.size)
theorem rankL_len (cs : List Int) (n : Int) : (rankL cs n).length = min (max n 0).toNat (hotN cs).length := by
  unfold rankL
  rw [List.length_map, List.length_take, sortN_len]
theorem C_cells {g : Nat} {xs : List Int} {w : World} (hl : xs.length ≤ 4096) (h : ∀ k : Nat, k < xs.length → w.cell? ⟨g, k, none⟩ = some (.int .i64 (rd xs (k : Int)))) : Kd.C (Kd.int .i64) w (some ⟨g, 0, none⟩) xs.length xs := by
  refine ⟨rfl, by omega, fun _ => ⟨_, rfl, fun j p hp => ⟨[.int .i64 p], rfl, rfl, fun i u hu => ?_⟩⟩⟩
  obtain ⟨hj, rfl⟩ := List.getElem?_eq_some_iff.1 hp
  cases i with
  | zero =>
    injection hu with hu
    subst hu
    have := h j hj
    rw [rd_get hj] at this
    have ea : (⟨g, 0, none⟩ : Addr).add (j * (Kd.int .i64).sz + 0) = ⟨g, j, none⟩ := by
      show (⟨g, 0, none⟩ : Addr).add (j * 1 + 0) = _
      rw [Nat.mul_one, Nat.add_zero]
      cases j <;> simp [Addr.add]
    rw [ea]; exact this
  | succ i => cases hu
theorem hotN_le (cs : List Int) : (hotN cs).length ≤ cs.length := by unfold hotN; exact Nat.le_trans (List.length_filter_le _ _) (by rw [List.length_range]; exact Nat.le_refl _)
/-- Behind the sort, cut. -/
theorem ranked_of {cs : List Int} {m g : Nat} (hm : cs.length = m + 1) (hl : cs.length ≤ 4096) (n : Int) {w0 w : World} {base : Nat} {ok : Nat → Prop} {cap : Nat} (hb : Below w0.heap.size w0 w) (hg : w0.heap.size ≤ g) (ho : Kd.R (Kd.int .i64) 3 w base ok (.slice (some ⟨g, 0, none⟩) (hotN cs).length cap) (hotK cs cs.length)) (hne : 0 < (hotN cs).length) (q : Nat) (os : Array Obj) :
    Ranked (rankL cs n) w0 (.slice (some ⟨g, 0, none⟩) (rankL cs n).length (rankL cs n).length) (sortWorld (encF m) w g 0 q (sortF cs m hm).toArray os) := by
  have hsl : (sortF cs m hm).length = (hotN cs).length := by rw [← sortN_len, ← sortF_val cs m hm, List.length_map]
  obtain ⟨_, inner, ⟨r1, r2⟩, _⟩ := ho
  have hkl : (hotK cs cs.length).length = (hotN cs).length := by rw [hotK_all, List.length_map]
  rcases r2 with ⟨r2, r3⟩ | ⟨g', cap', cur, hv, hbg, hh, hcap, hmx, hsz, htk⟩
  · exact absurd r3 (by omega)
  injection hv with hv1 hv2 hv3
  injection hv1 with hv1
  injection hv1 with hv1 _ _
  subst hv1 hv3
  have hrow := sortWorld_row (encF m) w g 0 q (sortF cs m hm).toArray os hh
  have hcs : (hotN cs).length ≤ cur.size := by rw [hsz]; show _ ≤ cap * 1; omega
  have hrl := rankL_len cs n
  refine ⟨sortWorld_below (encF m) w0 w g 0 q _ os hb hb.size hg, some ⟨g, 0, none⟩, rfl, C_cells (by have := hotN_le cs; omega) (fun k hk => ?_), fun k hk => ⟨g, _, rfl, hg, hrow, by rw [putCells_size]; omega⟩⟩
  have hk2 : k < (sortF cs m hm).length := by omega
  rw [blk_cell hrow k]
  unfold putCells
  rw [Array.getElem?_mapIdx, Array.getElem?_eq_getElem (by omega), Option.map_some, if_pos (by rw [List.size_toArray]; omega), Nat.sub_zero, getElem!_pos _ k (by rw [List.size_toArray]; exact hk2)]
  unfold encF
  rw [rd_get hk]
  congr 2
  have e4 : (rankL cs n)[k]'hk = (((sortN cs)[k]'(by rw [sortN_len]; omega) : Nat) : Int) := by simp [rankL]
  rw [e4]
  have e3 : ((sortF cs m hm).map Fin.val)[k]'(by rw [List.length_map]; omega) = (sortN cs)[k]'(by rw [sortN_len]; omega) := by simp only [sortF_val cs m hm]
  rw [List.getElem_map] at e3
  rw [← e3]
  simp
set_option maxHeartbeats 8000000 in
set_option maxRecDepth 100000 in
theorem rank_calls (cs : List Int) (t : Int) (P B c : Nat) (w : World) (n : Int) (H : Aside0 (HAt cs t P B c w)) (hk : Aside0 (OkC cs t)) : Calls Try.prog 14 #[.pointer (some ⟨P, 0, none⟩), .int .i64 n] w fun e w' => Aside0 (∃ v, e = .returned v ∧ Ranked (rankL cs n) w v w') := by
  have hlen := hk.out.len
  obtain ⟨m, hm⟩ : ∃ m, cs.length = m + 1 := ⟨cs.length - 1, by omega⟩
  have hm' := Lib.hid hm
  clear hm
  have hb0 := Aside0.mk ((Below.refl w.heap.size w).alloc (Nat.le_refl _) (.cells #[.pointer (some ⟨P, 0, none⟩)] 23))
  have HX0 := Aside0.mk (show CC cs t P B c w.heap.size (w.alloc (.cells #[.pointer (some ⟨P, 0, none⟩)] 23)) from ⟨heap_alloc_new w _, H.out.below ((Below.refl _ _).alloc (Nat.le_refl _) _)⟩)
  have hPB : P < w.heap.size ∧ B < w.heap.size := ⟨blk_lt H.out.head, by have := Kd.R_lt H.out.row B rfl; exact this⟩
  obtain ⟨d1, d2⟩ := HX0.out.at_.cells
  go_enter Try.func14, Try.ntmps14
  go_wp2
  generalize w.alloc (.cells #[.pointer (some ⟨P, 0, none⟩)] 23) = W at *
  obtain ⟨X, hX⟩ : ∃ X, X = w.heap.size := ⟨_, rfl⟩
  rw [← hX] at HX0 ⊢
  have hX' := Lib.hid hX
  rw [← hX] at hPB
  clear hX d1 d2
  go_loopw [5, 6, 7, 13] (fun s a b y wr => ∃ k : Nat, k ≤ cs.length ∧ y = .int .i64 k ∧ Aside0 (CC cs t P B c X wr) ∧ Aside0 (Below w.heap.size w wr) ∧ Aside0 (Kd.R (Kd.int .i64) 3 wr w.heap.size (fun q => X < q) s (hotK cs k))) (fun _ _ _ y _ => cs.length - (intOf y).toNat)
  case atStart => exact ⟨0, Nat.zero_le _, rfl, HX0, hb0, ⟨Kd.R_nil _ _ _ _ _⟩⟩
  case round =>
    clear HX0 hb0
    obtain ⟨k, hkl, rfl, HX, HB, HO⟩ := hrel
    have hXl := blk_lt HX.out.box
    by_cases hlt : k < cs.length
    · have yk : decide ((k : Int) < (cs.length : Int)) = true := decide_eq_true (by omega)
      have z0 : decide ((0 : Int) ≤ (k : Int)) = true := decide_eq_true (by omega)
      obtain ⟨e0, f0⟩ := HX.out.at_.elem k hlt
      have hks := hotK_succ cs k
      have hkn := Lib.hid (hotK_len cs k)
      generalize rd cs (k : Int) = x at *
      by_cases hx : 0 < x
      · have zx : decide (0 < x) = true := decide_eq_true hx
        rw [if_pos hx] at hks
        replace hks := Lib.hid hks
        generalize hotK cs k = L at *
        go_wp2_with ((with_reducible refine gate_builtin (b := .append) (xs := #[.tmp 20, .tmp 22]) rfl ?_); at_builtin; refine Kd.R_append (Kd.int .i64) (w0 := w) w.heap.size rfl (.tmp 20) (.tmp 22) 22 3 (.int .i64 0) 8 rfl Try.underlying22 info3 rfl (by decide) (by decide) u5 L (k : Int) [.int .i64 (k : Int)] (fun q => X < q) (fun _ => False) rfl rfl ?aP (fun _ hk => hk.elim) ?aF ?aO ?aB ?aS ?aL ?_; (case aP => exact rfl); (case aF => exact (fun q hq => Nat.lt_of_lt_of_le hXl hq)); (case aO => exact HO.out); (case aB => exact HB.out); (case aS => exact HB.out.size); (case aL => have := hkn.out; omega); intro v1 w5 ho hb hg hat; have HX1 := Aside0.mk (HX.out.grown2 hg (fun e => by have := HO.out.1 X e.symm; omega) (fun q hq e => by have := HO.out.1 q e.symm; have := hX'.out; omega)); have HO1 := Aside0.mk ho; have HB1 := Aside0.mk hb; clear ho hb hg hat e0 f0)
        go_roundw
        case rel => exact ⟨k + 1, by omega, by go_num, HX1, HB1, ⟨by rw [hks.out]; exact HO1.out⟩⟩
        case measure => simp [intOf]; omega
      · have zx : decide (0 < x) = false := decide_eq_false hx
        rw [if_neg hx, List.append_nil] at hks
        replace hks := Lib.hid hks
        generalize hotK cs k = L at *
        go_wp2
        go_roundw
        case rel => exact ⟨k + 1, by omega, by go_num, HX, HB, ⟨by rw [hks.out]; exact HO.out⟩⟩
        case measure => simp [intOf]; omega
    · obtain rfl : k = cs.length := by omega
      have hkl2 : (hotK cs cs.length).length = (hotN cs).length := by rw [hotK_all, List.length_map]
      have hhl := hotN_le cs
      have hrl := rankL_len cs n
      obtain ⟨M, hM⟩ : ∃ M, M = (rankL cs n).length := ⟨_, rfl⟩
      rw [← hM] at hrl
      by_cases hne : 0 < (hotN cs).length
      · obtain ⟨g, cap, rfl, hbg, hgl, _⟩ := Kd.R_form HO.out (by omega)
        have hXg : X < g := HO.out.1 g rfl
        have hC := sort_calls m hm'.out HX.out g cap (by omega) (by have := hX'.out; omega) (by have := hX'.out; omega) hgl hlen.2 (fun j hj => by
          have := Kd.R_celln 0 HO.out (j : Int) (by omega) (by omega)
          rw [Int.toNat_natCast] at this
          refine ⟨this.1.trans ?_, this.2⟩
          congr 2
          show rd (hotK cs cs.length) (j : Int) = _
          rw [rd_get (by omega), List.getD_eq_getElem?_getD, List.getElem?_eq_getElem hj]
          simp [hotK_all])
        rw [hkl2] at *
        have hfin := Lib.hid fun (q : Nat) (os : Array Obj) => ranked_of (m := m) (g := g) hm'.out hlen.2 n HB.out hbg HO.out hne q os
        have hcp := (Kd.R_reads' HO.out).2.1
        rw [hkl2] at hcp
        rw [← hM] at hfin
        have hclip := Lib.hid fun w' => clip_calls (some ⟨g, 0, none⟩) M cap (by omega) (fun h => by cases h) w'
        replace hC := Lib.hid hC
        clear HO hkl2
        generalize (hotN cs).length = h0 at *
        go_wp2_with fail
        refine hC.out.mono ?_
        rintro e w5 ⟨rfl, q, os, rfl⟩
        have HF := Aside0.mk (hfin.out q os)
        clear hfin hC
        generalize sortWorld (encF m) wr g 0 q (sortF cs m hm'.out).toArray os = W5 at *
        have hMe : (min (max n 0) (h0 : Int)).toNat = M := by omega
        replace hMe := Lib.hid hMe
        replace hM := Lib.hid hM
        clear hrl
        go_wp2_with fail
        rw [hMe.out]
        refine (hclip.out _).mono ?_
        rintro e w9 ⟨rfl, rfl⟩
        clear hclip
        go_wp2
        go_ret
        exact ⟨⟨_, rfl, HF.out⟩⟩
      · have h00 : (hotN cs).length = 0 := by omega
        have hrk : rankL cs n = [] := by
          rw [← List.length_eq_zero_iff, ← hM, hrl, h00]
          exact Nat.min_zero _
        have hA : ∃ A c, u5 = .slice A 0 c ∧ (A = none → c = 0) := by
          obtain ⟨_, inner, ⟨_, r2⟩, _⟩ := HO.out
          rw [hkl2, h00] at r2
          rcases r2 with ⟨r2, _⟩ | ⟨g', cap', cur, hv, _⟩
          · exact ⟨none, 0, r2, fun _ => rfl⟩
          · exact ⟨some ⟨g', 0, none⟩, cap', hv, fun h => by cases h⟩
        obtain ⟨A, c', rfl, hA⟩ := hA
        have hC := AnyF.slices_SortFunc_none Try.sortF0 A c' (.func (.func 24) #[] #[.pointer (some ⟨X, 0, none⟩)]) wr
        change Calls Try.prog 23 _ _ _ at hC
        replace hC := Lib.hid hC
        have hclip := Lib.hid fun w' => clip_calls A 0 c' (Nat.zero_le _) hA w'
        have HF : Aside0 (Ranked (rankL cs n) w (.slice A 0 0) wr) := ⟨HB.out, A, by rw [hrk]; rfl, by rw [hrk]; exact ⟨rfl, by decide, fun h => absurd h (by decide)⟩, fun k hk => by rw [hrk] at hk; exact absurd hk (by simp)⟩
        clear HO hA hrk hrl hM
        go_wp2_with fail
        refine hC.out.mono ?_
        rintro e w5 ⟨rfl, rfl⟩
        clear hC
        have hMe : Hid ((min (max n 0) (0 : Int)).toNat = 0) := Lib.hid (by omega)
        go_wp2_with fail
        rw [hMe.out]
        refine (hclip.out _).mono ?_
        rintro e w9 ⟨rfl, rfl⟩
        clear hclip
        go_wp2
        go_ret
        exact ⟨⟨_, rfl, HF.out⟩⟩
end Go.Proofs.Ytihggmhmfocnpaa.PQ
