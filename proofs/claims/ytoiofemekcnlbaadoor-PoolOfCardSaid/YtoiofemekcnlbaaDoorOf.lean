/- A pool of roles, walked. -/
import Derived.Test.YtoiofemekcnlbaaDoorWorks
import Derived.Outline
namespace Go.Proofs.YtoiofemekcnlbaaDoor.PQ
open Go.RowKit Go.Proofs.YtoiofemekcnlbaaDoorW.PrintWords Go.Proofs.YtoiofemekcnlbaaDoorW.PrintLast Go.Proofs.YtoiofemekcnlbaaDoorW.PrintMore
set_option linter.unusedVariables false
set_option linter.unusedSimpArgs false
set_option maxHeartbeats 4000000 in
set_option maxRecDepth 100000 in
theorem indexFunc_calls (A : Option Addr) (c : Nat) (l : List Int) (w : World) (hr : Aside0 (Kd.C (Kd.int .i64) w A l.length l)) :
    Calls Tryd.prog 34 #[.slice A l.length c, .func (.func 31) #[] #[]] w fun e w' => Aside0 (∃ t : Int, e = .returned (.int .i64 t) ∧ (0 ≤ t ↔ ¬ ∀ x ∈ l, okR x)) ∧ w' = w := by
  have hmax := Kd.C_max hr.out
  go_enter Tryd.func34, Tryd.ntmps34
  go_wp2
  go_loopw [8] (fun i wr => ∃ k : Nat, k ≤ l.length ∧ i = .int .i64 k ∧ Aside0 (∀ x ∈ l.take k, okR x) ∧ wr = w) (fun i _ => l.length - (intOf i).toNat)
  case atStart => exact ⟨0, Nat.zero_le _, rfl, ⟨fun x hx => by simp at hx⟩, rfl⟩
  case round =>
    obtain ⟨k, hk, rfl, HO, rfl⟩ := hrel
    by_cases hlt : k < l.length
    · obtain ⟨ad, e1, hx⟩ := Kd.at_int hr.out (k : Int) (by omega) (by omega)
      cases e1
      rw [Int.toNat_natCast] at hx
      have hmem : rd l (k : Int) ∈ l := by
        unfold rd
        rw [Int.toNat_natCast, List.getD_eq_getElem?_getD, List.getElem?_eq_getElem hlt]
        exact List.getElem_mem hlt
      have htake : l.take (k + 1) = l.take k ++ [rd l (k : Int)] := by
        rw [List.take_succ_eq_append_getElem hlt]
        unfold rd
        rw [Int.toNat_natCast, List.getD_eq_getElem?_getD, List.getElem?_eq_getElem hlt]
        rfl
      have hmem' := Lib.hid hmem
      have htake' := Lib.hid htake
      clear hmem htake
      generalize rd l (k : Int) = x at *
      by_cases h0 : 0 ≤ x
      · have g0 : decide (0 ≤ x) = true := decide_eq_true h0
        by_cases h7 : x < 7
        · have g7 : decide (x < 7) = true := decide_eq_true h7
          have hok : Aside0 (∀ y ∈ l.take (k + 1), okR y) := ⟨fun y hy => by
            rw [htake'.out] at hy
            rcases List.mem_append.1 hy with hy | hy
            · exact HO.out y hy
            · rw [List.mem_singleton.1 hy]; exact ⟨h0, h7⟩⟩
          clear h0 h7
          go_wp2
          go_roundw
          case rel => exact ⟨k + 1, by omega, by go_num, hok, by first | rfl | trivial⟩
          case measure => simp [intOf]; omega
        · have g7 : decide (x < 7) = false := decide_eq_false h7
          have hno : Aside0 (0 ≤ (k : Int) ↔ ¬ ∀ y ∈ l, okR y) := ⟨⟨fun _ h => h7 (h x hmem'.out).2, fun _ => by omega⟩⟩
          clear h0 h7
          go_wp2
          go_ret
          exact ⟨⟨_, rfl, hno.out⟩, rfl⟩
      · have g0 : decide (0 ≤ x) = false := decide_eq_false h0
        have hno : Aside0 (0 ≤ (k : Int) ↔ ¬ ∀ y ∈ l, okR y) := ⟨⟨fun _ h => h0 (h x hmem'.out).1, fun _ => by omega⟩⟩
        clear h0
        go_wp2
        go_ret
        exact ⟨⟨_, rfl, hno.out⟩, rfl⟩
    · obtain rfl : k = l.length := by omega
      have hyes : Aside0 (0 ≤ (-1 : Int) ↔ ¬ ∀ y ∈ l, okR y) := ⟨⟨fun h => by omega, fun h => absurd (fun y hy => HO.out y (by rw [List.take_length]; exact hy)) h⟩⟩
      clear hlt HO
      go_wp2
      go_ret
      exact ⟨⟨_, rfl, hyes.out⟩, rfl⟩
set_option maxHeartbeats 1000000 in
set_option maxRecDepth 100000 in
theorem containsFunc_calls (A : Option Addr) (c : Nat) (l : List Int) (w : World) (hr : Aside0 (Kd.C (Kd.int .i64) w A l.length l)) (b : Bool) (hb : Hid (b = true ↔ ¬ ∀ x ∈ l, okR x)) :
    Calls Tryd.prog 30 #[.slice A l.length c, .func (.func 31) #[] #[]] w fun e w' => e = .returned (.bool b) ∧ w' = w := by
  go_enter Tryd.func30, Tryd.ntmps30
  go_wp2_with fail
  refine (indexFunc_calls A c l w hr).mono ?_
  rintro e w1 ⟨⟨t, rfl, ht⟩, rfl⟩
  have hbt : decide (0 ≤ t) = b := by
    cases b with
    | true => exact decide_eq_true (ht.2 (hb.out.1 rfl))
    | false => exact decide_eq_false (fun h => by have := hb.out.2 (ht.1 h); cases this)
  have hbt' := Aside0.mk hbt
  clear hbt ht hb
  go_wp2
  go_ret
  exact ⟨by rw [← hbt'.out]; rfl, rfl⟩
theorem Inv.set2 {l : List (Int × Bool)} {P B : Nat} {w0 w : World} (h : Inv l P B w0 w) (k : Nat) (x : Int) (b : Bool) (hx : okR x) (hk : k < l.length) : Inv (l.set k (x, b)) P B w0 ((w.setCell ⟨B, k * 2, none⟩ (.int .i64 x)).setCell ⟨B, k * 2 + 1, none⟩ (.bool b)) := by
  have h1 := h.at_.set0 k x ⟨hx.1, by have := hx.2; omega⟩
  have h2 := h1.set1 k b
  rw [List.set_set] at h2
  have e : ((l.set k (x, (l.getD k (0, false)).2)).getD k (0, false)).1 = x := by
    rw [List.getD_eq_getElem?_getD, List.getElem?_set_self hk]
    rfl
  rw [e] at h2
  exact ⟨h2, (h.below.setCell (p := ⟨B, k * 2, none⟩) h.b _).setCell (p := ⟨B, k * 2 + 1, none⟩) h.b _, h.p, h.b⟩
/-- The pool of the first k roles. -/
def ofL (l : List Int) (k : Nat) : List (Int × Bool) := (l.take k).map (fun r => (r, r == 6)) ++ List.replicate (l.length - k) (0, false)
theorem ofL_len (l : List Int) (k : Nat) (h : k ≤ l.length) : (ofL l k).length = l.length := by
  unfold ofL
  rw [List.length_append, List.length_map, List.length_take, List.length_replicate]
  omega
theorem ofL_set (l : List Int) (k : Nat) (h : k < l.length) : (ofL l k).set k (rd l k, rd l k == 6) = ofL l (k + 1) := by
  have htake : l.take (k + 1) = l.take k ++ [rd l (k : Int)] := by
    rw [List.take_succ_eq_append_getElem h]
    unfold rd
    rw [Int.toNat_natCast, List.getD_eq_getElem?_getD, List.getElem?_eq_getElem h]
    rfl
  unfold ofL
  rw [htake, List.set_append_right _ _ (by simp; omega), List.map_append, List.append_assoc]
  congr 1
  have e : k - ((l.take k).map (fun r : Int => (r, r == 6))).length = 0 := by simp; omega
  rw [e, show l.length - k = (l.length - (k + 1)) + 1 by omega, List.replicate_succ]
  rfl
set_option maxHeartbeats 4000000 in
set_option maxRecDepth 100000 in
theorem of_yes (A : Option Addr) (c : Nat) (l : List Int) (w : World) (hr : Aside0 (Kd.C (Kd.int .i64) w A l.length l)) (h1 : 1 ≤ l.length) (h2 : l.length ≤ 64) (hok : Aside0 (∀ x ∈ l, okR x)) :
    Calls Tryd.prog 18 #[.slice A l.length c] w fun e w' => Aside0 (∃ P B, e = .returned (.tuple #[.pointer (some ⟨P, 0, none⟩), .int .i64 0]) ∧ Inv (ofL l l.length) P B w w') := by
  have hF := Lib.hid fun w' (hb : Below w.heap.size w w') => containsFunc_calls A c l w' ⟨Kd.C_below hr.out hb⟩ false (Lib.hid ⟨(fun h => by cases h), fun h => absurd hok.out h⟩)
  go_enter Tryd.func18, Tryd.ntmps18
  go_wp2_with fail
  refine (inv_new l.length w h1 h2).mono ?_
  rintro e w1 ⟨⟨P, B, rfl, hI⟩⟩
  have HI : Aside0 (Inv (ofL l 0) P B w w1) := ⟨hI⟩
  clear hI
  go_wp2_with fail
  refine (hF.out _ HI.out.below).mono ?_
  rintro e w2 ⟨rfl, rfl⟩
  clear hF
  go_wp2_with fail
  go_loopw [22] (fun i wr => ∃ k : Nat, k ≤ l.length ∧ i = .int .i64 k ∧ Aside0 (Inv (ofL l k) P B w wr)) (fun i _ => l.length - (intOf i).toNat)
  case atStart => exact ⟨0, Nat.zero_le _, rfl, HI⟩
  case round =>
    clear HI
    obtain ⟨k, hk, rfl, HI⟩ := hrel
    by_cases hlt : k < l.length
    · obtain ⟨ad, e1, hx⟩ := Kd.at_int (Kd.C_below hr.out HI.out.below) (k : Int) (by omega) (by omega)
      cases e1
      rw [Int.toNat_natCast] at hx
      have hl := ofL_len l k hk
      have hmem : rd l (k : Int) ∈ l := by
        unfold rd
        rw [Int.toNat_natCast, List.getD_eq_getElem?_getD, List.getElem?_eq_getElem hlt]
        exact List.getElem_mem hlt
      have hS := Aside0.mk (HI.out.set2 k (rd l k) (rd l k == 6) (hok.out _ hmem) (by omega))
      rw [ofL_set l k hlt] at hS
      clear hmem
      obtain ⟨c0, c1, c2, f1, f2⟩ := HI.out.at_.at_ k (by omega)
      rw [hl] at c0
      clear hl
      generalize rl (ofL l k) k = u at *
      generalize wn (ofL l k) k = v at *
      generalize rd l (k : Int) = x at *
      go_wp2
      go_roundw
      case rel => exact ⟨k + 1, by omega, by go_num, hS⟩
      case measure => simp [intOf]; omega
    · obtain rfl : k = l.length := by omega
      clear hlt
      go_wp2
      go_ret2
      exact ⟨⟨P, B, rfl, HI.out⟩⟩
set_option maxHeartbeats 1000000 in
set_option maxRecDepth 100000 in
theorem of_long (A : Option Addr) (c : Nat) (l : List Int) (w : World) (h : ¬ (1 ≤ l.length ∧ l.length ≤ 64)) :
    Calls Tryd.prog 18 #[.slice A l.length c] w fun e w' => e = .returned (.tuple #[.pointer none, .int .i64 1]) ∧ w' = w := by
  have hN := Lib.hid (new_no (l.length : Int) w (by omega))
  go_enter Tryd.func18, Tryd.ntmps18
  go_wp2_with fail
  refine hN.out.mono ?_
  rintro e w1 ⟨rfl, rfl⟩
  clear hN
  go_wp2
  go_ret2
  exact ⟨rfl, rfl⟩
set_option maxHeartbeats 1000000 in
set_option maxRecDepth 100000 in
theorem of_no (A : Option Addr) (c : Nat) (l : List Int) (w : World) (hr : Aside0 (Kd.C (Kd.int .i64) w A l.length l)) (h1 : 1 ≤ l.length) (h2 : l.length ≤ 64) (hok : Aside0 (¬ ∀ x ∈ l, okR x)) :
    Calls Tryd.prog 18 #[.slice A l.length c] w fun e w' => e = .returned (.tuple #[.pointer none, .int .i64 1]) ∧ Below w.heap.size w w' := by
  have hF := Lib.hid fun w' (hb : Below w.heap.size w w') => containsFunc_calls A c l w' ⟨Kd.C_below hr.out hb⟩ true (Lib.hid ⟨fun _ => hok.out, fun _ => rfl⟩)
  go_enter Tryd.func18, Tryd.ntmps18
  go_wp2_with fail
  refine (inv_new l.length w h1 h2).mono ?_
  rintro e w1 ⟨⟨P, B, rfl, hI⟩⟩
  have HB := Aside0.mk hI.below
  clear hI
  go_wp2_with fail
  refine (hF.out _ HB.out).mono ?_
  rintro e w2 ⟨rfl, rfl⟩
  clear hF
  go_wp2
  go_ret2
  exact ⟨rfl, HB.out⟩
theorem ofL_end (l : List Int) : ofL l l.length = l.map (fun r => (r, r == 6)) := by
  unfold ofL
  rw [List.take_length, Nat.sub_self]
  simp
end Go.Proofs.YtoiofemekcnlbaaDoor.PQ
