/- The blocks of some roles, walked. -/
import Derived.Test.YtoiofemekcnlbaaDoorTo
import Derived.Outline
namespace Go.Proofs.YtoiofemekcnlbaaDoor.PQ
open Go.RowKit Go.Proofs.YtoiofemekcnlbaaDoorW.PrintWords Go.Proofs.YtoiofemekcnlbaaDoorW.PrintLast Go.Proofs.YtoiofemekcnlbaaDoorW.PrintMore
set_option linter.unusedVariables false
set_option linter.unusedSimpArgs false
theorem drawn_any {n : Nat} {w w' : World} (d : Drawn0 w w') : Below n w w' := by
  obtain ⟨⟨m, rfl⟩⟩ := d
  exact ⟨rfl, rfl, rfl, Nat.le_refl _, fun _ _ => rfl⟩
theorem index_l (a : Int) (l : List Int) (hl : l.length ≤ 4611686018427387904) : ∀ (d k i : Nat), i + d = l.length → d < k → ∃ t, slices_Index_int_int.l0 k l a (l.length : Int) (i : Int) = some t ∧ (0 ≤ t ↔ a ∈ l.drop i)
  | 0, k, i, h, hk => by
    obtain ⟨k, rfl⟩ : ∃ m, k = m + 1 := ⟨k - 1, by omega⟩
    refine ⟨-1, ?_, ?_⟩
    · rw [slices_Index_int_int.l0, if_neg (by omega)]
    · rw [List.drop_eq_nil_of_le (by omega)]; simp
  | d + 1, k, i, h, hk => by
    obtain ⟨k, rfl⟩ : ∃ m, k = m + 1 := ⟨k - 1, by omega⟩
    have hi : i < l.length := by omega
    have e : rd l (i : Int) = l[i] := by unfold rd; rw [Int.toNat_natCast, List.getD_eq_getElem?_getD, List.getElem?_eq_getElem hi]; rfl
    rw [slices_Index_int_int.l0, if_pos (by omega), if_pos (by omega), if_pos (by omega), e, List.drop_eq_getElem_cons hi]
    by_cases c : a = l[i]
    · rw [if_pos c]
      exact ⟨_, rfl, by rw [c]; exact ⟨fun _ => List.mem_cons_self, fun _ => by omega⟩⟩
    · rw [if_neg c, show wrap64 ((i : Int) + 1) = ((i + 1 : Nat) : Int) by unfold wrap64; omega]
      obtain ⟨t, h1, h2⟩ := index_l a l hl d k (i + 1) (by omega) (by omega)
      exact ⟨t, h1, by rw [h2, List.mem_cons]; simp [c]⟩
theorem contains_calls (A : Option Addr) (c : Nat) (l : List Int) (a : Int) (w : World) (hr : Kd.C (Kd.int .i64) w A l.length l) (hc : l.length ≤ c) (hl : l.length ≤ 4611686018427387904) :
    Calls Tryd.prog 24 #[.slice A l.length c, .int .i64 a] w fun e w' => e = .returned (.bool (decide (a ∈ l))) ∧ Drawn0 w w' := by
  obtain ⟨t, h1, h2⟩ := index_l a l hl l.length (l.length + 1) 0 (by omega) (by omega)
  refine slices_Contains_int_int.calls (l.length + 1) A c l a _ w hr hc ?_
  unfold slices_Contains_int_int.f slices_Index_int_int.f
  rw [show (0 : Int) = ((0 : Nat) : Int) from rfl, h1]
  rw [List.drop_zero] at h2
  show some _ = some _
  congr 1
  exact decide_eq_decide.2 h2
/-- The blocks of some roles, of the first k. -/
def listK (l : List (Int × Bool)) (ys : List Int) : Nat → List Int
  | 0 => []
  | k + 1 => if rl l k ∈ ys then listK l ys k ++ [(k : Int)] else listK l ys k
theorem listK_len (l : List (Int × Bool)) (ys : List Int) : ∀ k, (listK l ys k).length ≤ k
  | 0 => Nat.le_refl _
  | k + 1 => by
    have := listK_len l ys k
    unfold listK
    split
    · rw [List.length_append, List.length_singleton]; omega
    · omega
set_option maxHeartbeats 4000000 in
set_option maxRecDepth 100000 in
theorem list_core (l : List (Int × Bool)) (P B : Nat) (A1 : Option Addr) (c1 : Nat) (ys : List Int) (w : World) (H : Aside0 (PoolAt l P B w)) (hr1 : Aside0 (Kd.C (Kd.int .i64) w A1 ys.length ys)) (hc1 : Hid (ys.length ≤ c1 ∧ ys.length ≤ 4611686018427387904)) :
    Calls Tryd.prog 13 #[.pointer (some ⟨P, 0, none⟩), .slice A1 ys.length c1] w fun e w' => Aside0 (∃ v, e = .returned v ∧ Kd.R (Kd.int .i64) 3 w' w.heap.size (fun _ => True) v (listK l ys l.length) ∧ Below w.heap.size w w') := by
  have hlen := H.out.len
  have hcon := Aside0.mk fun (w' : World) (hb : Below w.heap.size w w') (a : Int) => contains_calls A1 c1 ys a w' (Kd.C_below hr1.out hb) hc1.out.1 hc1.out.2
  have hP0 := H.out.head0
  clear hr1 hc1
  go_enter Tryd.func13, Tryd.ntmps13
  go_wp2
  clear hP0
  go_loopw [5, 13] (fun v i wr => ∃ k : Nat, k ≤ l.length ∧ i = .int .i64 k ∧ Aside0 (Kd.R (Kd.int .i64) 3 wr w.heap.size (fun _ => True) v (listK l ys k)) ∧ Aside0 (Below w.heap.size w wr)) (fun _ i _ => l.length - (intOf i).toNat)
  case atStart => exact ⟨0, Nat.zero_le _, rfl, ⟨Kd.R_nil _ _ _ _ _⟩, ⟨Below.refl _ _⟩⟩
  case round =>
    obtain ⟨k, hk, rfl, HO, HB⟩ := hrel
    by_cases hlt : k < l.length
    · have yk : decide ((k : Int) < (l.length : Int)) = true := decide_eq_true (by omega)
      obtain ⟨c0, c1', c2, f1, f2⟩ := (H.out.below HB.out).at_ k hlt
      have hK : listK l ys (k + 1) = if rl l k ∈ ys then listK l ys k ++ [(k : Int)] else listK l ys k := rfl
      have hKl := listK_len l ys k
      have hKl' := Lib.hid hKl
      have hBs := Lib.hid HB.out.size
      clear hKl f1 f2 c0
      generalize rl l k = x at *
      generalize wn l k = y at *
      by_cases hm : x ∈ ys
      · rw [if_pos hm] at hK
        have hK' := Lib.hid hK
        have hd : decide (x ∈ ys) = true := decide_eq_true hm
        have hcc := Lib.hid fun w' hb => (hd ▸ hcon.out w' hb x : Calls Tryd.prog 24 #[.slice A1 ys.length c1, .int .i64 x] w' fun e w'' => e = .returned (.bool true) ∧ Drawn0 w' w'')
        clear hK hm hd
        go_wp2_with fail
        refine (hcc.out _ ?bb).mono ?_
        (case bb => exact HB.out.alloc hBs.out _)
        rintro e w2 ⟨rfl, hd2⟩
        have HO2 := Aside0.mk (Kd.R_below HO.out (((Below.refl _ _).alloc (Nat.le_refl _) _).trans (drawn_any hd2)))
        have HB2 := Aside0.mk ((HB.out.alloc hBs.out _).trans (drawn_any hd2))
        clear hd2
        go_wp2_with ((with_reducible refine gate_builtin (b := .append) (xs := #[.tmp 22, .tmp 24]) rfl ?_); at_builtin; refine Kd.R_append (Kd.int .i64) (w0 := w) w.heap.size rfl (.tmp 22) (.tmp 24) 34 3 (.int .i64 0) 8 rfl Tryd.underlying34 info3 rfl (by decide) (by decide) u5 (listK l ys k) (k : Int) [.int .i64 (k : Int)] (fun _ => True) (fun _ => False) rfl rfl ?aP (fun _ hk => hk.elim) ?aF ?aO ?aB ?aS ?aL ?_; (case aP => exact rfl); (case aF => exact fun _ _ => trivial); (case aO => exact HO2.out); (case aB => exact HB2.out); (case aS => exact HB2.out.size); (case aL => have := hKl'.out; omega); intro v5 w5 ho hb hg hat; have HO5 := Aside0.mk ho; have HB5 := Aside0.mk hb; clear ho hb hg hat HO HB HO2 HB2)
        go_roundw
        case rel => exact ⟨k + 1, by omega, by go_num, ⟨by rw [hK'.out]; exact HO5.out⟩, HB5⟩
        case measure => simp [intOf]; omega
      · rw [if_neg hm] at hK
        have hK' := Lib.hid hK
        have hd : decide (x ∈ ys) = false := decide_eq_false hm
        have hcc := Lib.hid fun w' hb => (hd ▸ hcon.out w' hb x : Calls Tryd.prog 24 #[.slice A1 ys.length c1, .int .i64 x] w' fun e w'' => e = .returned (.bool false) ∧ Drawn0 w' w'')
        clear hK hm hd
        go_wp2_with (go_at_call 24; refine (hcc.out _ ?bb).mono ?_; (case bb => exact HB.out.alloc hBs.out _); rintro e w2 ⟨rfl, ⟨m2, rfl⟩⟩)
        go_roundw
        case rel => exact ⟨k + 1, by omega, by go_num, ⟨by rw [hK'.out]; exact Kd.R_below HO.out (((Below.refl _ _).alloc (Nat.le_refl _) _).trans (drawn_any ⟨⟨m2, rfl⟩⟩))⟩, ⟨(HB.out.alloc hBs.out _).trans (drawn_any ⟨⟨m2, rfl⟩⟩)⟩⟩
        case measure => simp [intOf]; omega
    · obtain rfl : k = l.length := by omega
      go_wp2
      go_ret
      exact ⟨⟨_, rfl, HO.out, HB.out⟩⟩
end Go.Proofs.YtoiofemekcnlbaaDoor.PQ
