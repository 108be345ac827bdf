/- How two sectors compare, walked. -/
import Derived.Test.YtihggmhmfocnpaaNew
import Derived.Deep.RegionHeld3
import Derived.Deep.DeepCutAuto
namespace Go.Proofs.Ytihggmhmfocnpaa.PQ
open Go.RowKit Go.Proofs.YtihggmhmfocnpaaW.PrintWords Go.Proofs.YtihggmhmfocnpaaW.PrintLast Go.Proofs.YtihggmhmfocnpaaW.PrintMore
set_option linter.unusedVariables false
set_option linter.unusedSimpArgs false
def cmpI (a b : Int) : Int := if a < b then -1 else if b < a then 1 else 0
def orI (a b : Int) : Int := if a = 0 then b else a
/-- How two sectors compare: the greater count first, then the smaller number. -/
def cfI (cs : List Int) (x y : Int) : Int := orI (cmpI (rd cs y) (rd cs x)) (cmpI x y)
section
variable (w : World)
set_option maxHeartbeats 1000000 in
theorem nan8_calls (a : Int) : Calls Try.prog 31 #[.int .u8 a] w fun e w' => e = .returned (.bool false) ∧ w' = w := by
  go_enter Try.func31, Try.ntmps31
  go_wp2
  go_ret
  exact ⟨by simp, rfl⟩
set_option maxHeartbeats 1000000 in
theorem nan_calls (a : Int) : Calls Try.prog 32 #[.int .i64 a] w fun e w' => e = .returned (.bool false) ∧ w' = w := by
  go_enter Try.func32, Try.ntmps32
  go_wp2
  go_ret
  exact ⟨by simp, rfl⟩
set_option maxHeartbeats 4000000 in
set_option maxRecDepth 100000 in
theorem cmp8_calls (a b : Int) : Calls Try.prog 26 #[.int .u8 a, .int .u8 b] w fun e w' => e = .returned (.int .i64 (cmpI a b)) ∧ w' = w := by
  have hn := Lib.hid fun a => nan8_calls w a
  unfold cmpI
  by_cases h1 : a < b
  · have z1 : decide (a < b) = true := decide_eq_true h1
    rw [if_pos h1]
    go_enter Try.func26, Try.ntmps26
    go_wp2_with (go_at_call 31; refine (hn.out _).mono ?_; rintro e w' ⟨rfl, rfl⟩)
    go_ret
    exact ⟨rfl, rfl⟩
  · have z1 : decide (a < b) = false := decide_eq_false h1
    rw [if_neg h1]
    by_cases h2 : b < a
    · have z2 : decide (b < a) = true := decide_eq_true h2
      rw [if_pos h2]
      go_enter Try.func26, Try.ntmps26
      go_wp2_with (go_at_call 31; refine (hn.out _).mono ?_; rintro e w' ⟨rfl, rfl⟩)
      go_ret
      exact ⟨rfl, rfl⟩
    · have z2 : decide (b < a) = false := decide_eq_false h2
      rw [if_neg h2]
      go_enter Try.func26, Try.ntmps26
      go_wp2_with (go_at_call 31; refine (hn.out _).mono ?_; rintro e w' ⟨rfl, rfl⟩)
      go_ret
      exact ⟨rfl, rfl⟩
set_option maxHeartbeats 4000000 in
set_option maxRecDepth 100000 in
theorem cmp_calls (a b : Int) : Calls Try.prog 27 #[.int .i64 a, .int .i64 b] w fun e w' => e = .returned (.int .i64 (cmpI a b)) ∧ w' = w := by
  have hn := Lib.hid fun a => nan_calls w a
  unfold cmpI
  by_cases h1 : a < b
  · have z1 : decide (a < b) = true := decide_eq_true h1
    rw [if_pos h1]
    go_enter Try.func27, Try.ntmps27
    go_wp2_with (go_at_call 32; refine (hn.out _).mono ?_; rintro e w' ⟨rfl, rfl⟩)
    go_ret
    exact ⟨rfl, rfl⟩
  · have z1 : decide (a < b) = false := decide_eq_false h1
    rw [if_neg h1]
    by_cases h2 : b < a
    · have z2 : decide (b < a) = true := decide_eq_true h2
      rw [if_pos h2]
      go_enter Try.func27, Try.ntmps27
      go_wp2_with (go_at_call 32; refine (hn.out _).mono ?_; rintro e w' ⟨rfl, rfl⟩)
      go_ret
      exact ⟨rfl, rfl⟩
    · have z2 : decide (b < a) = false := decide_eq_false h2
      rw [if_neg h2]
      go_enter Try.func27, Try.ntmps27
      go_wp2_with (go_at_call 32; refine (hn.out _).mono ?_; rintro e w' ⟨rfl, rfl⟩)
      go_ret
      exact ⟨rfl, rfl⟩
set_option maxHeartbeats 4000000 in
set_option maxRecDepth 100000 in
theorem or_calls (g : Nat) (a b : Int) (h0 : w.cell? ⟨g, 0, none⟩ = some (.int .i64 a)) (h1 : w.cell? ⟨g, 1, none⟩ = some (.int .i64 b)) : Calls Try.prog 25 #[.slice (some ⟨g, 0, none⟩) 2 2] w fun e w' => e = .returned (.int .i64 (orI a b)) ∧ w' = w := by
  have hr : orI a b = if a = 0 then b else a := rfl
  by_cases ha : a = 0
  · subst ha
    rw [hr, if_pos rfl]
    clear hr
    by_cases hb : b = 0
    · subst hb
      go_enter Try.func25, Try.ntmps25
      go_wp2
      go_loopw [5, 8] (fun x y wr => ∃ k : Nat, k ≤ 2 ∧ y = .int .i64 k ∧ wr = w) (fun _ y _ => 2 - (intOf y).toNat)
      case atStart => exact ⟨0, by omega, rfl, rfl⟩
      case round =>
        obtain ⟨k, hk, rfl, rfl⟩ := hrel
        rcases (show k = 0 ∨ k = 1 ∨ k = 2 by omega) with rfl | rfl | rfl
        · go_wp2
          go_roundw
          case rel => exact ⟨1, by omega, by go_num, by first | rfl | trivial⟩
          case measure => simp [intOf]
        · go_wp2
          go_roundw
          case rel => exact ⟨2, by omega, by go_num, by first | rfl | trivial⟩
          case measure => simp [intOf]
        · go_wp2
          go_ret
          exact ⟨rfl, rfl⟩
    · have z : (b == 0) = false := beq_eq_false_iff_ne.2 hb
      go_enter Try.func25, Try.ntmps25
      go_wp2
      go_loopw [5, 8] (fun x y wr => ∃ k : Nat, k ≤ 1 ∧ y = .int .i64 k ∧ wr = w) (fun _ y _ => 2 - (intOf y).toNat)
      case atStart => exact ⟨0, by omega, rfl, rfl⟩
      case round =>
        obtain ⟨k, hk, rfl, rfl⟩ := hrel
        rcases (show k = 0 ∨ k = 1 by omega) with rfl | rfl
        · go_wp2
          go_roundw
          case rel => exact ⟨1, by omega, by go_num, by first | rfl | trivial⟩
          case measure => simp [intOf]
        · go_wp2
          go_ret
          exact ⟨rfl, rfl⟩
  · have z : (a == 0) = false := beq_eq_false_iff_ne.2 ha
    rw [hr, if_neg ha]
    clear hr
    go_enter Try.func25, Try.ntmps25
    go_wp2
    go_loopw [5, 8] (fun x y wr => y = .int .i64 0 ∧ wr = w) (fun _ _ _ => 2)
    case atStart => exact ⟨rfl, rfl⟩
    case round =>
      obtain ⟨rfl, rfl⟩ := hrel
      go_wp2
      go_ret
      exact ⟨rfl, rfl⟩
end
/-- What the comparison reads: the box of the heat, the heat. -/
structure CC (cs : List Int) (t : Int) (P B c X : Nat) (w : World) : Prop where
  box : w.heap[X]? = some (.cells #[.pointer (some ⟨P, 0, none⟩)] 23 (0, 0))
  at_ : HAt cs t P B c w
section
variable {cs : List Int} {t : Int} {P B c X : Nat} {w w' : World}
theorem CC.below (h : CC cs t P B c X w) (hb : Below w.heap.size w w') : CC cs t P B c X w' := ⟨blk_below h.box hb, h.at_.below hb⟩
theorem CC.alloc (h : CC cs t P B c X w) (o : Obj) : CC cs t P B c X (w.alloc o) := h.below ((Below.refl _ _).alloc (Nat.le_refl _) _)
theorem CC.drew (h : CC cs t P B c X w) : CC cs t P B c X w.drew := h.below (drawn_any ⟨⟨1, rfl⟩⟩)
theorem CC.drewN (h : CC cs t P B c X w) (n : Nat) : CC cs t P B c X (w.drewN n) := h.below (drawn_any ⟨⟨n, rfl⟩⟩)
theorem CC.grown2 (h : CC cs t P B c X w) {row : Option Nat} (hg : w.grownBy w' row) (h1 : some X ≠ row) (h2 : ∀ q, q < X → some q ≠ row) (hP : P < X := by omega) (hB : B < X := by omega) : CC cs t P B c X w' :=
  ⟨blk_grown h.box hg h1, blk_grown h.at_.head hg (h2 P hP), Kd.R_step h.at_.row (fun k hk hlt => hg.block k hlt (by rw [hk]; exact h2 B hB))⟩
theorem getCC {p q r s : Prop} (h : p ∧ q ∧ r ∧ s ∧ Aside0 (CC cs t P B c X w)) : CC cs t P B c X w := h.2.2.2.2.out
end
set_option maxHeartbeats 8000000 in
set_option maxRecDepth 100000 in
theorem closure_calls (cs : List Int) (t : Int) (P B c X : Nat) (w : World) (i j : Nat) (hi : i < cs.length) (hj : j < cs.length) (H : Aside0 (CC cs t P B c X w)) :
    Calls Try.prog 24 #[.int .i64 (i : Int), .int .i64 (j : Int), .pointer (some ⟨X, 0, none⟩)] w fun e w' => e = .returned (.int .i64 (cfI cs i j)) ∧ ∃ o, w' = w.drew.alloc o := by
  have zi : decide ((0 : Int) ≤ (i : Int)) = true := decide_eq_true (by omega)
  have zj : decide ((0 : Int) ≤ (j : Int)) = true := decide_eq_true (by omega)
  have zi2 : decide ((i : Int) < (cs.length : Int)) = true := decide_eq_true (by omega)
  have zj2 : decide ((j : Int) < (cs.length : Int)) = true := decide_eq_true (by omega)
  have q26 := Lib.hid fun w' => cmp8_calls w' (rd cs j) (rd cs i)
  have q27 := Lib.hid fun w' => cmp_calls w' (i : Int) (j : Int)
  have q25 := Lib.hid fun (W : World) => or_calls (W.alloc (.cells #[.int .i64 (cmpI (rd cs j) (rd cs i)), .int .i64 (cmpI (i : Int) (j : Int))] 3)).drew W.heap.size (cmpI (rd cs j) (rd cs i)) (cmpI (i : Int) (j : Int)) ((blk_cell (blk_drew (blk_new W _)) 0).trans rfl) ((blk_cell (blk_drew (blk_new W _)) 1).trans rfl)
  have hss := Lib.hid fun (w' : World) (h : CC cs t P B c X w') => (show w'.cell? ⟨X, 0, none⟩ = some (.pointer (some ⟨P, 0, none⟩)) ∧ w'.cell? ⟨P, 0, none⟩ = some (.slice (some ⟨B, 0, none⟩) cs.length c) ∧ w'.cell? ⟨B, i, none⟩ = some (.int .u8 (rd cs i)) ∧ w'.cell? ⟨B, j, none⟩ = some (.int .u8 (rd cs j)) ∧ Aside0 (CC cs t P B c X w') from ⟨(blk_cell h.box 0).trans rfl, h.at_.cells.1, (h.at_.elem i hi).1, (h.at_.elem j hj).1, ⟨h⟩⟩)
  have hcf : Hid (cfI cs i j = orI (cmpI (rd cs j) (rd cs i)) (cmpI (i : Int) (j : Int))) := Lib.hid rfl
  generalize cfI cs (i : Int) (j : Int) = res at *
  generalize cmpI (rd cs (j : Int)) (rd cs (i : Int)) = c1 at *
  generalize cmpI (i : Int) (j : Int) = c2 at *
  generalize orI c1 c2 = c3 at *
  obtain rfl := hcf.out
  generalize rd cs (i : Int) = xi at *
  generalize rd cs (j : Int) = xj at *
  go_enter Try.func24, Try.ntmps24
  go_wp2
  refine wp_region_held_drew (S := (fun w' => w'.cell? ⟨X, 0, none⟩ = some (.pointer (some ⟨P, 0, none⟩)) ∧ w'.cell? ⟨P, 0, none⟩ = some (.slice (some ⟨B, 0, none⟩) cs.length c) ∧ w'.cell? ⟨B, i, none⟩ = some (.int .u8 xi) ∧ w'.cell? ⟨B, j, none⟩ = some (.int .u8 xj) ∧ Aside0 (CC cs t P B c X w'))) (by kernel_rfl) ?_ (fun hHeld => ?_)
  · ((refine hss.out _ ?_; (with_reducible repeat (first | exact Aside0.out (by assumption) | exact getCC (by assumption) | refine CC.drew ?_ | refine CC.drewN ?_ _ | refine CC.alloc ?_ _))))
  refine wpAnyH_take (i := 0) (oi := { dst := some 6, op := Op.load 23 (Operand.tmp 2), type := 23, pos := "heat.go:86", after := #[], guard := none }) (v := ?h1_0) rfl (by kernel_rfl) (by kernel_rfl) (by kernel_rfl) (fun _ _ _ h => h) (Or.inl ⟨by rfl, ?yh1_0⟩) (by assumption) ?rh1_0
  case yh1_0 => intro w hSw; (try dsimp only at hSw); go_simp; (try with_reducible rfl)
  simp only [Act.put, List.setIfInBounds_toArray, List.set_cons_zero, List.set_cons_succ]
  refine wpAnyH_take (i := 1) (oi := { dst := some 7, op := Op.nilCheck (Operand.tmp 6), type := 0, pos := "heat.go:86", after := #[{ on := 0, ground := Ground.data }], guard := none }) (v := ?h1_1) rfl (by kernel_rfl) (by kernel_rfl) (by kernel_rfl) (fun _ _ _ h => h) (Or.inl ⟨by rfl, ?yh1_1⟩) (by assumption) ?rh1_1
  case yh1_1 => intro w hSw; (try dsimp only at hSw); go_simp; (try with_reducible rfl)
  simp only [Act.put, List.setIfInBounds_toArray, List.set_cons_zero, List.set_cons_succ]
  refine wpAnyH_take (i := 2) (oi := { dst := some 8, op := Op.fieldAddr 48 (Operand.tmp 7) 0, type := 0, pos := "heat.go:86", after := #[{ on := 1, ground := Ground.data }], guard := none }) (v := ?h1_2) rfl (by kernel_rfl) (by kernel_rfl) (by kernel_rfl) (fun _ _ _ h => h) (Or.inl ⟨by rfl, ?yh1_2⟩) (by assumption) ?rh1_2
  case yh1_2 => intro w hSw; (try dsimp only at hSw); go_simp; (try with_reducible rfl)
  simp only [Act.put, List.setIfInBounds_toArray, List.set_cons_zero, List.set_cons_succ]
  refine wpAnyH_take (i := 3) (oi := { dst := some 9, op := Op.load 46 (Operand.tmp 8), type := 46, pos := "heat.go:86", after := #[{ on := 2, ground := Ground.data }], guard := none }) (v := ?h1_3) rfl (by kernel_rfl) (by kernel_rfl) (by kernel_rfl) (fun _ _ _ h => h) (Or.inl ⟨by rfl, ?yh1_3⟩) (by assumption) ?rh1_3
  case yh1_3 => intro w hSw; (try dsimp only at hSw); go_simp; (try with_reducible rfl)
  simp only [Act.put, List.setIfInBounds_toArray, List.set_cons_zero, List.set_cons_succ]
  refine wpAnyH_take (i := 4) (oi := { dst := some 10, op := Op.move (Operand.tmp 1), type := 3, pos := "heat.go:86", after := #[], guard := none }) (v := ?h1_4) rfl (by kernel_rfl) (by kernel_rfl) (by kernel_rfl) (fun _ _ _ h => h) (Or.inl ⟨by rfl, ?yh1_4⟩) (by assumption) ?rh1_4
  case yh1_4 => intro w hSw; (try dsimp only at hSw); go_simp; (try with_reducible rfl)
  simp only [Act.put, List.setIfInBounds_toArray, List.set_cons_zero, List.set_cons_succ]
  refine wpAnyH_take (i := 5) (oi := { dst := some 11, op := Op.indexAddr 46 (Operand.tmp 9) (Operand.tmp 10), type := 0, pos := "heat.go:86", after := #[{ on := 3, ground := Ground.data }, { on := 4, ground := Ground.data }], guard := none }) (v := ?h1_5) rfl (by kernel_rfl) (by kernel_rfl) (by kernel_rfl) (fun _ _ _ h => h) (Or.inl ⟨by rfl, ?yh1_5⟩) (by assumption) ?rh1_5
  case yh1_5 => intro w hSw; (try dsimp only at hSw); go_simp; (try with_reducible rfl)
  simp only [Act.put, List.setIfInBounds_toArray, List.set_cons_zero, List.set_cons_succ]
  refine wpAnyH_take (i := 6) (oi := { dst := some 12, op := Op.load 5 (Operand.tmp 11), type := 5, pos := "heat.go:86", after := #[{ on := 5, ground := Ground.data }], guard := none }) (v := ?h1_6) rfl (by kernel_rfl) (by kernel_rfl) (by kernel_rfl) (fun _ _ _ h => h) (Or.inl ⟨by rfl, ?yh1_6⟩) (by assumption) ?rh1_6
  case yh1_6 => intro w hSw; (try dsimp only at hSw); go_simp; (try with_reducible rfl)
  simp only [Act.put, List.setIfInBounds_toArray, List.set_cons_zero, List.set_cons_succ]
  refine wpAnyH_take (i := 7) (oi := { dst := some 13, op := Op.load 23 (Operand.tmp 2), type := 23, pos := "heat.go:86", after := #[], guard := none }) (v := ?h1_7) rfl (by kernel_rfl) (by kernel_rfl) (by kernel_rfl) (fun _ _ _ h => h) (Or.inl ⟨by rfl, ?yh1_7⟩) (by assumption) ?rh1_7
  case yh1_7 => intro w hSw; (try dsimp only at hSw); go_simp; (try with_reducible rfl)
  simp only [Act.put, List.setIfInBounds_toArray, List.set_cons_zero, List.set_cons_succ]
  refine wpAnyH_take (i := 8) (oi := { dst := some 14, op := Op.nilCheck (Operand.tmp 13), type := 0, pos := "heat.go:86", after := #[{ on := 7, ground := Ground.data }], guard := none }) (v := ?h1_8) rfl (by kernel_rfl) (by kernel_rfl) (by kernel_rfl) (fun _ _ _ h => h) (Or.inl ⟨by rfl, ?yh1_8⟩) (by assumption) ?rh1_8
  case yh1_8 => intro w hSw; (try dsimp only at hSw); go_simp; (try with_reducible rfl)
  simp only [Act.put, List.setIfInBounds_toArray, List.set_cons_zero, List.set_cons_succ]
  refine wpAnyH_take (i := 9) (oi := { dst := some 15, op := Op.fieldAddr 48 (Operand.tmp 14) 0, type := 0, pos := "heat.go:86", after := #[{ on := 8, ground := Ground.data }], guard := none }) (v := ?h1_9) rfl (by kernel_rfl) (by kernel_rfl) (by kernel_rfl) (fun _ _ _ h => h) (Or.inl ⟨by rfl, ?yh1_9⟩) (by assumption) ?rh1_9
  case yh1_9 => intro w hSw; (try dsimp only at hSw); go_simp; (try with_reducible rfl)
  simp only [Act.put, List.setIfInBounds_toArray, List.set_cons_zero, List.set_cons_succ]
  refine wpAnyH_take (i := 10) (oi := { dst := some 16, op := Op.load 46 (Operand.tmp 15), type := 46, pos := "heat.go:86", after := #[{ on := 9, ground := Ground.data }], guard := none }) (v := ?h1_10) rfl (by kernel_rfl) (by kernel_rfl) (by kernel_rfl) (fun _ _ _ h => h) (Or.inl ⟨by rfl, ?yh1_10⟩) (by assumption) ?rh1_10
  case yh1_10 => intro w hSw; (try dsimp only at hSw); go_simp; (try with_reducible rfl)
  simp only [Act.put, List.setIfInBounds_toArray, List.set_cons_zero, List.set_cons_succ]
  refine wpAnyH_take (i := 11) (oi := { dst := some 17, op := Op.move (Operand.tmp 0), type := 3, pos := "heat.go:86", after := #[], guard := none }) (v := ?h1_11) rfl (by kernel_rfl) (by kernel_rfl) (by kernel_rfl) (fun _ _ _ h => h) (Or.inl ⟨by rfl, ?yh1_11⟩) (by assumption) ?rh1_11
  case yh1_11 => intro w hSw; (try dsimp only at hSw); go_simp; (try with_reducible rfl)
  simp only [Act.put, List.setIfInBounds_toArray, List.set_cons_zero, List.set_cons_succ]
  refine wpAnyH_take (i := 12) (oi := { dst := some 18, op := Op.indexAddr 46 (Operand.tmp 16) (Operand.tmp 17), type := 0, pos := "heat.go:86", after := #[{ on := 10, ground := Ground.data }, { on := 11, ground := Ground.data }], guard := none }) (v := ?h1_12) rfl (by kernel_rfl) (by kernel_rfl) (by kernel_rfl) (fun _ _ _ h => h) (Or.inl ⟨by rfl, ?yh1_12⟩) (by assumption) ?rh1_12
  case yh1_12 => intro w hSw; (try dsimp only at hSw); go_simp; (try with_reducible rfl)
  simp only [Act.put, List.setIfInBounds_toArray, List.set_cons_zero, List.set_cons_succ]
  refine wpAnyH_take (i := 13) (oi := { dst := some 19, op := Op.load 5 (Operand.tmp 18), type := 5, pos := "heat.go:86", after := #[{ on := 12, ground := Ground.data }], guard := none }) (v := ?h1_13) rfl (by kernel_rfl) (by kernel_rfl) (by kernel_rfl) (fun _ _ _ h => h) (Or.inl ⟨by rfl, ?yh1_13⟩) (by assumption) ?rh1_13
  case yh1_13 => intro w hSw; (try dsimp only at hSw); go_simp; (try with_reducible rfl)
  simp only [Act.put, List.setIfInBounds_toArray, List.set_cons_zero, List.set_cons_succ]
  refine wpAnyH_take (i := 15) (oi := { dst := some 21, op := Op.move (Operand.tmp 0), type := 3, pos := "heat.go:86", after := #[], guard := none }) (v := ?h1_15) rfl (by kernel_rfl) (by kernel_rfl) (by kernel_rfl) (fun _ _ _ h => h) (Or.inl ⟨by rfl, ?yh1_15⟩) (by assumption) ?rh1_15
  case yh1_15 => intro w hSw; (try dsimp only at hSw); go_simp; (try with_reducible rfl)
  simp only [Act.put, List.setIfInBounds_toArray, List.set_cons_zero, List.set_cons_succ]
  refine wpAnyH_take (i := 16) (oi := { dst := some 22, op := Op.move (Operand.tmp 1), type := 3, pos := "heat.go:86", after := #[], guard := none }) (v := ?h1_16) rfl (by kernel_rfl) (by kernel_rfl) (by kernel_rfl) (fun _ _ _ h => h) (Or.inl ⟨by rfl, ?yh1_16⟩) (by assumption) ?rh1_16
  case yh1_16 => intro w hSw; (try dsimp only at hSw); go_simp; (try with_reducible rfl)
  simp only [Act.put, List.setIfInBounds_toArray, List.set_cons_zero, List.set_cons_succ]
  refine wpAnyH_ready (rs := [14]) (by kernel_rfl) (by simp) ?_
  refine AllReadyH.cons (o := { dst := some 20, op := Op.call { callee := Callee.value (Operand.func 26), args := #[Operand.tmp 12, Operand.tmp 19], argTypes := #[5, 5] }, type := 3, pos := "heat.go:86", after := #[{ on := 6, ground := Ground.data }, { on := 13, ground := Ground.data }], guard := none }) rfl (fun K hK => ?_) AllReadyH.nil
  go_simp
  (go_at_call 26; refine (q26.out _).mono ?_; rintro e w' ⟨rfl, rfl⟩)
  refine hK.out _ _ ?_ (fun hHeld => ?_)
  · ((refine hss.out _ ?_; (with_reducible repeat (first | exact Aside0.out (by assumption) | exact getCC (by assumption) | refine CC.drew ?_ | refine CC.drewN ?_ _ | refine CC.alloc ?_ _))))
  clear hK K
  try simp only [Act.put, List.setIfInBounds_toArray, List.set_cons_zero, List.set_cons_succ]
  refine wpAnyH_ready (rs := [17]) (by kernel_rfl) (by simp) ?_
  refine AllReadyH.cons (o := { dst := some 23, op := Op.call { callee := Callee.value (Operand.func 27), args := #[Operand.tmp 21, Operand.tmp 22], argTypes := #[3, 3] }, type := 3, pos := "heat.go:86", after := #[{ on := 15, ground := Ground.data }, { on := 16, ground := Ground.data }, { on := 14, ground := Ground.chain }], guard := none }) rfl (fun K hK => ?_) AllReadyH.nil
  go_simp
  (go_at_call 27; refine (q27.out _).mono ?_; rintro e w' ⟨rfl, rfl⟩)
  refine hK.out _ _ ?_ (fun hHeld => ?_)
  · ((refine hss.out _ ?_; (with_reducible repeat (first | exact Aside0.out (by assumption) | exact getCC (by assumption) | refine CC.drew ?_ | refine CC.drewN ?_ _ | refine CC.alloc ?_ _))))
  clear hK K
  try simp only [Act.put, List.setIfInBounds_toArray, List.set_cons_zero, List.set_cons_succ]
  refine wpAnyH_ready (rs := [18]) (by kernel_rfl) (by simp) ?_
  refine AllReadyH.cons (o := { dst := some 24, op := Op.buildSlice 22 2 #[(0, Operand.tmp 20), (1, Operand.tmp 23)], type := 22, pos := "heat.go:86", after := #[{ on := 14, ground := Ground.data }, { on := 17, ground := Ground.data }], guard := none }) rfl (fun K hK => ?_) AllReadyH.nil
  go_simp
  skip
  refine hK.out _ _ ?_ (fun hHeld => ?_)
  · ((refine hss.out _ ?_; (with_reducible repeat (first | exact Aside0.out (by assumption) | exact getCC (by assumption) | refine CC.drew ?_ | refine CC.drewN ?_ _ | refine CC.alloc ?_ _))))
  clear hK K
  try simp only [Act.put, List.setIfInBounds_toArray, List.set_cons_zero, List.set_cons_succ]
  refine wpAnyH_ready (rs := [19]) (by kernel_rfl) (by simp) ?_
  refine AllReadyH.cons (o := { dst := some 25, op := Op.call { callee := Callee.value (Operand.func 25), args := #[Operand.tmp 24], argTypes := #[22] }, type := 3, pos := "heat.go:86", after := #[{ on := 18, ground := Ground.data }, { on := 17, ground := Ground.chain }], guard := none }) rfl (fun K hK => ?_) AllReadyH.nil
  go_simp
  (go_at_call 25; refine (q25.out _).mono ?_; rintro e w' ⟨rfl, rfl⟩)
  refine hK.out _ _ ?_ (fun hHeld => ?_)
  · ((refine hss.out _ ?_; (with_reducible repeat (first | exact Aside0.out (by assumption) | exact getCC (by assumption) | refine CC.drew ?_ | refine CC.drewN ?_ _ | refine CC.alloc ?_ _))))
  clear hK K
  try simp only [Act.put, List.setIfInBounds_toArray, List.set_cons_zero, List.set_cons_succ]
  refine wpAnyH_take (i := 20) (oi := { dst := some 5, op := Op.assign (Operand.tmp 25), type := 3, pos := "heat.go:86", after := #[{ on := 19, ground := Ground.data }, { on := 19, ground := Ground.chain }, { on := 0, ground := Ground.phase }, { on := 1, ground := Ground.phase }, { on := 2, ground := Ground.phase }, { on := 3, ground := Ground.phase }, { on := 4, ground := Ground.phase }, { on := 5, ground := Ground.phase }, { on := 6, ground := Ground.phase }, { on := 7, ground := Ground.phase }, { on := 8, ground := Ground.phase }, { on := 9, ground := Ground.phase }, { on := 10, ground := Ground.phase }, { on := 11, ground := Ground.phase }, { on := 12, ground := Ground.phase }, { on := 13, ground := Ground.phase }, { on := 14, ground := Ground.phase }, { on := 15, ground := Ground.phase }, { on := 16, ground := Ground.phase }, { on := 17, ground := Ground.phase }, { on := 18, ground := Ground.phase }, { on := 19, ground := Ground.phase }], guard := none }) (v := ?h1_20) rfl (by kernel_rfl) (by kernel_rfl) (by kernel_rfl) (fun _ _ _ h => h) (Or.inl ⟨by rfl, ?yh1_20⟩) (by assumption) ?rh1_20
  case yh1_20 => intro w hSw; (try dsimp only at hSw); go_simp; (try with_reducible rfl)
  simp only [Act.put, List.setIfInBounds_toArray, List.set_cons_zero, List.set_cons_succ]
  refine wpAnyH_done (by kernel_rfl) ?_ _
  go_wp2
  go_ret
  exact ⟨rfl, _, rfl⟩
end Go.Proofs.Ytihggmhmfocnpaa.PQ
