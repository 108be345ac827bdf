/- A pool's methods, walked. -/
import Derived.Test.YtoiofemekcnlbaaDoorPool
namespace Go.Proofs.YtoiofemekcnlbaaDoor.PQ
open Go.RowKit Go.Proofs.YtoiofemekcnlbaaDoorW.PrintWords Go.Proofs.YtoiofemekcnlbaaDoorW.PrintLast Go.Proofs.YtoiofemekcnlbaaDoorW.PrintMore
set_option linter.unusedVariables false
set_option linter.unusedSimpArgs false
/-- The role of a block, and whether it is worn. -/
def rl (l : List (Int × Bool)) (i : Int) : Int := (l.getD i.toNat (0, false)).1
def wn (l : List (Int × Bool)) (i : Int) : Bool := (l.getD i.toNat (0, false)).2
def okI (l : List (Int × Bool)) (i : Int) : Prop := 0 ≤ i ∧ i < l.length
instance (l : List (Int × Bool)) (i : Int) : Decidable (okI l i) := inferInstanceAs (Decidable (0 ≤ i ∧ i < l.length))
/-- What the walks read, of one block. -/
theorem PoolAt.at_ {l : List (Int × Bool)} {P B : Nat} {w : World} (h : PoolAt l P B w) (k : Nat) (hk : k < l.length) :
    w.cell? ⟨P, 0, none⟩ = some (.slice (some ⟨B, 0, none⟩) l.length l.length) ∧ w.cell? ⟨B, k * 2, none⟩ = some (.int .i64 (rl l k)) ∧ w.cell? ⟨B, k * 2 + 1, none⟩ = some (.bool (wn l k)) ∧ w.frozen? ⟨B, k * 2, none⟩ = false ∧ w.frozen? ⟨B, k * 2 + 1, none⟩ = false :=
  ⟨h.head0, by unfold rl; rw [Int.toNat_natCast]; exact h.cell0 k hk, by unfold wn; rw [Int.toNat_natCast]; exact h.cell1 k hk, h.free _, h.free _⟩
theorem PoolAt.out_ {l : List (Int × Bool)} {P B : Nat} {w : World} (h : PoolAt l P B w) : w.cell? ⟨P, 0, none⟩ = some (.slice (some ⟨B, 0, none⟩) l.length l.length) := h.head0
set_option maxHeartbeats 1000000 in
set_option maxRecDepth 100000 in
theorem role_no (l : List (Int × Bool)) (P B : Nat) (i : Int) (w : World) (H : Aside0 (PoolAt l P B w)) (hi : ¬ okI l i) :
    Calls Tryd.prog 19 #[.pointer (some ⟨P, 0, none⟩), .int .i64 i] w fun e w' => e = .returned (.int .i64 6) ∧ w' = w := by
  have c0 := H.out.head0
  have hlen := H.out.len
  by_cases h0 : 0 ≤ i
  · have h1 : decide (i < (l.length : Int)) = false := decide_eq_false (fun h => hi ⟨h0, h⟩)
    have g0 : decide (0 ≤ i) = true := decide_eq_true h0
    clear hi h0
    go_enter Tryd.func19, Tryd.ntmps19
    go_wp2
    go_ret
    exact ⟨rfl, rfl⟩
  · have g0 : decide (0 ≤ i) = false := decide_eq_false h0
    clear hi h0
    go_enter Tryd.func19, Tryd.ntmps19
    go_wp2
    go_ret
    exact ⟨rfl, rfl⟩
set_option maxHeartbeats 1000000 in
set_option maxRecDepth 100000 in
theorem role_yes (l : List (Int × Bool)) (P B : Nat) (k : Nat) (w : World) (H : Aside0 (PoolAt l P B w)) (hk : k < l.length) :
    Calls Tryd.prog 19 #[.pointer (some ⟨P, 0, none⟩), .int .i64 k] w fun e w' => e = .returned (.int .i64 (rl l k)) ∧ w' = w := by
  obtain ⟨c0, c1, c2, f1, f2⟩ := H.out.at_ k hk
  have hlen := H.out.len
  generalize rl l k = x at *
  generalize wn l k = y at *
  have h1 : decide ((k : Int) < (l.length : Int)) = true := decide_eq_true (by omega)
  go_enter Tryd.func19, Tryd.ntmps19
  go_wp2
  go_ret
  exact ⟨rfl, rfl⟩
theorem role_calls (l : List (Int × Bool)) (P B : Nat) (i : Int) (w : World) (H : PoolAt l P B w) :
    Calls Tryd.prog 19 #[.pointer (some ⟨P, 0, none⟩), .int .i64 i] w fun e w' => e = .returned (.int .i64 (if okI l i then rl l i else 6)) ∧ w' = w := by
  by_cases h : okI l i
  · rw [if_pos h]
    obtain ⟨k, rfl⟩ := Int.eq_ofNat_of_zero_le h.1
    exact role_yes l P B k w ⟨H⟩ (by have := h.2; omega)
  · rw [if_neg h]
    exact role_no l P B i w ⟨H⟩ h
set_option maxHeartbeats 1000000 in
set_option maxRecDepth 100000 in
theorem worn_no (l : List (Int × Bool)) (P B : Nat) (i : Int) (w : World) (H : Aside0 (PoolAt l P B w)) (hi : ¬ okI l i) :
    Calls Tryd.prog 14 #[.pointer (some ⟨P, 0, none⟩), .int .i64 i] w fun e w' => e = .returned (.bool false) ∧ w' = w := by
  have c0 := H.out.head0
  have hlen := H.out.len
  by_cases h0 : 0 ≤ i
  · have h1 : decide (i < (l.length : Int)) = false := decide_eq_false (fun h => hi ⟨h0, h⟩)
    have g0 : decide (0 ≤ i) = true := decide_eq_true h0
    clear hi h0
    go_enter Tryd.func14, Tryd.ntmps14
    go_wp2
    go_ret
    exact ⟨rfl, rfl⟩
  · have g0 : decide (0 ≤ i) = false := decide_eq_false h0
    clear hi h0
    go_enter Tryd.func14, Tryd.ntmps14
    go_wp2
    go_ret
    exact ⟨rfl, rfl⟩
set_option maxHeartbeats 1000000 in
set_option maxRecDepth 100000 in
theorem worn_yes (l : List (Int × Bool)) (P B : Nat) (k : Nat) (w : World) (H : Aside0 (PoolAt l P B w)) (hk : k < l.length) :
    Calls Tryd.prog 14 #[.pointer (some ⟨P, 0, none⟩), .int .i64 k] w fun e w' => e = .returned (.bool (wn l k)) ∧ w' = w := by
  obtain ⟨c0, c1, c2, f1, f2⟩ := H.out.at_ k hk
  have hlen := H.out.len
  generalize rl l k = x at *
  generalize wn l k = y at *
  have h1 : decide ((k : Int) < (l.length : Int)) = true := decide_eq_true (by omega)
  go_enter Tryd.func14, Tryd.ntmps14
  go_wp2
  go_ret
  exact ⟨rfl, rfl⟩
theorem worn_calls (l : List (Int × Bool)) (P B : Nat) (i : Int) (w : World) (H : PoolAt l P B w) :
    Calls Tryd.prog 14 #[.pointer (some ⟨P, 0, none⟩), .int .i64 i] w fun e w' => e = .returned (.bool (if okI l i then wn l i else false)) ∧ w' = w := by
  by_cases h : okI l i
  · rw [if_pos h]
    obtain ⟨k, rfl⟩ := Int.eq_ofNat_of_zero_le h.1
    exact worn_yes l P B k w ⟨H⟩ (by have := h.2; omega)
  · rw [if_neg h]
    exact worn_no l P B i w ⟨H⟩ h
def wearR (l : List (Int × Bool)) (i : Int) : List (Int × Bool) := if okI l i then l.set i.toNat (rl l i, true) else l
set_option maxHeartbeats 1000000 in
set_option maxRecDepth 100000 in
theorem wear_no (l : List (Int × Bool)) (P B : Nat) (i : Int) (w : World) (H : Aside0 (PoolAt l P B w)) (hi : ¬ okI l i) :
    Calls Tryd.prog 11 #[.pointer (some ⟨P, 0, none⟩), .int .i64 i] w fun e w' => e = .returned (.int .i64 1) ∧ w' = w := by
  have c0 := H.out.head0
  have hlen := H.out.len
  by_cases h0 : 0 ≤ i
  · have h1 : decide (i < (l.length : Int)) = false := decide_eq_false (fun h => hi ⟨h0, h⟩)
    have g0 : decide (0 ≤ i) = true := decide_eq_true h0
    clear hi h0
    go_enter Tryd.func11, Tryd.ntmps11
    go_wp2
    go_ret
    exact ⟨rfl, rfl⟩
  · have g0 : decide (0 ≤ i) = false := decide_eq_false h0
    clear hi h0
    go_enter Tryd.func11, Tryd.ntmps11
    go_wp2
    go_ret
    exact ⟨rfl, rfl⟩
set_option maxHeartbeats 1000000 in
set_option maxRecDepth 100000 in
theorem wear_yes (l : List (Int × Bool)) (P B : Nat) (k : Nat) (w : World) (H : Aside0 (PoolAt l P B w)) (hk : k < l.length) :
    Calls Tryd.prog 11 #[.pointer (some ⟨P, 0, none⟩), .int .i64 k] w fun e w' => e = .returned (.int .i64 0) ∧ w' = w.setCell ⟨B, k * 2 + 1, none⟩ (.bool true) := by
  obtain ⟨c0, c1, c2, f1, f2⟩ := H.out.at_ k hk
  have hlen := H.out.len
  generalize rl l k = x at *
  generalize wn l k = y at *
  have h1 : decide ((k : Int) < (l.length : Int)) = true := decide_eq_true (by omega)
  go_enter Tryd.func11, Tryd.ntmps11
  go_wp2
  go_ret
  exact ⟨rfl, rfl⟩
theorem wear_calls (l : List (Int × Bool)) (P B : Nat) (i : Int) (w : World) (H : PoolAt l P B w) :
    Calls Tryd.prog 11 #[.pointer (some ⟨P, 0, none⟩), .int .i64 i] w fun e w' => e = .returned (.int .i64 (if okI l i then 0 else 1)) ∧ PoolAt (wearR l i) P B w' ∧ Ch (fun k => k = B) w w' := by
  unfold wearR
  by_cases h : okI l i
  · rw [if_pos h, if_pos h]
    obtain ⟨k, rfl⟩ := Int.eq_ofNat_of_zero_le h.1
    refine (wear_yes l P B k w ⟨H⟩ (by have := h.2; omega)).mono fun e w' ⟨h1, h2⟩ => ⟨h1, ?_, ?_⟩
    · rw [h2]
      unfold rl
      rw [Int.toNat_natCast]
      exact H.set1 k true
    · rw [h2]; exact Ch.set _
  · rw [if_neg h, if_neg h]
    exact (wear_no l P B i w ⟨H⟩ h).mono fun e w' ⟨h1, h2⟩ => ⟨h1, by rw [h2]; exact H, by rw [h2]; exact Ch.refl _ _⟩
/-- Does a block take a role? -/
def takes (f r : Int) (b : Bool) : Bool := mayB f r && !(b && (r == 0 || f == 0 && r != 6))
set_option maxHeartbeats 1000000 in
set_option maxRecDepth 100000 in
theorem to_out (l : List (Int × Bool)) (P B : Nat) (i r : Int) (w : World) (H : Aside0 (PoolAt l P B w)) (hi : ¬ okI l i) :
    Calls Tryd.prog 10 #[.pointer (some ⟨P, 0, none⟩), .int .i64 i, .int .i64 r] w fun e w' => e = .returned (.int .i64 1) ∧ w' = w := by
  have c0 := H.out.head0
  have hlen := H.out.len
  by_cases h0 : 0 ≤ i
  · have h1 : decide (i < (l.length : Int)) = false := decide_eq_false (fun h => hi ⟨h0, h⟩)
    have g0 : decide (0 ≤ i) = true := decide_eq_true h0
    clear hi h0
    go_enter Tryd.func10, Tryd.ntmps10
    go_wp2
    go_ret
    exact ⟨rfl, rfl⟩
  · have g0 : decide (0 ≤ i) = false := decide_eq_false h0
    clear hi h0
    go_enter Tryd.func10, Tryd.ntmps10
    go_wp2
    go_ret
    exact ⟨rfl, rfl⟩
set_option maxHeartbeats 1000000 in
set_option maxRecDepth 100000 in
theorem to_role (l : List (Int × Bool)) (P B : Nat) (k : Nat) (r : Int) (w : World) (H : Aside0 (PoolAt l P B w)) (hk : k < l.length) (hr : ¬ (0 ≤ r ∧ r < 7)) :
    Calls Tryd.prog 10 #[.pointer (some ⟨P, 0, none⟩), .int .i64 k, .int .i64 r] w fun e w' => e = .returned (.int .i64 1) ∧ w' = w := by
  obtain ⟨c0, c1, c2, f1, f2⟩ := H.out.at_ k hk
  have hlen := H.out.len
  have h1 : decide ((k : Int) < (l.length : Int)) = true := decide_eq_true (by omega)
  by_cases h0 : 0 ≤ r
  · have g1 : decide (r < 7) = false := decide_eq_false (fun h => hr ⟨h0, h⟩)
    have g0 : decide (0 ≤ r) = true := decide_eq_true h0
    clear hr h0
    go_enter Tryd.func10, Tryd.ntmps10
    go_wp2
    go_ret
    exact ⟨rfl, rfl⟩
  · have g0 : decide (0 ≤ r) = false := decide_eq_false h0
    clear hr h0
    go_enter Tryd.func10, Tryd.ntmps10
    go_wp2
    go_ret
    exact ⟨rfl, rfl⟩
set_option maxHeartbeats 2000000 in
set_option maxRecDepth 100000 in
theorem to_walk (l : List (Int × Bool)) (P B : Nat) (k f r : Nat) (m b : Bool) (w : World) (H : Aside0 (PoolAt l P B w)) (hk : k < l.length) (hr : r < 7) (hf : f < 7) (ef : rl l k = (f : Int)) (eb : wn l k = b) (hT : w.cell? ⟨0, f * 7 + r, none⟩ = some (.bool m)) (em : mayB f r = m) :
    Calls Tryd.prog 10 #[.pointer (some ⟨P, 0, none⟩), .int .i64 k, .int .i64 r] w fun e w' => e = .returned (.int .i64 (if takes f r b then 0 else 5)) ∧ w' = if takes f r b then w.setCell ⟨B, k * 2, none⟩ (.int .i64 r) else w := by
  obtain ⟨c0, c1, c2, f1, f2⟩ := H.out.at_ k hk
  have hlen := H.out.len
  rw [ef] at c1
  rw [eb] at c2
  have h1 : decide ((k : Int) < (l.length : Int)) = true := decide_eq_true (by omega)
  have hr0 : decide (0 ≤ (r : Int)) = true := decide_eq_true (by omega)
  have hr1 : decide ((r : Int) < 7) = true := decide_eq_true (by omega)
  clear ef eb
  unfold takes
  rw [em]
  clear em
  cases m with
  | false =>
    rw [Bool.false_and, if_neg (by decide), if_neg (by decide)]
    go_enter Tryd.func10, Tryd.ntmps10
    go_wp2
    go_ret
    exact ⟨rfl, rfl⟩
  | true =>
    rw [Bool.true_and]
    cases b with
    | false =>
      rw [Bool.false_and, Bool.not_false, if_pos rfl, if_pos rfl]
      go_enter Tryd.func10, Tryd.ntmps10
      go_wp2
      go_ret
      exact ⟨rfl, rfl⟩
    | true =>
      rw [Bool.true_and]
      by_cases r0 : r = 0
      · subst r0
        replace hT : w.cell? ⟨0, f * 7, none⟩ = some (.bool true) := hT
        rw [if_neg (by simp), if_neg (by simp)]
        go_enter Tryd.func10, Tryd.ntmps10
        go_wp2
        go_ret
        exact ⟨rfl, rfl⟩
      · have e0 : ((r : Int) == 0) = false := beq_eq_false_iff_ne.2 (by omega)
        by_cases f0 : f = 0
        · subst f0
          by_cases r6 : r = 6
          · subst r6
            replace hT : w.cell? ⟨0, 6, none⟩ = some (.bool true) := hT
            rw [if_pos (by decide), if_pos (by decide)]
            go_enter Tryd.func10, Tryd.ntmps10
            go_wp2
            go_ret
            exact ⟨rfl, rfl⟩
          · replace hT : w.cell? ⟨0, r, none⟩ = some (.bool true) := by rw [← hT]; congr 2; omega
            have e6 : ((r : Int) == 6) = false := beq_eq_false_iff_ne.2 (by omega)
            have e6' : ((r : Int) != 6) = true := bne_iff_ne.2 (by omega)
            rw [if_neg (by rw [e0, e6']; decide), if_neg (by rw [e0, e6']; decide)]
            go_enter Tryd.func10, Tryd.ntmps10
            go_wp2
            go_ret
            exact ⟨rfl, rfl⟩
        · have g0 : ((f : Int) == 0) = false := beq_eq_false_iff_ne.2 (by omega)
          rw [if_pos (by rw [e0, g0]; rfl), if_pos (by rw [e0, g0]; rfl)]
          go_enter Tryd.func10, Tryd.ntmps10
          go_wp2
          go_ret
          exact ⟨rfl, rfl⟩
/-- What To answers, and what it leaves. -/
def okR (r : Int) : Prop := 0 ≤ r ∧ r < 7
instance (r : Int) : Decidable (okR r) := inferInstanceAs (Decidable (0 ≤ r ∧ r < 7))
def toC (l : List (Int × Bool)) (i r : Int) : Int := if okI l i ∧ okR r then (if takes (rl l i) r (wn l i) then 0 else 5) else 1
def toR (l : List (Int × Bool)) (i r : Int) : List (Int × Bool) := if okI l i ∧ okR r then (if takes (rl l i) r (wn l i) then l.set i.toNat (r, wn l i) else l) else l
theorem toC_in {l : List (Int × Bool)} {i r : Int} (h : okI l i ∧ okR r) : toC l i r = (if takes (rl l i) r (wn l i) then 0 else 5) := if_pos h
theorem toR_in {l : List (Int × Bool)} {i r : Int} (h : okI l i ∧ okR r) : toR l i r = (if takes (rl l i) r (wn l i) then l.set i.toNat (r, wn l i) else l) := if_pos h
theorem toC_out {l : List (Int × Bool)} {i r : Int} (h : ¬ (okI l i ∧ okR r)) : toC l i r = 1 := if_neg h
theorem toR_out {l : List (Int × Bool)} {i r : Int} (h : ¬ (okI l i ∧ okR r)) : toR l i r = l := if_neg h
theorem to_calls (l : List (Int × Bool)) (P B : Nat) (i r : Int) (w : World) (H : PoolAt l P B w) (hT : Tabs w) :
    Calls Tryd.prog 10 #[.pointer (some ⟨P, 0, none⟩), .int .i64 i, .int .i64 r] w fun e w' => e = .returned (.int .i64 (toC l i r)) ∧ PoolAt (toR l i r) P B w' ∧ Ch (fun k => k = B) w w' := by
  by_cases h : okI l i
  · obtain ⟨k, rfl⟩ := Int.eq_ofNat_of_zero_le h.1
    have hk : k < l.length := by have := h.2; omega
    by_cases hr : okR r
    · obtain ⟨r, rfl⟩ := Int.eq_ofNat_of_zero_le hr.1
      rw [toC_in ⟨h, hr⟩, toR_in ⟨h, hr⟩]
      have hf := getD_may H.may k
      have ef : rl l k = (l.getD k (0, false)).1 := by unfold rl; rw [Int.toNat_natCast]
      obtain ⟨f, hf2⟩ := Int.eq_ofNat_of_zero_le hf.1
      have hr7 : r < 7 := by have := hr.2; omega
      have hw := to_walk l P B k f r (mayB f r) (wn l k) w ⟨H⟩ hk hr7 (by omega) (ef.trans hf2) rfl (hT.at_ f r (by omega) hr7) rfl
      have hs := H.set0 k r ⟨by omega, by omega⟩
      have ew : wn l (k : Int) = (l.getD k (0, false)).2 := by unfold wn; rw [Int.toNat_natCast]
      rw [ef, hf2]
      refine hw.mono fun e w' h12 => ?_
      obtain ⟨h1, h2⟩ := h12
      by_cases ht : takes (f : Int) (r : Int) (wn l k) = true
      · rw [if_pos ht] at h1 h2
        subst h2
        refine ⟨by rw [h1, if_pos ht], ?_, Ch.set _⟩
        rw [if_pos ht, ew, Int.toNat_natCast]
        exact hs
      · rw [if_neg ht] at h1 h2
        subst h2
        exact ⟨by rw [h1, if_neg ht], by rw [if_neg ht]; exact H, Ch.refl _ _⟩
    · rw [toC_out (fun x => hr x.2), toR_out (fun x => hr x.2)]
      exact (to_role l P B k r w ⟨H⟩ hk hr).mono fun e w' ⟨h1, h2⟩ => ⟨h1, by rw [h2]; exact H, by rw [h2]; exact Ch.refl _ _⟩
  · rw [toC_out (fun x => h x.1), toR_out (fun x => h x.1)]
    exact (to_out l P B i r w ⟨H⟩ h).mono fun e w' ⟨h1, h2⟩ => ⟨h1, by rw [h2]; exact H, by rw [h2]; exact Ch.refl _ _⟩
end Go.Proofs.YtoiofemekcnlbaaDoor.PQ
