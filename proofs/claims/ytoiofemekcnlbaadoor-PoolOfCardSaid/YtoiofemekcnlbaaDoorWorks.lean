/- The law's own test of the rest, walked. -/
import Derived.Test.YtoiofemekcnlbaaDoorBads
import Derived.Test.YtoiofemekcnlbaaDoorNew
import Derived.Outline
namespace Go.Proofs.YtoiofemekcnlbaaDoor.PQ
open Go.RowKit Go.Proofs.YtoiofemekcnlbaaDoorW.PrintWords Go.Proofs.YtoiofemekcnlbaaDoorW.PrintLast Go.Proofs.YtoiofemekcnlbaaDoorW.PrintMore
set_option linter.unusedVariables false
set_option linter.unusedSimpArgs false
/-- A pool made since w0: nothing that w0 held has changed. -/
structure Inv (l : List (Int × Bool)) (P B : Nat) (w0 w : World) : Prop where
  at_ : PoolAt l P B w
  below : Below w0.heap.size w0 w
  p : w0.heap.size ≤ P
  b : w0.heap.size ≤ B
theorem Inv.belowW {l : List (Int × Bool)} {P B : Nat} {w0 w w' : World} (h : Inv l P B w0 w) (d : Below w.heap.size w w') : Inv l P B w0 w' := ⟨h.at_.below d, h.below.trans (d.mono h.below.size), h.p, h.b⟩
theorem Inv.drawn {l : List (Int × Bool)} {P B : Nat} {w0 w w' : World} (h : Inv l P B w0 w) (d : Drawn0 w w') : Inv l P B w0 w' := h.belowW (drawn_any d)
theorem Inv.alloc {l : List (Int × Bool)} {P B : Nat} {w0 w : World} (h : Inv l P B w0 w) (o : Obj) : Inv l P B w0 (w.alloc o) := h.belowW ((Below.refl _ _).alloc (Nat.le_refl _) _)
theorem Inv.tabs {l : List (Int × Bool)} {P B : Nat} {w0 w : World} (h : Inv l P B w0 w) (t : Tabs w0) : Tabs w := tabs_below t h.below t.lt
theorem Inv.to {l : List (Int × Bool)} {P B : Nat} {w0 w : World} (h : Inv l P B w0 w) (t : Tabs w0) (i r : Int) :
    Calls Tryd.prog 10 #[.pointer (some ⟨P, 0, none⟩), .int .i64 i, .int .i64 r] w fun e w' => e = .returned (.int .i64 (toC l i r)) ∧ Inv (toR l i r) P B w0 w' ∧ Ch (fun k => k = B) w w' :=
  (to_calls l P B i r w h.at_ (h.tabs t)).mono fun e w' ⟨h1, h2, h3⟩ => ⟨h1, ⟨h2, h.below.trans (h3.below h.below.size (fun k hk => by have := h.b; have e : k = B := hk; omega)), h.p, h.b⟩, h3⟩
theorem Inv.wear {l : List (Int × Bool)} {P B : Nat} {w0 w : World} (h : Inv l P B w0 w) (i : Int) :
    Calls Tryd.prog 11 #[.pointer (some ⟨P, 0, none⟩), .int .i64 i] w fun e w' => e = .returned (.int .i64 (if okI l i then 0 else 1)) ∧ Inv (wearR l i) P B w0 w' ∧ Ch (fun k => k = B) w w' :=
  (wear_calls l P B i w h.at_).mono fun e w' ⟨h1, h2, h3⟩ => ⟨h1, ⟨h2, h.below.trans (h3.below h.below.size (fun k hk => by have := h.b; have e : k = B := hk; omega)), h.p, h.b⟩, h3⟩
theorem Inv.count {l : List (Int × Bool)} {P B : Nat} {w0 w : World} (h : Inv l P B w0 w) (r : Int) :
    Calls Tryd.prog 12 #[.pointer (some ⟨P, 0, none⟩), .int .i64 r] w fun e w' => e = .returned (.int .i64 ((listK l [r] l.length).length : Int)) ∧ Inv l P B w0 w' :=
  (count_core l P B r w ⟨h.at_⟩).mono fun e w' ⟨h1, h2⟩ => ⟨h1, h.belowW h2⟩
theorem Inv.bads {l : List (Int × Bool)} {P B : Nat} {w0 w : World} (h : Inv l P B w0 w) :
    Calls Tryd.prog 15 #[.pointer (some ⟨P, 0, none⟩)] w fun e w' => e = .returned (.int .i64 (badsK l l.length)) ∧ Inv l P B w0 w' :=
  (bads_core l P B w ⟨h.at_⟩).mono fun e w' ⟨h1, h2⟩ => ⟨h1, h.belowW h2⟩
theorem Inv.worn {l : List (Int × Bool)} {P B : Nat} {w0 w : World} (h : Inv l P B w0 w) (i : Int) :
    Calls Tryd.prog 14 #[.pointer (some ⟨P, 0, none⟩), .int .i64 i] w fun e w' => e = .returned (.bool (if okI l i then wn l i else false)) ∧ Inv l P B w0 w' :=
  (worn_calls l P B i w h.at_).mono fun e w' ⟨h1, h2⟩ => ⟨h1, by rw [h2]; exact h⟩
theorem Inv.role {l : List (Int × Bool)} {P B : Nat} {w0 w : World} (h : Inv l P B w0 w) (i : Int) :
    Calls Tryd.prog 19 #[.pointer (some ⟨P, 0, none⟩), .int .i64 i] w fun e w' => e = .returned (.int .i64 (if okI l i then rl l i else 6)) ∧ Inv l P B w0 w' :=
  (role_calls l P B i w h.at_).mono fun e w' ⟨h1, h2⟩ => ⟨h1, by rw [h2]; exact h⟩
theorem inv_new (n : Nat) (w : World) (h1 : 1 ≤ n) (h2 : n ≤ 64) :
    Calls Tryd.prog 9 #[.int .i64 n] w fun e w' => Aside0 (∃ P B, e = .returned (.tuple #[.pointer (some ⟨P, 0, none⟩), .int .i64 0]) ∧ Inv (List.replicate n (0, false)) P B w w') :=
  (new_yes n w h1 h2).mono fun e w' ⟨⟨P, h1, h2, h3, h4⟩⟩ => ⟨⟨P, _, h1, h3, h4, h2, Nat.le_refl _⟩⟩
theorem add0 (g j : Nat) : (⟨g, 0, none⟩ : Addr).add j = ⟨g, j, none⟩ := by cases j <;> simp [Addr.add]
theorem blk_add (a : Addr) (n : Nat) : (a.add n).block = a.block := by unfold Addr.add; split <;> rfl
/-- A row of integers in a block that stays. -/
theorem C_ch {S : Nat → Prop} {w w' : World} {g : Nat} {xs : List Int} {n : Nat} (h : Kd.C (Kd.int .i64) w (some ⟨g, 0, none⟩) n xs) (c : Ch S w w') (hg : g < w.heap.size) (hS : ¬ S g) : Kd.C (Kd.int .i64) w' (some ⟨g, 0, none⟩) n xs :=
  ⟨h.1, h.2.1, fun hp => by
    obtain ⟨ad, e, hc⟩ := h.2.2 hp
    cases e
    refine ⟨_, rfl, fun j p hj => ?_⟩
    obtain ⟨cs, h1, h2, h3⟩ := hc j p hj
    exact ⟨cs, h1, h2, fun i u hu => (World.cell?_of_block (by rw [blk_add]; exact c.block g hg hS)).trans (h3 i u hu)⟩⟩
def wks : List Int := [1, 2, 5, 0]
def stW : Nat → List (Int × Bool)
  | 0 => List.replicate 3 (0, false)
  | k + 1 => toR (stW k) 1 (rd wks k)
theorem stW_ok : ∀ k, k < 4 → toC (stW k) 1 (rd wks k) = 0 := by
  intro k hk
  have : k = 0 ∨ k = 1 ∨ k = 2 ∨ k = 3 := by omega
  rcases this with rfl | rfl | rfl | rfl <;> decide +kernel
set_option maxHeartbeats 4000000 in
set_option maxRecDepth 100000 in
theorem works_spec (w : World) (hT : Aside0 (Tabs w)) :
    Calls Tryd.prog 7 #[] w fun e w' => e = .returned (.bool true) ∧ Below w.heap.size w w' := by
  go_enter Tryd.func7, Tryd.ntmps7
  go_wp2_with fail
  refine (inv_new 3 w (by decide) (by decide)).mono ?_
  rintro e w1 ⟨⟨P, B, rfl, hI⟩⟩
  have HI := Aside0.mk (hI.alloc (.cells #[.int .i64 1, .int .i64 2, .int .i64 5, .int .i64 0] 3))
  have hL := Aside0.mk (C_lit w1 wks 3 (by decide))
  have hgB : w1.heap.size ≠ B := fun e => by have := hI.at_.lt.2; omega
  clear hI
  go_wp2_with fail
  have hgs : w1.heap.size < (w1.alloc (.cells #[.int .i64 1, .int .i64 2, .int .i64 5, .int .i64 0] 3)).heap.size := by rw [World.size_alloc]; omega
  generalize hW : w1.alloc (.cells #[.int .i64 1, .int .i64 2, .int .i64 5, .int .i64 0] 3) = W at *
  have hL' : Aside0 (Kd.C (Kd.int .i64) W (some ⟨w1.heap.size, 0, none⟩) wks.length wks) := ⟨hW ▸ hL.out⟩
  clear hL hW
  generalize w1.heap.size = g at *
  have hgB' := Lib.hid hgB
  clear hgB
  go_loopw [17] (fun i wr => ∃ k : Nat, k ≤ 4 ∧ i = .int .i64 k ∧ Aside0 (Inv (stW k) P B w wr) ∧ Aside0 (Kd.C (Kd.int .i64) wr (some ⟨g, 0, none⟩) wks.length wks) ∧ Aside0 (g < wr.heap.size)) (fun i _ => 4 - (intOf i).toNat)
  case atStart => exact ⟨0, by omega, rfl, HI, hL', ⟨hgs⟩⟩
  case round =>
    clear HI hL' hgs
    obtain ⟨k, hk, rfl, HI, HL, Hg⟩ := hrel
    by_cases hlt : k < 4
    · have yk : decide ((k : Int) < 4) = true := decide_eq_true (by omega)
      obtain ⟨ad, e1, hx⟩ := Kd.at_int HL.out (k : Int) (by omega) (by show (k : Int) < ((4 : Nat) : Int); omega)
      cases e1
      rw [Int.toNat_natCast, add0] at hx
      have hA := Lib.hid (HI.out.to hT.out 1 (rd wks k))
      have hC := Lib.hid (stW_ok k hlt)
      have hS := Lib.hid (show stW (k + 1) = toR (stW k) 1 (rd wks k) from rfl)
      generalize rd wks (k : Int) = x at *
      go_wp2_with fail
      refine hA.out.mono ?_
      rw [hC.out]
      rintro e w2 ⟨rfl, h2, h3⟩
      have H2 : Aside0 (Inv (stW (k + 1)) P B w w2) := ⟨hS.out ▸ h2⟩
      have HL2 := Aside0.mk (C_ch HL.out h3 Hg.out hgB'.out)
      have Hg2 := Aside0.mk (Nat.lt_of_lt_of_le Hg.out h3.size)
      clear h2 h3 hA hC hS HI HL Hg hx
      go_wp2
      go_roundw
      case rel => exact ⟨k + 1, by omega, by go_num, H2, HL2, Hg2⟩
      case measure => simp [intOf]; omega
    · obtain rfl : k = 4 := by omega
      have hA := Lib.hid (HI.out.to hT.out 1 2)
      have hC : Hid (toC (stW 4) 1 2 = 5) := Lib.hid (by decide +kernel)
      go_wp2_with fail
      refine hA.out.mono ?_
      rw [hC.out]
      rintro e w2 ⟨rfl, h2, h3⟩
      have hB := Lib.hid (h2.to hT.out 3 1)
      have hD : Hid (toC (toR (stW 4) 1 2) 3 1 = 1) := Lib.hid (by decide +kernel)
      clear hA hC HI h2 h3
      go_wp2_with fail
      refine hB.out.mono ?_
      rw [hD.out]
      rintro e w3 ⟨rfl, h2, h3⟩
      have hE := Lib.hid (h2.count 0)
      have hF : Hid ((listK (toR (toR (stW 4) 1 2) 3 1) [0] (toR (toR (stW 4) 1 2) 3 1).length).length = 3) := Lib.hid (by decide +kernel)
      clear hB hD h2 h3
      go_wp2_with fail
      refine hE.out.mono ?_
      rw [hF.out]
      rintro e w4 ⟨rfl, h2⟩
      have fin := Aside0.mk h2.below
      clear hE hF h2
      go_wp2
      go_ret
      exact ⟨rfl, fin.out⟩
end Go.Proofs.YtoiofemekcnlbaaDoor.PQ
