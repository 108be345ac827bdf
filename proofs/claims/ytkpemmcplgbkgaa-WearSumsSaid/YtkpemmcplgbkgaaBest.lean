/- The contracts of wear.Least and wear.greatest, by those of best[int] and of the functions that they hand it: the best of a list; no condition but that the lists are read. -/
import Derived.Test.YtkpemmcplgbkgaaPRx0
import Derived.WalkSpells
import Derived.LoopTactic
import Derived.Lib.Hide
import Derived.Deep.QuietTactic
import Derived.BigQuiet
namespace Go.Proofs.Ytkpemmcplgbkgaa.PQ
open Go.RowKit Go.Proofs.YtkpemmcplgbkgaaW.PrintWords Go.Proofs.YtkpemmcplgbkgaaW.PrintLast Go.Proofs.YtkpemmcplgbkgaaW.PrintMore
attribute [local go_sem] max2_int min2_int max_two min_two max_three min_three max_four min_four
set_option linter.unusedVariables false
set_option linter.unusedSimpArgs false
def ofI (l : List Int) (a : Int) : Int := if a < 0 ∨ (l.length : Int) ≤ a then 0 else mx (rd l a) 0
set_option maxHeartbeats 1000000 in
set_option maxRecDepth 100000 in
theorem of_core (A0 : Option Addr) (c0 : Nat) (l0 : List Int) (a1 : Int) (w : World) (hr0 : Kd.C (Kd.int .i64) w A0 l0.length l0) :
    Calls Try.prog 15 #[.slice A0 l0.length c0, .int .i64 a1] w fun e w' => e = .returned (.int .i64 (ofI l0 a1)) ∧ Drawn0 w w' := by
  have HR0 := Aside0.mk hr0
  clear hr0
  by_cases c3 : a1 < 0
  · have c3b0 : decide (a1 < 0) = true := decide_eq_true c3
    have hr : ofI l0 a1 = 0 := if_pos (Or.inl c3)
    clear c3
    go_enter Try.func15, Try.ntmps15
    go_wp2
    go_ret
    exact ⟨by rw [hr]; rfl, Drawn0.refl _⟩
  · have c3b0 : decide (a1 < 0) = false := decide_eq_false c3
    by_cases c4 : (l0.length : Int) ≤ a1
    · have c4b0 : decide ((l0.length : Int) ≤ a1) = true := decide_eq_true c4
      have hr : ofI l0 a1 = 0 := if_pos (Or.inr c4)
      clear c4 c3
      go_enter Try.func15, Try.ntmps15
      go_wp2
      go_ret
      exact ⟨by rw [hr]; rfl, Drawn0.refl _⟩
    · have c4b0 : decide ((l0.length : Int) ≤ a1) = false := decide_eq_false c4
      have hr : ofI l0 a1 = mx (rd l0 a1) 0 := if_neg (fun x => x.elim c3 c4)
      obtain ⟨ji7, hji7⟩ : ∃ j_ : Int, (mx (rd l0 a1) 0) = j_ := ⟨_, rfl⟩
      have hji7_ : (if (rd l0 a1) < 0 then 0 else (rd l0 a1)) = ji7 := hji7
      rw [hji7] at hr
      have p101 : 0 ≤ (a1 : Int) := by omega
      have q101 : a1 < (l0.length : Int) := by omega
      obtain ⟨ad101, e101, hx101_0⟩ := Kd.at_int HR0.out a1 p101 q101
      cases e101
      replace p101 := eq_true p101
      replace q101 := eq_true q101
      clear c3 c4
      have hr' := Aside0.mk hr
      clear hr
      go_enter Try.func15, Try.ntmps15
      go_wp2
      go_ret
      refine ⟨?_, Drawn0.refl _⟩
      rw [hr'.out, ← hji7]
      first | rfl | (simp [errW_none, errW_some] <;> rfl)
def lessP (l : List Int) (a b : Int) : Bool := decide (ofI l a < ofI l b) || (ofI l a == ofI l b && decide (a < b))
def moreP (l : List Int) (a b : Int) : Bool := decide (ofI l b < ofI l a)
set_option maxHeartbeats 1000000 in
set_option maxRecDepth 100000 in
theorem clos18 (B : Nat) (A0 : Option Addr) (c0 : Nat) (l : List Int) (a b : Int) (w : World) (hr0 : Aside0 (Kd.C (Kd.int .i64) w A0 l.length l)) (hcap : w.cell? ⟨B, 0, none⟩ = some (.slice A0 l.length c0)) :
    Calls Try.prog 18 #[.int .i64 a, .int .i64 b, .pointer (some ⟨B, 0, none⟩)] w fun e w' => e = .returned (.bool (lessP l a b)) ∧ Drawn0 w w' := by
  have hC : ∀ n, Kd.C (Kd.int .i64) (w.drewN n) A0 l.length l := fun n => Kd.C_below hr0.out (Drawn0.below ⟨⟨n, rfl⟩⟩)
  have hq : ∀ n a1, Calls Try.prog 15 #[.slice A0 l.length c0, .int .i64 a1] (w.drewN n) fun e w'' => e = .returned (.int .i64 (ofI l a1)) ∧ ∃ m, w'' = w.drewN m := fun n a1 =>
    Calls.quiet_of ((of_core A0 c0 l a1 (w.drewN n) (hC n)).mono fun e w' ⟨h1, h2⟩ => ⟨h1, by obtain ⟨m, hm⟩ := h2; exact ⟨m, hm⟩⟩)
  have hl : lessP l a b = (decide (ofI l a < ofI l b) || (ofI l a == ofI l b && decide (a < b))) := rfl
  generalize lessP l a b = R at hl ⊢
  have ha := fun n => hq n a
  have hb := fun n => hq n b
  clear hq
  generalize ofI l a = x at hl ha
  generalize ofI l b = y at hl hb
  have hl' := Aside0.mk hl
  clear hl
  have fin : ∀ n, Drawn0 w (w.drewN n) := fun n => ⟨⟨n, rfl⟩⟩
  by_cases c1 : x < y
  · have c1b : decide (x < y) = true := decide_eq_true c1
    go_enter Try.func18, Try.ntmps18
    go_wp2
    go_quiet (first | (with_reducible exact ha _) | (with_reducible exact hb _))
    go_wp2
    go_ret
    exact ⟨by rw [hl'.out, c1b]; rfl, fin _⟩
  · have c1b : decide (x < y) = false := decide_eq_false c1
    by_cases c2 : x = y
    · have c2b : (x == y) = true := beq_iff_eq.2 c2
      clear c1
      by_cases c3 : a < b
      · have c3b : decide (a < b) = true := decide_eq_true c3
        clear c2 c3
        go_enter Try.func18, Try.ntmps18
        go_wp2
        go_quiet (first | (with_reducible exact ha _) | (with_reducible exact hb _))
        go_wp2
        go_ret
        exact ⟨by rw [hl'.out, c1b, c2b, c3b]; rfl, fin _⟩
      · have c3b : decide (a < b) = false := decide_eq_false c3
        clear c2 c3
        go_enter Try.func18, Try.ntmps18
        go_wp2
        go_quiet (first | (with_reducible exact ha _) | (with_reducible exact hb _))
        go_wp2
        go_ret
        exact ⟨by rw [hl'.out, c1b, c2b, c3b]; rfl, fin _⟩
    · have c2b : (x == y) = false := beq_eq_false_iff_ne.2 c2
      clear c1 c2
      go_enter Try.func18, Try.ntmps18
      go_wp2
      go_quiet (first | (with_reducible exact ha _) | (with_reducible exact hb _))
      go_wp2
      go_ret
      exact ⟨by rw [hl'.out, c1b, c2b]; rfl, fin _⟩
set_option maxHeartbeats 1000000 in
set_option maxRecDepth 100000 in
theorem clos20 (B : Nat) (A0 : Option Addr) (c0 : Nat) (l : List Int) (a b : Int) (w : World) (hr0 : Aside0 (Kd.C (Kd.int .i64) w A0 l.length l)) (hcap : w.cell? ⟨B, 0, none⟩ = some (.slice A0 l.length c0)) :
    Calls Try.prog 20 #[.int .i64 a, .int .i64 b, .pointer (some ⟨B, 0, none⟩)] w fun e w' => e = .returned (.bool (moreP l a b)) ∧ Drawn0 w w' := by
  have hC : ∀ n, Kd.C (Kd.int .i64) (w.drewN n) A0 l.length l := fun n => Kd.C_below hr0.out (Drawn0.below ⟨⟨n, rfl⟩⟩)
  have hq : ∀ n a1, Calls Try.prog 15 #[.slice A0 l.length c0, .int .i64 a1] (w.drewN n) fun e w'' => e = .returned (.int .i64 (ofI l a1)) ∧ ∃ m, w'' = w.drewN m := fun n a1 =>
    Calls.quiet_of ((of_core A0 c0 l a1 (w.drewN n) (hC n)).mono fun e w' ⟨h1, h2⟩ => ⟨h1, by obtain ⟨m, hm⟩ := h2; exact ⟨m, hm⟩⟩)
  have hl : moreP l a b = decide (ofI l b < ofI l a) := rfl
  generalize moreP l a b = R at hl ⊢
  have ha := fun n => hq n a
  have hb := fun n => hq n b
  clear hq
  generalize ofI l a = x at hl ha
  generalize ofI l b = y at hl hb
  have hl' := Aside0.mk hl
  clear hl
  have fin : ∀ n, Drawn0 w (w.drewN n) := fun n => ⟨⟨n, rfl⟩⟩
  go_enter Try.func20, Try.ntmps20
  go_wp2
  go_quiet (first | (with_reducible exact ha _) | (with_reducible exact hb _))
  go_wp2
  go_ret
  exact ⟨by rw [hl'.out]; rfl, fin _⟩
/-- The best of the first k. -/
def bestK (P : Int → Int → Bool) (ys : List Int) : Nat → Int
  | 0 => 0
  | k + 1 => if k = 0 ∨ P (rd ys k) (bestK P ys k) = true then rd ys k else bestK P ys k
set_option maxHeartbeats 1000000 in
set_option maxRecDepth 100000 in
theorem best18 (B : Nat) (A0 : Option Addr) (c0 : Nat) (l : List Int) (A1 : Option Addr) (c1 : Nat) (ys : List Int) (w : World) (hr0 : Aside0 (Kd.C (Kd.int .i64) w A0 l.length l)) (hcap : Aside0 (w.cell? ⟨B, 0, none⟩ = some (.slice A0 l.length c0))) (hr1 : Aside0 (Kd.C (Kd.int .i64) w A1 ys.length ys)) :
    Calls Try.prog 17 #[.slice A1 ys.length c1, .func (.func 18) #[] #[.pointer (some ⟨B, 0, none⟩)]] w fun e w' => e = .returned (.tuple #[.int .i64 (bestK (lessP l) ys ys.length), .bool (decide (0 < ys.length))]) ∧ Drawn0 w w' := by
  have hlen := Lib.hid hr1.out.2.1
  go_enter Try.func17, Try.ntmps17
  go_wp2
  go_loopw [6, 11] (fun o i wr => ∃ k : Nat, k ≤ ys.length ∧ i = .int .i64 k ∧ o = .int .i64 (bestK (lessP l) ys k) ∧ Drawn0 w wr) (fun _ i _ => ys.length - (intOf i).toNat)
  case atStart => exact ⟨0, Nat.zero_le _, rfl, rfl, Drawn0.refl _⟩
  case round =>
    obtain ⟨k, hk, rfl, rfl, ⟨nd, rfl⟩⟩ := hrel
    by_cases hlt : k < ys.length
    · have yk : decide ((k : Int) < (ys.length : Int)) = true := decide_eq_true (by omega)
      obtain ⟨ad, e1, hx⟩ := Kd.at_int (Kd.C_below hr1.out (Drawn0.below ⟨⟨nd, rfl⟩⟩)) (k : Int) (by omega) (by omega)
      cases e1
      rw [Int.toNat_natCast] at hx
      have hk9 : k < 9223372036854775807 := by have := hlen.out; omega
      have hb : bestK (lessP l) ys (k + 1) = if k = 0 ∨ lessP l (rd ys k) (bestK (lessP l) ys k) = true then rd ys k else bestK (lessP l) ys k := rfl
      by_cases h0 : k = 0
      · subst h0
        rw [if_pos (Or.inl rfl)] at hb
        have hx0 : (w.drewN nd).cell? ad = some (.int .i64 (rd ys ((0 : Nat) : Int))) := by
          have e : ad.add 0 = ad := Addr.add_zero' ad
          rw [e] at hx; exact hx
        have hb' := Aside0.mk hb
        clear hb hx
        go_wp2
        go_roundw
        case rel => exact ⟨1, by omega, by go_num, by rw [hb'.out]; rfl, ⟨⟨nd, rfl⟩⟩⟩
        case measure => simp [intOf]; omega
      · have y0 : ((k : Int) == 0) = false := by rw [beq_eq_false_iff_ne]; omega
        have hcl := fun x => (clos18 B A0 c0 l (rd ys k) x (w.drewN nd) ⟨Kd.C_below hr0.out (Drawn0.below ⟨⟨nd, rfl⟩⟩)⟩ hcap.out)
        obtain ⟨R, hR⟩ : ∃ R, R = lessP l (rd ys k) (bestK (lessP l) ys k) := ⟨_, rfl⟩
        cases hP : lessP l (rd ys k) (bestK (lessP l) ys k) with
        | true =>
          rw [if_pos (Or.inr hP)] at hb
          have hb' := Aside0.mk hb
          clear hb
          have hc := hcl (bestK (lessP l) ys k)
          rw [hP] at hc
          clear hcl hP hR
          go_wp2_with (go_at_call 18; refine hc.mono ?_; rintro e w2 ⟨rfl, ⟨m2, rfl⟩⟩)
          go_roundw
          case rel => exact ⟨k + 1, by omega, by go_num, by rw [hb'.out], ⟨⟨nd + m2, rfl⟩⟩⟩
          case measure => simp [intOf]; omega
        | false =>
          rw [if_neg (fun x => x.elim h0 (fun y => by rw [hP] at y; cases y))] at hb
          have hb' := Aside0.mk hb
          clear hb
          have hc := hcl (bestK (lessP l) ys k)
          rw [hP] at hc
          clear hcl hP hR
          go_wp2_with (go_at_call 18; refine hc.mono ?_; rintro e w2 ⟨rfl, ⟨m2, rfl⟩⟩)
          go_roundw
          case rel => exact ⟨k + 1, by omega, by go_num, by rw [hb'.out], ⟨⟨nd + m2, rfl⟩⟩⟩
          case measure => simp [intOf]; omega
    · obtain rfl : k = ys.length := by omega
      go_wp2
      go_ret2
      exact ⟨rfl, ⟨⟨nd, rfl⟩⟩⟩
set_option maxHeartbeats 1000000 in
set_option maxRecDepth 100000 in
theorem best20 (B : Nat) (A0 : Option Addr) (c0 : Nat) (l : List Int) (A1 : Option Addr) (c1 : Nat) (ys : List Int) (w : World) (hr0 : Aside0 (Kd.C (Kd.int .i64) w A0 l.length l)) (hcap : Aside0 (w.cell? ⟨B, 0, none⟩ = some (.slice A0 l.length c0))) (hr1 : Aside0 (Kd.C (Kd.int .i64) w A1 ys.length ys)) :
    Calls Try.prog 17 #[.slice A1 ys.length c1, .func (.func 20) #[] #[.pointer (some ⟨B, 0, none⟩)]] w fun e w' => e = .returned (.tuple #[.int .i64 (bestK (moreP l) ys ys.length), .bool (decide (0 < ys.length))]) ∧ Drawn0 w w' := by
  have hlen := Lib.hid hr1.out.2.1
  go_enter Try.func17, Try.ntmps17
  go_wp2
  go_loopw [6, 11] (fun o i wr => ∃ k : Nat, k ≤ ys.length ∧ i = .int .i64 k ∧ o = .int .i64 (bestK (moreP l) ys k) ∧ Drawn0 w wr) (fun _ i _ => ys.length - (intOf i).toNat)
  case atStart => exact ⟨0, Nat.zero_le _, rfl, rfl, Drawn0.refl _⟩
  case round =>
    obtain ⟨k, hk, rfl, rfl, ⟨nd, rfl⟩⟩ := hrel
    by_cases hlt : k < ys.length
    · have yk : decide ((k : Int) < (ys.length : Int)) = true := decide_eq_true (by omega)
      obtain ⟨ad, e1, hx⟩ := Kd.at_int (Kd.C_below hr1.out (Drawn0.below ⟨⟨nd, rfl⟩⟩)) (k : Int) (by omega) (by omega)
      cases e1
      rw [Int.toNat_natCast] at hx
      have hk9 : k < 9223372036854775807 := by have := hlen.out; omega
      have hb : bestK (moreP l) ys (k + 1) = if k = 0 ∨ moreP l (rd ys k) (bestK (moreP l) ys k) = true then rd ys k else bestK (moreP l) ys k := rfl
      by_cases h0 : k = 0
      · subst h0
        rw [if_pos (Or.inl rfl)] at hb
        have hx0 : (w.drewN nd).cell? ad = some (.int .i64 (rd ys ((0 : Nat) : Int))) := by
          have e : ad.add 0 = ad := Addr.add_zero' ad
          rw [e] at hx; exact hx
        have hb' := Aside0.mk hb
        clear hb hx
        go_wp2
        go_roundw
        case rel => exact ⟨1, by omega, by go_num, by rw [hb'.out]; rfl, ⟨⟨nd, rfl⟩⟩⟩
        case measure => simp [intOf]; omega
      · have y0 : ((k : Int) == 0) = false := by rw [beq_eq_false_iff_ne]; omega
        have hcl := fun x => (clos20 B A0 c0 l (rd ys k) x (w.drewN nd) ⟨Kd.C_below hr0.out (Drawn0.below ⟨⟨nd, rfl⟩⟩)⟩ hcap.out)
        obtain ⟨R, hR⟩ : ∃ R, R = moreP l (rd ys k) (bestK (moreP l) ys k) := ⟨_, rfl⟩
        cases hP : moreP l (rd ys k) (bestK (moreP l) ys k) with
        | true =>
          rw [if_pos (Or.inr hP)] at hb
          have hb' := Aside0.mk hb
          clear hb
          have hc := hcl (bestK (moreP l) ys k)
          rw [hP] at hc
          clear hcl hP hR
          go_wp2_with (go_at_call 20; refine hc.mono ?_; rintro e w2 ⟨rfl, ⟨m2, rfl⟩⟩)
          go_roundw
          case rel => exact ⟨k + 1, by omega, by go_num, by rw [hb'.out], ⟨⟨nd + m2, rfl⟩⟩⟩
          case measure => simp [intOf]; omega
        | false =>
          rw [if_neg (fun x => x.elim h0 (fun y => by rw [hP] at y; cases y))] at hb
          have hb' := Aside0.mk hb
          clear hb
          have hc := hcl (bestK (moreP l) ys k)
          rw [hP] at hc
          clear hcl hP hR
          go_wp2_with (go_at_call 20; refine hc.mono ?_; rintro e w2 ⟨rfl, ⟨m2, rfl⟩⟩)
          go_roundw
          case rel => exact ⟨k + 1, by omega, by go_num, by rw [hb'.out], ⟨⟨nd + m2, rfl⟩⟩⟩
          case measure => simp [intOf]; omega
    · obtain rfl : k = ys.length := by omega
      go_wp2
      go_ret2
      exact ⟨rfl, ⟨⟨nd, rfl⟩⟩⟩
def wear_Least.f (l0 l1 : List Int) : Option Int := some (if l1.length = 0 then -1 else bestK (lessP l0) l1 l1.length)
def wear_greatest.f (l0 l1 : List Int) : Option Int := some (if l1.length = 0 then 0 else ofI l0 (bestK (moreP l0) l1 l1.length))
set_option maxHeartbeats 1000000 in
set_option maxRecDepth 100000 in
theorem wear_Least.calls (A0 : Option Addr) (c0 : Nat) (l0 : List Int) (A1 : Option Addr) (c1 : Nat) (l1 : List Int) (r : Int) (w : World) (hr0 : Kd.C (Kd.int .i64) w A0 l0.length l0) (hc0 : l0.length ≤ c0) (hr1 : Kd.C (Kd.int .i64) w A1 l1.length l1) (hc1 : l1.length ≤ c1) (h : wear_Least.f l0 l1 = some r) :
    Calls Try.prog 11 #[.slice A0 l0.length c0, .slice A1 l1.length c1] w fun e w' => e = .returned (.int .i64 r) ∧ Below w.heap.size w w' := by
  have hmf : ∀ (fn : Fn) (first cap : Array Value) (w : World), (Instr.makeFunc fn first cap).run Try.prog w = .ok (.func fn first cap) w := fun _ _ _ _ => rfl
  have hb : Below w.heap.size w (w.alloc (.cells #[.slice A0 l0.length c0] 22)) := below_alloc (Below.refl _ w) _
  have g := best18 w.heap.size A0 c0 l0 A1 c1 l1 (w.alloc (.cells #[.slice A0 l0.length c0] 22)) ⟨Kd.C_below hr0 hb⟩ ⟨by rw [World.cell?_alloc_at _ _ _ _ rfl]; rfl⟩ ⟨Kd.C_below hr1 hb⟩
  unfold wear_Least.f at h
  have h' := Aside0.mk (Option.some.inj h)
  clear h hr0 hr1
  by_cases z : l1.length = 0
  · have yz : decide (0 < l1.length) = false := decide_eq_false (by omega)
    rw [yz] at g
    have hz := Aside0.mk z
    clear z
    go_enter Try.func11, Try.ntmps11
    go_wp2_with (go_at_call 17; refine g.mono ?_; rintro e w2 ⟨rfl, ⟨m2, rfl⟩⟩)
    go_ret
    refine ⟨?_, pw_below_drewN hb _⟩
    rw [← h'.out, if_pos hz.out]; rfl
  · have yz : decide (0 < l1.length) = true := decide_eq_true (by omega)
    rw [yz] at g
    have hz := Aside0.mk z
    clear z
    go_enter Try.func11, Try.ntmps11
    go_wp2_with (go_at_call 17; refine g.mono ?_; rintro e w2 ⟨rfl, ⟨m2, rfl⟩⟩)
    go_ret
    refine ⟨?_, pw_below_drewN hb _⟩
    rw [← h'.out, if_neg hz.out]; rfl
set_option maxHeartbeats 1000000 in
set_option maxRecDepth 100000 in
theorem wear_greatest.calls (A0 : Option Addr) (c0 : Nat) (l0 : List Int) (A1 : Option Addr) (c1 : Nat) (l1 : List Int) (r : Int) (w : World) (hr0 : Kd.C (Kd.int .i64) w A0 l0.length l0) (hc0 : l0.length ≤ c0) (hr1 : Kd.C (Kd.int .i64) w A1 l1.length l1) (hc1 : l1.length ≤ c1) (h : wear_greatest.f l0 l1 = some r) :
    Calls Try.prog 19 #[.slice A0 l0.length c0, .slice A1 l1.length c1] w fun e w' => e = .returned (.int .i64 r) ∧ Below w.heap.size w w' := by
  have hmf : ∀ (fn : Fn) (first cap : Array Value) (w : World), (Instr.makeFunc fn first cap).run Try.prog w = .ok (.func fn first cap) w := fun _ _ _ _ => rfl
  have hb : Below w.heap.size w (w.alloc (.cells #[.slice A0 l0.length c0] 22)) := below_alloc (Below.refl _ w) _
  have hcap : (w.alloc (.cells #[.slice A0 l0.length c0] 22)).cell? ⟨w.heap.size, 0, none⟩ = some (.slice A0 l0.length c0) := by rw [World.cell?_alloc_at _ _ _ _ rfl]; rfl
  have g := best20 w.heap.size A0 c0 l0 A1 c1 l1 (w.alloc (.cells #[.slice A0 l0.length c0] 22)) ⟨Kd.C_below hr0 hb⟩ ⟨hcap⟩ ⟨Kd.C_below hr1 hb⟩
  have hof := fun n a1 => of_core A0 c0 l0 a1 ((w.alloc (.cells #[.slice A0 l0.length c0] 22)).drewN n) (Kd.C_below (Kd.C_below hr0 hb) (Drawn0.below ⟨⟨n, rfl⟩⟩))
  unfold wear_greatest.f at h
  have h' := Aside0.mk (Option.some.inj h)
  clear h hr0 hr1
  by_cases z : l1.length = 0
  · have yz : decide (0 < l1.length) = false := decide_eq_false (by omega)
    rw [yz] at g
    have hz := Aside0.mk z
    clear z hof
    go_enter Try.func19, Try.ntmps19
    go_wp2_with (go_at_call 17; refine g.mono ?_; rintro e w2 ⟨rfl, ⟨m2, rfl⟩⟩)
    go_ret
    refine ⟨?_, pw_below_drewN hb _⟩
    rw [← h'.out, if_pos hz.out]; rfl
  · have yz : decide (0 < l1.length) = true := decide_eq_true (by omega)
    rw [yz] at g
    have hz := Aside0.mk z
    clear z
    go_enter Try.func19, Try.ntmps19
    go_wp2_with (first | (go_at_call 17; refine g.mono ?_; rintro e w2 ⟨rfl, ⟨m2, rfl⟩⟩) | (go_at_call 15; refine (hof m2 _).mono ?_; rintro e w3 ⟨rfl, ⟨m3, rfl⟩⟩))
    go_ret
    refine ⟨?_, pw_below_drewN hb _⟩
    rw [← h'.out, if_neg hz.out]; rfl
end Go.Proofs.Ytkpemmcplgbkgaa.PQ
