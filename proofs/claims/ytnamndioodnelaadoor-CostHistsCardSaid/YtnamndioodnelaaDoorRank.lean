/- Rank walked. -/
import Derived.Test.YtnamndioodnelaaDoorHist
namespace Go.Proofs.YtnamndioodnelaaDoor.PQ
open Go.RowKit Go.Proofs.YtnamndioodnelaaDoorW.PrintWords Go.Proofs.YtnamndioodnelaaDoorW.PrintLast Go.Proofs.YtnamndioodnelaaDoorW.PrintMore
set_option linter.unusedVariables false
set_option linter.unusedSimpArgs false
theorem run_load_part (v : List Int) (b : Nat) (w : World) (H : HistAt v b w) : (loadVar 43 ⟨b, 0, none⟩).run Tryd.prog w = .ok (.agg ((v.take 64).map (Value.int .i64)).toArray) w := by
  have hl := run_loadCells_list (P := Tryd.prog) w ⟨b, 0, none⟩ ((v.take 64).map (Value.int .i64)) (fun j x hx => by
    have hadd : (⟨b, 0, none⟩ : Addr).add j = ⟨b, j, none⟩ := by unfold Addr.add; split <;> simp_all
    rw [hadd]
    have hj : j < 64 := by
      have := (List.getElem?_eq_some_iff.1 hx).1
      rw [List.length_map, List.length_take] at this; omega
    rw [H.cell j (by omega)]
    rw [List.getElem?_map, List.getElem?_take_of_lt hj] at hx
    rw [List.getD_eq_getElem?_getD, List.getElem?_eq_getElem (show j < v.length by rw [H.len]; omega)]
    rw [List.getElem?_eq_getElem (show j < v.length by rw [H.len]; omega)] at hx
    exact hx)
  have hlen : ((v.take 64).map (Value.int .i64)).length = 64 := by rw [List.length_map, List.length_take, H.len]; rfl
  rw [hlen] at hl
  have hagg : (isAgg 43).run Tryd.prog w = .ok true w := Tryd.isAgg43 w
  have hsz : (Go.sizeOf 43).run Tryd.prog w = .ok 64 w := Tryd.sizeOf43 w
  simp [loadVar, Sem.run_bind, hagg, hsz, hl]
theorem wpList_load_part {ops : Array Oper} {rest : List Oper} {o : Oper} {a : Act} {w : World} {Q : Exit → Act → World → Prop} (hgd : o.guard = none) (x : Operand) (ho : o.op = .load 43 x)
    (v : List Int) (b : Nat) (hx : a.eval x = .pointer (some ⟨b, 0, none⟩)) (H : HistAt v b w)
    (h : wpList Tryd.prog ops Q rest (a.put o.dst (.agg ((v.map (Value.int .i64)).take 64).toArray)) w) : wpList Tryd.prog ops Q (o :: rest) a w := by
  refine wpList_plain hgd fun K hK => ?_
  unfold Oper.wp execOp
  simp only [ho, hx, Instr.loadAt, Instr.sureAddr, Sem.run_bind, Sem.run_pure, Result.andThen_ok, run_load_part v b w H]
  rw [List.map_take]
  exact hK _ _ h
theorem idx43 (A : Array Value) (k : Nat) (x : Int) (W : World) (hk : k < 64) (hA : A[k]? = some (.int .i64 x)) : (Instr.index 43 (.agg A) (.int .i64 (k : Int))).run Tryd.prog W = .ok (.int .i64 x) W := by
  have hz := Tryd.sizeOf3 W
  have hn : (0 : Int) ≤ (k : Int) ∧ (k : Int) < 64 := by omega
  simp [Instr.index, run_underlying Tryd.underlying43, asIntOf, hn, hz, go_sem, hA]
  intro h; omega
theorem HistAt.below {v : List Int} {b : Nat} {w w' : World} (h : HistAt v b w) (d : Below w.heap.size w w') : HistAt v b w' := h.block (d.block b h.lt)
set_option maxHeartbeats 1000000 in
set_option maxRecDepth 100000 in
theorem place_core (p c z q r q1 q2 q3 R : Int) (w : World) (u1 : IntKind.u64.wrap p = p) (u2 : IntKind.u64.wrap c = c)
    (hM : Hid (∀ w, Calls Tryd.prog 31 #[.int .u64 p, .int .u64 c] w fun e w' => e = .returned (.tuple #[.int .u64 0, .int .u64 z]) ∧ Drawn0 w w'))
    (hD : Hid (∀ w, Calls Tryd.prog 32 #[.int .u64 0, .int .u64 z, .int .u64 1000] w fun e w' => e = .returned (.tuple #[.int .u64 q, .int .u64 r]) ∧ Drawn0 w w'))
    (e1 : IntKind.u64.wrap (q + 1) = q1) (e2 : IntKind.i64.wrap q1 = q2) (e3 : IntKind.i64.wrap q = q3) (hR : Aside0 ((if r > 0 then max q2 1 else max q3 1) = R)) :
    Calls Tryd.prog 23 #[.int .i64 p, .int .i64 c] w fun e w' => e = .returned (.int .i64 R) ∧ Drawn0 w w' := by
  by_cases g : r > 0
  · have g' : decide (0 < r) = true := decide_eq_true g
    have hr := hR.out
    rw [if_pos g] at hr
    have hs := Aside0.mk hr
    clear hr hR g
    go_enter Tryd.func23, Tryd.ntmps23
    go_wp2_with (first | (go_at_call 31; refine (hM.out _).mono ?_; rintro e w2 ⟨rfl, ⟨m2, rfl⟩⟩) | (go_at_call 32; refine (hD.out _).mono ?_; rintro e w3 ⟨rfl, ⟨m3, rfl⟩⟩))
    go_ret
    exact ⟨by rw [← hs.out]; rfl, ⟨⟨_, rfl⟩⟩⟩
  · have g' : decide (0 < r) = false := decide_eq_false g
    have hr := hR.out
    rw [if_neg g] at hr
    have hs := Aside0.mk hr
    clear hr hR g
    go_enter Tryd.func23, Tryd.ntmps23
    go_wp2_with (first | (go_at_call 31; refine (hM.out _).mono ?_; rintro e w2 ⟨rfl, ⟨m2, rfl⟩⟩) | (go_at_call 32; refine (hD.out _).mono ?_; rintro e w3 ⟨rfl, ⟨m3, rfl⟩⟩))
    go_ret
    exact ⟨by rw [← hs.out]; rfl, ⟨⟨_, rfl⟩⟩⟩
theorem drawn_trans {a b c : World} (h : Drawn0 a b) (k : Drawn0 b c) : Drawn0 a c := by
  obtain ⟨⟨n, rfl⟩⟩ := k
  exact h.step n
/-- The first bucket at which so many are reached, from bucket i on; d more buckets. -/
def rankFrom (v : List Int) : Nat → Nat → Int → Int
  | 0, _, _ => 9223372036854775807
  | d + 1, i, a => if wrap64 (a - v.getD i 0) ≤ 0 then 2 ^ i - 1 else rankFrom v d (i + 1) (wrap64 (a - v.getD i 0))
theorem top_nat (i : Nat) (h : i < 64) : PR.cost_top.f ((i : Nat) : Int) = some (2 ^ i - 1) := by
  have : ∀ i < 64, PR.cost_top.f ((i : Nat) : Int) = some (2 ^ i - 1) := by decide +kernel
  exact this i h
set_option maxHeartbeats 2000000 in
set_option maxRecDepth 100000 in
theorem rank_core (b : Nat) (v : List Int) (p : Int) (at0 : Int) (w : World) (H : Aside0 (HistAt v b w)) (c q : Int) (ec : v.getD 64 0 = c) (hc : (c == 0) = false) (eq : min (max p 0) 1000 = q) (hpl : Hid (∀ w, Calls Tryd.prog 23 #[.int .i64 q, .int .i64 c] w fun e w' => e = .returned (.int .i64 at0) ∧ Drawn0 w w')) (R : Int) (hR : Aside0 (rankFrom v 64 0 at0 = R)) :
    Calls Tryd.prog 10 #[.pointer (some ⟨b, 0, none⟩), .int .i64 p] w fun e w' => e = .returned (.int .i64 R) ∧ Drawn0 w w' := by
  have c64 := H.out.cell 64 (by omega)
  rw [ec] at c64
  go_enter Tryd.func10, Tryd.ntmps10
  go_wp2_with fail
  refine (hpl.out _).mono ?_
  rintro e w2 ⟨rfl, hb2⟩
  have H2 := H.out.drawn hb2
  have hA : ∀ k : Nat, k < 64 → ((v.map (Value.int .i64)).take 64).toArray[k]? = some (.int .i64 (v.getD k 0)) := fun k hk => by
    rw [List.getElem?_toArray, List.getElem?_take_of_lt hk, List.getElem?_map, List.getD_eq_getElem?_getD, List.getElem?_eq_getElem (show k < v.length by rw [H.out.len]; omega)]; rfl
  go_wp2_with ((with_reducible refine gate_dst (N := 24) rfl ?_); refine wpList_load_part rfl (.tmp 23) rfl v b rfl H2 ?_)
  revert hA
  generalize (List.take 64 (v.map (Value.int .i64))).toArray = A
  intro hA
  clear c64 H2
  go_loopw [5, 25] (fun s i wr => ∃ (k : Nat) (a : Int), k ≤ 64 ∧ i = .int .i64 k ∧ s = .int .i64 a ∧ Aside0 (rankFrom v (64 - k) k a = R) ∧ Drawn0 w2 wr) (fun _ i _ => 64 - (intOf i).toNat)
  case atStart => exact ⟨0, at0, by omega, rfl, rfl, hR, Drawn0.refl _⟩
  case round =>
    obtain ⟨k, a, hk, rfl, rfl, ha, ⟨nd, rfl⟩⟩ := hrel
    by_cases hlt : k < 64
    · have yk : decide ((k : Int) < 64) = true := decide_eq_true (by omega)
      obtain ⟨x, hx⟩ : ∃ x, x = v.getD k 0 := ⟨_, rfl⟩
      have hIk := fun W => idx43 A k x W hlt (by rw [hx]; exact hA k hlt)
      obtain ⟨d, hd⟩ : ∃ d, 64 - k = d + 1 := ⟨63 - k, by omega⟩
      have ha' := ha.out
      rw [hd] at ha'
      obtain ⟨y, hy⟩ : ∃ y, y = wrap64 (a - x) := ⟨_, rfl⟩
      have hy' : IntKind.i64.wrap (a - x) = y := (i64_w _).trans hy.symm
      have hstep : (if y ≤ 0 then (2 : Int) ^ k - 1 else rankFrom v d (k + 1) y) = R := by
        rw [hy, hx]; exact ha'
      have htop := Lib.hid (top_nat k hlt)
      have hd' : 64 - (k + 1) = d := by omega
      clear ha ha' hx
      by_cases c : y ≤ 0
      · have yc : decide (y ≤ 0) = true := decide_eq_true c
        rw [if_pos c] at hstep
        have hs := Aside0.mk hstep
        clear hstep c hy hd hd'
        go_wp2_with (go_at_call 24; refine (PR.cost_top.calls _ _ _ htop.out).mono ?_; rintro e w4 ⟨rfl, ⟨m4, rfl⟩⟩)
        go_ret
        refine ⟨by rw [← hs.out]; rfl, ?_⟩
        exact drawn_trans hb2 ⟨⟨_, rfl⟩⟩
      · have yc : decide (y ≤ 0) = false := decide_eq_false c
        rw [if_neg c] at hstep
        have hs := Aside0.mk hstep
        clear hstep c hy hd htop
        go_wp2
        go_roundw
        case rel => exact ⟨k + 1, y, by omega, by go_num, rfl, by rw [hd']; exact hs, ⟨⟨_, rfl⟩⟩⟩
        case measure => simp [intOf]; omega
    · have yk : decide ((k : Int) < 64) = false := decide_eq_false (by omega)
      have hk0 : 64 - k = 0 := by omega
      have ha' := ha.out
      rw [hk0] at ha'
      have hs : Aside0 (9223372036854775807 = R) := ⟨ha'⟩
      have h63 := Lib.hid (top_nat 63 (by omega))
      clear ha ha' hk0
      go_wp2_with (go_at_call 24; refine (PR.cost_top.calls _ _ _ h63.out).mono ?_; rintro e w4 ⟨rfl, ⟨m4, rfl⟩⟩)
      go_ret
      refine ⟨by rw [← hs.out]; rfl, ?_⟩
      exact drawn_trans hb2 ⟨⟨_, rfl⟩⟩
/-- The place of so many thousandths. -/
def placeI (p c : Int) : Int := max ((p * c + 999) / 1000) 1
theorem place_calls (p c : Int) (hp : 0 ≤ p ∧ p ≤ 1000) (hc : 0 ≤ c ∧ c ≤ 1000000) (w : World) : Calls Tryd.prog 23 #[.int .i64 p, .int .i64 c] w fun e w' => e = .returned (.int .i64 (placeI p c)) ∧ Drawn0 w w' := by
  have u1 : IntKind.u64.wrap p = p := IntWalk.u64_in _ ⟨hp.1, by omega⟩
  have u2 : IntKind.u64.wrap c = c := IntWalk.u64_in _ ⟨hc.1, by omega⟩
  obtain ⟨x, rfl⟩ := Int.eq_ofNat_of_zero_le hp.1
  obtain ⟨y, rfl⟩ := Int.eq_ofNat_of_zero_le hc.1
  have hm : x * y ≤ 1000 * 1000000 := Nat.mul_le_mul (by omega) (by omega)
  have e : ((x : Int) * (y : Int)) = ((x * y : Nat) : Int) := by simp
  have m1 : bits_Mul64.f (x : Int) (y : Int) = some (0, ((x * y : Nat) : Int)) := by
    unfold bits_Mul64.f
    rw [if_pos (by omega), Int.toNat_natCast, Int.toNat_natCast, Nat.div_eq_of_lt (by omega), Nat.mod_eq_of_lt (by omega)]
    rfl
  unfold placeI
  rw [e]
  generalize x * y = z at *
  have d1 : bits_Div64.f 0 ((z : Nat) : Int) 1000 = some ((z : Int) / 1000, (z : Int) % 1000) := by
    unfold bits_Div64.f
    rw [if_pos (by omega)]
  have w1 : wrap64 ((z : Int) / 1000) = (z : Int) / 1000 := by unfold wrap64; omega
  have w2 : IntKind.u64.wrap ((z : Int) / 1000 + 1) = (z : Int) / 1000 + 1 := IntWalk.u64_in _ ⟨by omega, by omega⟩
  have w3 : wrap64 ((z : Int) / 1000 + 1) = (z : Int) / 1000 + 1 := by unfold wrap64; omega
  refine place_core _ _ z ((z : Int) / 1000) ((z : Int) % 1000) _ _ _ _ w u1 u2 (Lib.hid fun w => bits_Mul64.calls _ _ _ _ w m1) (Lib.hid fun w => bits_Div64.calls _ _ _ _ _ w d1) w2 ((i64_w _).trans w3) ((i64_w _).trans w1) ⟨?_⟩
  split <;> omega
/-- What Rank answers. -/
def rankI (v : List Int) (p : Int) : Int := if v.getD 64 0 = 0 then 0 else rankFrom v 64 0 (placeI (min (max p 0) 1000) (v.getD 64 0))
set_option maxHeartbeats 1000000 in
set_option maxRecDepth 100000 in
theorem rank_none (b : Nat) (v : List Int) (p : Int) (w : World) (H : HistAt v b w) (h0 : v.getD 64 0 = 0) :
    Calls Tryd.prog 10 #[.pointer (some ⟨b, 0, none⟩), .int .i64 p] w fun e w' => e = .returned (.int .i64 0) ∧ w' = w := by
  have c := H.cell 64 (by omega)
  rw [h0] at c
  clear h0
  go_enter Tryd.func10, Tryd.ntmps10
  go_wp2
  go_ret
  exact ⟨rfl, rfl⟩
theorem hist_rank (b : Nat) (v : List Int) (p : Int) (w : World) (H : HistAt v b w) (hc : 0 ≤ v.getD 64 0 ∧ v.getD 64 0 ≤ 1000000) :
    Calls Tryd.prog 10 #[.pointer (some ⟨b, 0, none⟩), .int .i64 p] w fun e w' => e = .returned (.int .i64 (rankI v p)) ∧ Drawn0 w w' := by
  unfold rankI
  by_cases h0 : v.getD 64 0 = 0
  · rw [if_pos h0]
    exact (rank_none b v p w H h0).mono fun e w' ⟨h1, h2⟩ => by subst h2; exact ⟨h1, Drawn0.refl _⟩
  · rw [if_neg h0]
    exact rank_core b v p _ w ⟨H⟩ _ _ rfl (by rw [beq_eq_false_iff_ne]; exact h0) rfl (Lib.hid (place_calls _ _ (by omega) hc)) _ ⟨rfl⟩
end Go.Proofs.YtnamndioodnelaaDoor.PQ
