/- slices.DeleteFunc, walked. -/
import Derived.Test.YtkamgpjpnjikgaaDel
import Derived.Lib.SliceRun
namespace Go.Proofs.Ytkamgpjpnjikgaa.PQ
open Go.RowKit Go.Proofs.YtkamgpjpnjikgaaW.PrintWords Go.Proofs.YtkamgpjpnjikgaaW.PrintLast Go.Proofs.YtkamgpjpnjikgaaW.PrintMore
set_option linter.unusedVariables false
set_option linter.unusedSimpArgs false
theorem cut_set {l ys : List Int} {p q : Nat} {x a : Int} (hpq : p < q) (hq : q < l.length) (hl : ys.length = l.length) (ht : ys.take p = (l.take q).filter (· ≠ a)) (hd : ys.drop q = l.drop q) (hx : x = rdOf (0 : Int) ys (q : Int)) (hb : (x == a) = false) :
    (ys.set p x).length = l.length ∧ (ys.set p x).take (p + 1) = (l.take (q + 1)).filter (· ≠ a) ∧ (ys.set p x).drop (q + 1) = l.drop (q + 1) := by
  have e1 : l[q]? = some x := by
    have h1 : (ys.drop q)[0]? = (l.drop q)[0]? := by rw [hd]
    rw [List.getElem?_drop, List.getElem?_drop, Nat.add_zero] at h1
    rw [← h1, hx]
    unfold rdOf
    rw [Int.toNat_natCast, List.getD_eq_getElem?_getD, List.getElem?_eq_getElem (by omega)]
    rfl
  have e2 := (List.getElem?_eq_some_iff.1 e1)
  obtain ⟨h2, e3⟩ := e2
  refine ⟨by rw [List.length_set, hl], ?_, ?_⟩
  · rw [List.take_succ_eq_append_getElem (by rw [List.length_set]; omega), List.getElem_set_self, List.take_set_of_le (Nat.le_refl p), ht, List.take_succ_eq_append_getElem hq, List.filter_append, e3]
    have : x ≠ a := by simpa using hb
    simp [this]
  · rw [List.drop_set_of_lt (by omega), ← Nat.add_comm 1 q, Nat.add_comm 1 q, ← List.drop_drop, ← List.drop_drop, hd]
theorem cut_keep {l ys : List Int} {q : Nat} {x a : Int} (hq : q < l.length) (hl : ys.length = l.length) (hd : ys.drop q = l.drop q) (hx : x = rdOf (0 : Int) ys (q : Int)) (hb : (x == a) = true) :
    (l.take q).filter (· ≠ a) = (l.take (q + 1)).filter (· ≠ a) ∧ ys.drop (q + 1) = l.drop (q + 1) := by
  have e1 : l[q]? = some x := by
    have h1 : (ys.drop q)[0]? = (l.drop q)[0]? := by rw [hd]
    rw [List.getElem?_drop, List.getElem?_drop, Nat.add_zero] at h1
    rw [← h1, hx]
    unfold rdOf
    rw [Int.toNat_natCast, List.getD_eq_getElem?_getD, List.getElem?_eq_getElem (by omega)]
    rfl
  obtain ⟨h2, e3⟩ := List.getElem?_eq_some_iff.1 e1
  refine ⟨?_, by rw [← List.drop_drop, ← List.drop_drop, hd]⟩
  rw [List.take_succ_eq_append_getElem hq, List.filter_append, e3]
  have : x = a := by simpa using hb
  simp [this]
theorem R_cap {α : Type} {d : Kd α} {e base g n c : Nat} {ok : Nat → Prop} {w : World} {xs : List α} (h : d.R e w base ok (.slice (some ⟨g, 0, none⟩) n c) xs) : xs.length ≤ c := by
  obtain ⟨_, inner, ho, _⟩ := h
  rcases ho.2 with ⟨h1, _⟩ | ⟨g', cap, cur, h1, _, _, _, _, h2, _⟩
  · cases h1
  · injection h1 with _ _ h3
    omega
theorem R_cells {g c base n : Nat} {ok : Nat → Prop} : ∀ (vs xs : List Int) (o : Nat) (W : World), Kd.R (Kd.int .i64) 3 W base ok (.slice (some ⟨g, 0, none⟩) n c) xs →
    ∃ ys : List Int, ys.length = xs.length ∧ ys.take o = xs.take o ∧ Kd.R (Kd.int .i64) 3 (W.setCells g o (vs.map (Value.int .i64))) base ok (.slice (some ⟨g, 0, none⟩) n c) ys ∧ W.grownBy (W.setCells g o (vs.map (Value.int .i64))) (some g)
  | [], xs, o, W, h => ⟨xs, rfl, rfl, h, World.grownBy.refl _ _⟩
  | v :: r, xs, o, W, h => by
    obtain ⟨h1, h2⟩ := Kd.R_putg h (o : Int) v
    rw [Int.toNat_natCast] at h1 h2
    obtain ⟨ys, e1, e2, h3, h4⟩ := R_cells r (xs.set o v) (o + 1) _ h1
    refine ⟨ys, by rw [e1, List.length_set], ?_, h3, h2.trans h4⟩
    have := congrArg (List.take o) e2
    rw [List.take_take, List.take_take, Nat.min_eq_left (Nat.le_succ o), List.take_set_of_le (Nat.le_refl o)] at this
    exact this
set_option maxHeartbeats 4000000 in
/-- A number is taken out of a row. -/
theorem delete_calls (l : List Int) (g c X : Nat) (a : Int) (base : Nat) (ok : Nat → Prop) (w : World) (hl : l.length ≤ 100000) (hgX : g ≠ X) (hXb : Aside0 (∃ o cs, w.heap[X]? = some (.cells cs o (0, 0)) ∧ cs[1]? = some (.int .i64 a))) (hR : Aside0 (Kd.R (Kd.int .i64) 3 w base ok (.slice (some ⟨g, 0, none⟩) l.length c) l)) :
    Calls Try.prog 18 #[.slice (some ⟨g, 0, none⟩) l.length c, .func (.func 19) #[] #[.pointer (some ⟨X, 0, none⟩)]] w fun e w' => Aside0 (∃ c', e = .returned (.slice (some ⟨g, 0, none⟩) (l.filter (· ≠ a)).length c') ∧ Kd.R (Kd.int .i64) 3 w' base ok (.slice (some ⟨g, 0, none⟩) (l.filter (· ≠ a)).length c') (l.filter (· ≠ a)) ∧ w.grownBy w' (some g)) := by
  have hX : Aside0 (w.cell? ⟨X, 1, none⟩ = some (.int .i64 a)) := ⟨by obtain ⟨o, cs, h1, h2⟩ := hXb.out; rw [blk_cell h1]; exact h2⟩
  have hI := Lib.hid (index_calls l g c X a base ok w hl hX hR)
  have hix := idxL_cases l a
  generalize idxL l a = i0 at *
  go_enter Try.func18, Try.ntmps18
  go_wp2_with fail
  refine hI.out.mono ?_
  rintro e w2 ⟨rfl, rfl⟩
  clear hI
  rcases hix with ⟨rfl, hno⟩ | ⟨k, hk, rfl, hfil⟩
  · have hf : l.filter (· ≠ a) = l := List.filter_eq_self.2 (fun x hx => by simpa using hno x hx)
    replace hf := Lib.hid hf
    go_wp2
    go_ret
    exact ⟨⟨c, by rw [hf.out]; rfl, by rw [hf.out]; exact hR.out, World.grownBy.refl _ _⟩⟩
  · have zk : ((k : Int) == -1) = false := beq_eq_false_iff_ne.2 (by omega)
    have wk : wrap64 ((k : Int) + 1) = ((k + 1 : Nat) : Int) := by rw [Go.IntWalk.wrap64_in _ ⟨by omega, by omega⟩]; omega
    replace hfil := Lib.hid hfil
    go_wp2
    go_loopw [5, 6, 7] (fun i j d wr => ∃ (p q : Nat) (ys : List Int), p < q ∧ q ≤ l.length ∧ i = .int .i64 p ∧ j = .int .i64 q ∧ Aside0 (ys.length = l.length ∧ ys.take p = (l.take q).filter (· ≠ a) ∧ ys.drop q = l.drop q ∧ Kd.R (Kd.int .i64) 3 wr base ok (.slice (some ⟨g, 0, none⟩) l.length c) ys ∧ w2.grownBy wr (some g))) (fun _ j _ _ => l.length - (intOf j).toNat)
    case atStart => exact ⟨k, k + 1, l, by omega, by omega, rfl, by go_num, ⟨rfl, hfil.out, rfl, hR.out, World.grownBy.refl _ _⟩⟩
    case round =>
      obtain ⟨p, q, ys, hpq, hq, rfl, rfl, H⟩ := hrel
      by_cases hlt : q < l.length
      · have hrow := H.out.2.2.2.1
        have hxw : Aside0 (wr.cell? ⟨X, 1, none⟩ = some (.int .i64 a)) := ⟨by
          obtain ⟨o, cs, h1, h2⟩ := hXb.out
          rw [blk_cell (blk_grown h1 H.out.2.2.2.2 (fun e => hgX (Option.some.inj e).symm))]
          exact h2⟩
        obtain ⟨hx, hf⟩ := Kd.R_celln 0 hrow (q : Int) (by omega) (by omega)
        obtain ⟨hx2, hf2⟩ := Kd.R_celln 0 hrow (p : Int) (by omega) (by omega)
        rw [Int.toNat_natCast] at hx hf hx2 hf2
        have hcl := Lib.hid (clo_calls (rdOf (0 : Int) ys (q : Int)) a X wr hxw)
        have zq : decide ((q : Int) < (l.length : Int)) = true := decide_eq_true (by omega)
        have zq0 : decide ((0 : Int) ≤ (q : Int)) = true := decide_eq_true (by omega)
        have zp : decide ((p : Int) < (l.length : Int)) = true := decide_eq_true (by omega)
        have zp0 : decide ((0 : Int) ≤ (p : Int)) = true := decide_eq_true (by omega)
        obtain ⟨x, hxe⟩ : ∃ x, Aside0 (rdOf (0 : Int) ys (q : Int) = x) := ⟨_, ⟨rfl⟩⟩
        rw [hxe.out] at hx hcl
        clear hrow
        go_wp2_with fail
        refine hcl.out.mono ?_
        rintro e w3 ⟨rfl, rfl⟩
        clear hcl
        have hW := (Kd.R_putg H.out.2.2.2.1 (p : Int) x)
        rw [Int.toNat_natCast] at hW
        replace hW := Lib.hid hW
        cases hb : (x == a)
        · go_wp2
          go_roundw
          case rel => exact ⟨p + 1, q + 1, ys.set p x, by omega, by omega, by go_num, by go_num, ⟨by
            obtain ⟨e1, e2, e3⟩ := cut_set hpq hlt H.out.1 H.out.2.1 H.out.2.2.1 hxe.out.symm hb
            exact ⟨e1, e2, e3, hW.out.1, H.out.2.2.2.2.trans hW.out.2⟩⟩⟩
          case measure => simp [intOf]; omega
        · go_wp2
          go_roundw
          case rel => exact ⟨p, q + 1, ys, by omega, by omega, rfl, by go_num, ⟨by
            obtain ⟨e2, e3⟩ := cut_keep hlt H.out.1 H.out.2.2.1 hxe.out.symm hb
            exact ⟨H.out.1, H.out.2.1.trans e2, e3, H.out.2.2.2.1, H.out.2.2.2.2⟩⟩⟩
          case measure => simp [intOf]; omega
      · obtain rfl : q = l.length := by omega
        have zp : decide ((p : Int) ≤ (l.length : Int)) = true := decide_eq_true (by omega)
        have zp0 : decide ((0 : Int) ≤ (p : Int)) = true := decide_eq_true (by omega)
        have hcap := R_cap H.out.2.2.2.1
        rw [H.out.1] at hcap
        have hcp : ¬ c = p := by omega
        have hpc : p ≤ c := by omega
        have hcl : ∀ ty, (Builtin.clear_ #[46] ty #[.slice (some ⟨g, p, none⟩) (l.length - p) (c - p)]).run Try.prog wr = .ok (.tuple #[]) (wr.setCells g p (List.replicate (l.length - p) (.int .i64 0))) :=
          fun ty => Lib.run_clear_slice wr 46 3 ty (.int .i64 0) rfl (fun w => by rfl) rfl rfl g p _ _ (by omega) (fun j hj => by
            have := (Kd.R_celln 0 H.out.2.2.2.1 ((p + j : Nat) : Int) (by omega) (by omega)).1
            rw [Int.toNat_natCast] at this
            rw [this]; rfl) (fun j hj => by
            have := (Kd.R_celln 0 H.out.2.2.2.1 ((p + j : Nat) : Int) (by omega) (by omega)).2
            rw [Int.toNat_natCast] at this
            exact this)
        obtain ⟨ys', e1, e2, h3, h4⟩ := R_cells (List.replicate (l.length - p) 0) ys p wr H.out.2.2.2.1
        rw [List.map_replicate] at h3 h4
        have HH : Aside0 (ys'.take p = l.filter (· ≠ a) ∧ Kd.R (Kd.int .i64) 3 (wr.setCells g p (List.replicate (l.length - p) (.int .i64 0))) base ok (.slice (some ⟨g, 0, none⟩) l.length c) ys' ∧ w2.grownBy (wr.setCells g p (List.replicate (l.length - p) (.int .i64 0))) (some g) ∧ p ≤ ys'.length) := ⟨by
          have := H.out.2.1
          rw [List.take_length] at this
          rw [e2, this], h3, H.out.2.2.2.2.trans h4, by rw [e1, H.out.1]; omega⟩
        clear e1 e2 h3 h4
        generalize wr.setCells g p (List.replicate (l.length - p) (.int .i64 0)) = w3 at *
        clear hcap
        go_wp2
        go_ret
        have hlen : p = (l.filter (· ≠ a)).length := by rw [← HH.out.1, List.length_take, Nat.min_eq_left HH.out.2.2.2]
        have h5 := Kd.R_take HH.out.2.1 (m := p) HH.out.2.2.2
        rw [HH.out.1] at h5
        rw [hlen] at h5
        exact ⟨⟨c, by rw [← hlen]; rfl, h5, HH.out.2.2.1⟩⟩
end Go.Proofs.Ytkamgpjpnjikgaa.PQ
