/- The document's Put, walked; told and the others over the state. -/
import Derived.Test.YtilephiplfigpaaTold
namespace Go.Proofs.Ytilephiplfigpaa.PQ
open Go.RowKit Go.Proofs.YtilephiplfigpaaW.PrintWords Go.Proofs.YtilephiplfigpaaW.PrintLast Go.Proofs.YtilephiplfigpaaW.PrintMore Go.Shelf
set_option linter.unusedVariables false
set_option linter.unusedSimpArgs false
theorem R_form61 {base : Nat} {ok : Nat → Prop} {w : World} {v : Value} {xs : List S61} (h : k61.R 61 w base ok v xs) (hx : 0 < xs.length) : ∃ g c, v = .slice (some ⟨g, 0, none⟩) xs.length c := by
  obtain ⟨_, inner, ho, _⟩ := h
  rcases ho.2 with ⟨h1, h2⟩ | ⟨g', cap, cur, h1, _⟩
  · omega
  · exact ⟨g', cap, h1⟩
section
variable {room hits misses : Int} {L : List EL} {d : List S61} {P M : Nat} {v : Value} {bx : List (Nat × Obj)} {w0 w w' : World}
theorem JL.told (h : Aside0 (JL room hits misses L (absL L) P M v bx w0 w)) (hl : L.length ≤ 100000) (most : Int) : Calls Try.prog 26 #[.pointer (some ⟨P, 0, none⟩), v, .int .i64 most] w fun e w' => e = .returned (.bool true) ∧ Aside0 (JL room hits misses L (absL L) P M v bx w0 w') := by
  obtain ⟨D, hD⟩ := h.out.lat
  obtain ⟨A, c, rfl⟩ := Kd.R_slice h.out.row
  have hr := Kd.R_reads' h.out.row
  exact (told_calls w0.heap.size room hits misses L (absL L) P M D A c most w ⟨rfl⟩ (absL_len L).symm (by rw [absL_len]; exact hl) ⟨hD⟩ ⟨hr.2.2⟩ hr.2.1).mono fun e w' hh => ⟨hh.1, ⟨h.out.below hh.2⟩⟩
theorem JL.first (h : Aside0 (JL room hits misses L d P M v bx w0 w)) (x : S61) (hl : d.length ≤ 100000) : Calls Try.prog 24 #[v, .agg #[.int .i64 x.f0, .string x.f1]] w fun e w' => Aside0 (∃ v', e = .returned v' ∧ JL room hits misses L (firstO d x) P M v' bx w0 w') := by
  obtain ⟨A, c, rfl⟩ := Kd.R_slice h.out.row
  have hr := Kd.R_reads' h.out.row
  refine (deckleref36_First.calls _ A c d x.f0 x.f1 _ w hr.2.2 hr.2.1 (first_pure d x hl)).mono ?_
  rintro e w' ⟨v', rfl, hR, hb⟩
  exact ⟨v', rfl, h.out.renew hb hR⟩
theorem JL.without (h : Aside0 (JL room hits misses L d P M v bx w0 w)) (a : Int) (hl : d.length ≤ 100000) : Calls Try.prog 25 #[v, .int .i64 a] w fun e w' => Aside0 (∃ v', e = .returned v' ∧ JL room hits misses L (outO d a) P M v' bx w0 w') := by
  obtain ⟨A, c, rfl⟩ := Kd.R_slice h.out.row
  have hr := Kd.R_reads' h.out.row
  refine (deckleref36_Without.calls _ A c d a _ w hr.2.2 hr.2.1 (without_pure d a hl)).mono ?_
  rintro e w' ⟨v', rfl, hR, hb⟩
  exact ⟨v', rfl, h.out.renew hb hR⟩
theorem JL.find (h : Aside0 (JL room hits misses L d P M v bx w0 w)) (a r : Int) (hf : deckleref36_Find.f (d.length + 1) d a = some r) : Calls Try.prog 22 #[v, .int .i64 a] w fun e w' => e = .returned (.int .i64 r) ∧ Aside0 (JL room hits misses L d P M v bx w0 w') := by
  obtain ⟨A, c, rfl⟩ := Kd.R_slice h.out.row
  have hr := Kd.R_reads' h.out.row
  exact (deckleref36_Find.calls _ A c d a r w hr.2.2 hr.2.1 hf).mono fun e w' hh => ⟨hh.1, ⟨h.out.below hh.2.below⟩⟩
set_option maxHeartbeats 8000000 in
theorem JL.refPut (h : Aside0 (JL room hits misses L d P M v bx w0 w)) (x : S61) (hl : d.length ≤ 100000) (rm : Int) (d' : List S61) (n : Int) (had : Bool) (hp : Aside0 (putO d rm x = (d', n, had))) :
    Calls Try.prog 23 #[v, .int .i64 rm, .agg #[.int .i64 x.f0, .string x.f1]] w fun e w' => Aside0 (∃ v', e = .returned (.tuple #[v', .int .i64 n, .bool had]) ∧ JL room hits misses L d' P M v' bx w0 w') := by
  obtain ⟨x0, x1⟩ := x
  have h1 := Aside0.mk (h.out.push (.cells #[.int .i64 x0, .string x1] 61))
  have q := Lib.hid (JL.first h1 ⟨x0, x1⟩ hl)
  have c0 : (w.alloc (.cells #[.int .i64 x0, .string x1] 61)).cell? ⟨w.heap.size, 0, none⟩ = some (.int .i64 x0) := blk_cell h1.out.head 0
  have c1 : (w.alloc (.cells #[.int .i64 x0, .string x1] 61)).cell? ⟨w.heap.size, 1, none⟩ = some (.string x1) := blk_cell h1.out.head 1
  have hout := Lib.hid (outO_len d x0)
  dsimp only at *
  go_enter Try.func23, Try.ntmps23
  go_wp2_with fail
  refine q.out.mono ?_
  rintro e w2 ⟨u, rfl, J2⟩
  clear q c0 c1 h1
  obtain ⟨A, c, rfl⟩ := Kd.R_slice J2.row
  have hcap := (Kd.R_reads' J2.row).2.1
  have hll : (firstO d ⟨x0, x1⟩).length = (outO d x0).length + 1 := rfl
  generalize hm : (outO d x0).length = m at *
  have hlm : m ≤ 100000 := by have := hout.out; omega
  obtain ⟨ln, hln⟩ : ∃ ln, Aside0 ((firstO d ⟨x0, x1⟩).length = ln) := ⟨_, ⟨rfl⟩⟩
  have hlnm : ln = m + 1 := by rw [← hln.out]; exact hll
  by_cases hr : ((m + 1 : Nat) : Int) ≤ rm
  · have hpp : putO d rm ⟨x0, x1⟩ = (firstO d ⟨x0, x1⟩, 0, false) := by unfold putO; rw [if_pos (by rw [hll]; exact hr)]
    rw [hp.out] at hpp
    obtain ⟨rfl, rfl, rfl⟩ : d' = firstO d ⟨x0, x1⟩ ∧ n = 0 ∧ had = false := by injection hpp with h1 h2; injection h2 with h2 h3; exact ⟨h1, h2, h3⟩
    rw [hln.out] at J2 hcap ⊢
    have z1 : decide ((ln : Int) ≤ rm) = true := decide_eq_true (by omega)
    replace hlnm := Lib.hid hlnm
    clear hll
    replace J2 := Aside0.mk J2
    clear hpp hp hr
    go_wp2
    refine bodyPost_ret (results_tmp3 rfl _ _ _) rfl ?_
    exact ⟨_, rfl, J2.out.pop⟩
  · have hpp : putO d rm ⟨x0, x1⟩ = ((firstO d ⟨x0, x1⟩).dropLast, ((firstO d ⟨x0, x1⟩).getLastD z61).f0, true) := by unfold putO; rw [if_neg (by rw [hll]; exact hr)]
    rw [hp.out] at hpp
    obtain ⟨rfl, hnn, rfl⟩ : d' = (firstO d ⟨x0, x1⟩).dropLast ∧ n = ((firstO d ⟨x0, x1⟩).getLastD z61).f0 ∧ had = true := by injection hpp with h1 h2; injection h2 with h2 h3; exact ⟨h1, h2, h3⟩
    have hdl : (firstO d ⟨x0, x1⟩).dropLast = (firstO d ⟨x0, x1⟩).take m := by rw [List.dropLast_eq_take, hll, Nat.add_sub_cancel]
    obtain ⟨g, c'', hg⟩ := R_form61 J2.row (by rw [hll]; omega)
    cases hg
    obtain ⟨ad, e1, l0, _⟩ := at_T61 (Kd.R_reads' J2.row).2.2 (m : Int) (by omega) (by omega)
    cases e1
    have hrd : rd_T61 (firstO d ⟨x0, x1⟩) (m : Int) = (firstO d ⟨x0, x1⟩).getLastD z61 := by
      unfold rd_T61
      rw [Int.toNat_natCast, List.getLastD_eq_getLast?, List.getLast?_eq_getElem?, hll, Nat.add_sub_cancel, List.getD_eq_getElem?_getD]
    rw [hrd, Int.toNat_natCast] at l0
    have hR3 := Kd.R_take J2.row (m := m) (by rw [hll]; omega)
    rw [← hdl] at hR3
    have z1 : decide ((ln : Int) ≤ rm) = false := decide_eq_false (by omega)
    have z3 : ((ln : Int) == 0) = false := beq_eq_false_iff_ne.2 (by omega)
    have hm1 : IntKind.i64.wrap ((m : Int)) = (m : Int) := Go.IntWalk.i64_in _ (by omega)
    have hm2 : IntKind.i64.wrap ((ln : Int) - 1) = (m : Int) := by rw [show (ln : Int) - 1 = m by omega]; exact hm1
    have l0' : w2.cell? ⟨g, m * 2, none⟩ = some (.int .i64 ((firstO d ⟨x0, x1⟩).getLastD z61).f0) := by rw [← add_plain]; exact l0
    rw [← hnn] at l0'
    replace hnn := Lib.hid hnn
    have J3 : Aside0 (JL room hits misses L (firstO d ⟨x0, x1⟩).dropLast P M (.slice (some ⟨g, 0, none⟩) m c) bx w0 w2) := ⟨⟨J2.lat, hR3, J2.pop.box, J2.pop.xb, J2.pop.xv, J2.bel⟩⟩
    rw [hln.out] at hcap ⊢
    have hmc : m ≤ c := by omega
    have hmc2 : ((m : Int) ≤ (c : Int)) := by omega
    have z7 : decide ((m : Int) ≤ (c : Int)) = true := decide_eq_true (by omega)
    have z8 : decide ((0 : Int) ≤ (m : Int)) = true := decide_eq_true (by omega)
    have z9 : decide ((m : Int) < (ln : Int)) = true := decide_eq_true (by omega)
    have z10 : m < ln := by omega
    replace hlnm := Lib.hid hlnm
    clear hll l0
    clear hpp hp hr J2 hR3 hrd hdl
    go_wp2
    go_quiet (fail)
    go_wp2
    refine bodyPost_ret (results_tmp3 rfl _ _ _) rfl ?_
    exact ⟨.slice (some ⟨g, 0, none⟩) m c, rfl, J3.out.drewN _⟩
end
end Go.Proofs.Ytilephiplfigpaa.PQ
