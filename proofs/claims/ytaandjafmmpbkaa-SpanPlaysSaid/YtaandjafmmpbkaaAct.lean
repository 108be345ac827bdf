/- The calls of a list, as the machine holds them. -/
import Derived.Test.YtaandjafmmpbkaaWorks
namespace Go.Proofs.Ytaandjafmmpbkaa.PQ
open Go.RowKit Go.Proofs.YtaandjafmmpbkaaW.PrintWords Go.Proofs.YtaandjafmmpbkaaW.PrintLast Go.Proofs.YtaandjafmmpbkaaW.PrintMore
set_option linter.unusedVariables false
set_option linter.unusedSimpArgs false
/-- A call of the law's list: kind, number, span. -/
structure S29 where
  f0 : Int
  f1 : Int
  f2 : S27
def z29 : S29 := ⟨0, 0, z27⟩
def k29 : Kd S29 := Kd.iso (Kd.pair (Kd.int .i64) (Kd.pair (Kd.int .i64) k27)) (fun x : S29 => (x.f0, x.f1, x.f2))
theorem k29_open {w : World} {x : S29} {cs : List Value} (h : k29.K w x cs) : cs = [.int .i64 x.f0, .int .i64 x.f1, .int .i64 x.f2.f0, .int .i64 x.f2.f1] := by
  obtain ⟨_, _, rfl, rfl, ⟨_, _, rfl, rfl, h⟩⟩ := h
  have := k27_open h
  subst this
  rfl
theorem K_S29 {w : World} {a0 a1 : Int} {a2 : S27} {c2 c3 : Value} (h : k27.K w a2 [c2, c3]) : k29.K w ⟨a0, a1, a2⟩ [.int .i64 a0, .int .i64 a1, c2, c3] :=
  ⟨[.int .i64 a0], [.int .i64 a1, c2, c3], rfl, rfl, ⟨[.int .i64 a1], [c2, c3], rfl, rfl, h⟩⟩
def rd_T29 (xs : List S29) (i : Int) : S29 := xs.getD i.toNat z29
theorem at_T29 {w : World} {A : Option Addr} {n : Nat} {xs : List S29} (h : Kd.C k29 w A n xs) (i : Int) (h0 : 0 ≤ i) (h1 : i < n) : ∃ ad, A = some ad ∧ w.cell? (ad.add (i.toNat * 4)) = some (.int .i64 (rd_T29 xs i).f0) ∧ w.cell? ⟨(ad.add (i.toNat * 4)).block, (ad.add (i.toNat * 4)).off + 1, none⟩ = some (.int .i64 (rd_T29 xs i).f1) ∧ w.cell? ⟨(ad.add (i.toNat * 4)).block, (ad.add (i.toNat * 4)).off + 2, none⟩ = some (.int .i64 (rd_T29 xs i).f2.f0) ∧ w.cell? ⟨(ad.add (i.toNat * 4)).block, (ad.add (i.toNat * 4)).off + 3, none⟩ = some (.int .i64 (rd_T29 xs i).f2.f1) := by
  obtain ⟨ad, c, e, _, hK, hc0⟩ := Kd.C_get h z29 i h0 h1
  have hc : ∀ j u, c[j]? = some u → w.cell? (ad.add (i.toNat * 4 + j)) = some u := hc0
  obtain rfl := k29_open hK
  exact ⟨ad, e, hc 0 _ rfl, by rw [← add_field _ _ 1 (by omega)]; exact hc 1 _ rfl, by rw [← add_field _ _ 2 (by omega)]; exact hc 2 _ rfl, by rw [← add_field _ _ 3 (by omega)]; exact hc 3 _ rfl⟩
theorem of_val (a b : Int) : ∃ x y, decklelaw34_of.f a b = some (x, y) ∧ 0 ≤ x ∧ x ≤ y ∧ y < 60 := by
  have hb : ∀ a, ∃ x, decklebook_Below.f a 60 = some x ∧ 0 ≤ x ∧ x < 60 := by
    intro a
    unfold decklebook_Below.f
    rw [if_neg (by decide)]
    have h1 := Int.tmod_lt_of_pos a (show (0 : Int) < 60 by decide)
    have h2 : -60 < Int.tmod a 60 := by have := Int.lt_tmod_of_pos a (show (0 : Int) < 60 by decide); omega
    by_cases h : Int.tmod a 60 < 0
    · rw [if_pos h]
      exact ⟨_, rfl, by rw [Go.IntWalk.wrap64_in _ ⟨by omega, by omega⟩]; omega, by rw [Go.IntWalk.wrap64_in _ ⟨by omega, by omega⟩]; omega⟩
    · rw [if_neg h]
      exact ⟨_, rfl, by omega, by omega⟩
  obtain ⟨x, hx, x0, x1⟩ := hb a
  obtain ⟨y, hy, y0, y1⟩ := hb b
  unfold decklelaw34_of.f
  rw [hx, hy]
  refine ⟨mn x y, mx x y, rfl, ?_, ?_, ?_⟩ <;> (simp only [mn, mx]; repeat' split) <;> omega
theorem of_calls (a b : Int) (w : World) : Calls Try.prog 9 #[.agg #[.int .i64 a, .int .i64 b]] w fun e w' => Aside0 (∃ x y, e = .returned (.agg #[.int .i64 x, .int .i64 y]) ∧ 0 ≤ x ∧ x ≤ y ∧ y < 60 ∧ Below w.heap.size w w') := by
  obtain ⟨x, y, h, h0, h1, h2⟩ := of_val a b
  exact (decklelaw34_of.calls a b x y w h).mono fun e w' hh => ⟨⟨x, y, hh.1, h0, h1, h2, hh.2⟩⟩
theorem may60 {x y : Int} (h0 : 0 ≤ x) (h1 : x ≤ y) (h2 : y < 60) : mayB x y = true := decide_eq_true ⟨h0, h1, by omega⟩
end Go.Proofs.Ytaandjafmmpbkaa.PQ
