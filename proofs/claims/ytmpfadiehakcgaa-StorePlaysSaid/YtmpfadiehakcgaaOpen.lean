/- What a slice of the law's calls that comes in holds, read off its datum; no condition. -/
import Derived.Test.YtmpfadiehakcgaaAct
import Derived.Deep.Slices
import Derived.ChangeArms
import Derived.KernelRfl
namespace Go.Proofs.Ytmpfadiehakcgaa.PQ
open Go Go.RowKit Go.Proofs.YtmpfadiehakcgaaW.PrintWords Go.Proofs.YtmpfadiehakcgaaW.PrintLast Go.Proofs.YtmpfadiehakcgaaW.PrintMore
theorem exists_list {α : Type} {R : Nat → α → Prop} : ∀ (n : Nat), (∀ i, i < n → ∃ x, R i x) → ∃ l : List α, l.length = n ∧ ∀ i x, l[i]? = some x → R i x
  | 0, _ => ⟨[], rfl, fun i x h => by simp at h⟩
  | n + 1, h => by
    obtain ⟨l, hl, hr⟩ := exists_list n fun i hi => h i (by omega)
    obtain ⟨x, hx⟩ := h n (by omega)
    refine ⟨l ++ [x], by rw [List.length_append, hl]; rfl, fun i y hy => ?_⟩
    rcases Nat.lt_or_ge i n with hi | hi
    · rw [List.getElem?_append_left (by omega)] at hy
      exact hr i y hy
    · have : i < (l ++ [x]).length := (List.getElem?_eq_some_iff.1 hy).1
      rw [List.length_append, List.length_singleton, hl] at this
      obtain rfl : i = n := by omega
      rw [List.getElem?_append_right (by omega), hl, Nat.sub_self] at hy
      obtain rfl : x = y := by simpa using hy
      exact hx
section
variable {H : Type} {enc : TypeId × Value → H} {P : Program} {w : World} {base : Nat} {sp : Nat → Bool} {held : Bool}
/-- A slice argument, opened: its elements read as a list. -/
theorem open_structs {α : Type} (d : Kd α) (Q : α → Prop) {t e : TypeId} {a : Option Addr} {len cap : Nat} {x : DataW H × List MemPlace} {fuel : Nat} (ht : P.underlying t = some (.slice e)) (hC : P.cellsOf e = d.sz)
    (hopen : ∀ (n : Nat) (cs : List Value) (y : DataW H × List MemPlace), cs.length = d.sz → DataW.trod enc P w base sp held n e cs = some y → ∃ z : α, d.K w z cs ∧ Q z)
    (h : DataW.trod enc P w base sp held fuel t [.slice a len cap] = some x) :
    ∃ zs : List α, Kd.C d w a zs.length zs ∧ zs.length = len ∧ len ≤ cap ∧ ∀ z ∈ zs, Q z := by
  rcases Go.Deep.open_slice ht h with ⟨hcs, _⟩ | ⟨ad, l, c, m, n, D, Pl, hcs, hb, hl, hm, hmm, hx, hi⟩
  · simp only [List.cons.injEq, Value.slice.injEq, and_true] at hcs
    obtain ⟨rfl, rfl, rfl⟩ := hcs
    exact ⟨[], Kd.C_nil d w, rfl, Nat.le_refl _, fun z hz => by simp at hz⟩
  · simp only [List.cons.injEq, Value.slice.injEq, and_true] at hcs
    obtain ⟨rfl, rfl, rfl⟩ := hcs
    have hlm : len ≤ m := by rw [hmm]; split <;> omega
    obtain ⟨zs, hz, hzr⟩ := exists_list (R := fun i z => ∃ cs', w.cells? base (ad.add (i * d.sz)) d.sz = some cs' ∧ d.K w z cs' ∧ Q z) len fun i hil => by
      obtain ⟨cs', h1, h2⟩ := hi i (by omega)
      rw [hC] at h1
      obtain ⟨z, h3, h4⟩ := hopen n cs' _ (World.cells?_some h1).2.1 h2
      exact ⟨z, cs', h1, h3, h4⟩
    refine ⟨zs, ⟨rfl, by unfold maxLen at hm; omega, fun _ => ⟨ad, rfl, fun j p hj => ?_⟩⟩, hz, hl, fun z hzm => ?_⟩
    · obtain ⟨cs', h1, h2, _⟩ := hzr j p hj
      obtain ⟨_, h4, h5⟩ := World.cells?_some h1
      refine ⟨cs', h4, h2, fun i u hu => ?_⟩
      have hil : i < d.sz := by rw [← h4]; exact (List.getElem?_eq_some_iff.1 hu).1
      rw [← hu, ← h5 i hil, Go.Deep.add_add]
    · obtain ⟨i, hiz⟩ := List.mem_iff_getElem?.1 hzm
      exact (hzr i z hiz).choose_spec.2.2
end
theorem open_texts {H : Type} {enc : TypeId × Value → H} {w : World} {base : Nat} {sp : Nat → Bool} {held : Bool} {fuel : Nat} {v : Value} {x : DataW H × List MemPlace} (h : DataW.trod enc Try.prog w base sp held fuel 29 [v] = some x) :
    ∃ (a : Option Addr) (zs : List ByteArray) (c : Nat), v = .slice a zs.length c ∧ zs.length ≤ c ∧ Kd.C Kd.string w a zs.length zs ∧ ∀ z ∈ zs, z.size ≤ maxLen := by
  have key : ∀ a len cap, v = .slice a len cap → ∃ (a : Option Addr) (zs : List ByteArray) (c : Nat), v = .slice a zs.length c ∧ zs.length ≤ c ∧ Kd.C Kd.string w a zs.length zs ∧ ∀ z ∈ zs, z.size ≤ maxLen := by
    rintro a len cap rfl
    obtain ⟨zs, h1, rfl, h3, h4⟩ := open_structs (Kd.string) (fun z : ByteArray => z.size ≤ maxLen) Try.underlying29 (by kernel_rfl) (fun n cs y h1 h2 => by
      obtain ⟨s, e, _, q⟩ := DataW.trod_string Try.underlying9 h2
      exact ⟨s, e, q⟩) h
    exact ⟨a, zs, cap, rfl, h3, h1, h4⟩
  rcases Go.Deep.open_slice Try.underlying29 h with ⟨hcs, _⟩ | ⟨ad, l, c, m, n, D, Pl, hcs, _⟩
  · exact key _ _ _ (List.cons.inj hcs).1
  · exact key _ _ _ (List.cons.inj hcs).1
def wf37 (z : S37) : Prop := (Lit.int .i64 z.f0).wf = true ∧ (Lit.int .i64 z.f1).wf = true ∧ z.f2.size ≤ maxLen ∧ ∀ s ∈ z.f3, s.size ≤ maxLen
theorem open_S37 {H : Type} {enc : TypeId × Value → H} {w : World} {base : Nat} {sp : Nat → Bool} {held : Bool} {n : Nat} {cs : List Value} {y : DataW H × List MemPlace} (hl : cs.length = 4) (h : DataW.trod enc Try.prog w base sp held n 37 cs = some y) : ∃ z : S37, k37.K w z cs ∧ wf37 z := by
  obtain ⟨c0, c1, c2, c3, rfl⟩ : ∃ c0 c1 c2 c3, cs = [c0, c1, c2, c3] := by
    match cs, hl with
    | [c0, c1, c2, c3], _ => exact ⟨c0, c1, c2, c3, rfl⟩
  obtain ⟨xs, m, _, _, _, hx, hf⟩ := DataW.trod_struct Try.underlying37 h
  have s0 : Try.prog.cellsOf 3 = 1 := by kernel_rfl
  have s2 : Try.prog.cellsOf 9 = 1 := by kernel_rfl
  have s3 : Try.prog.cellsOf 29 = 1 := by kernel_rfl
  have g0 : DataW.trod enc Try.prog w base sp held m 3 ((List.drop 0 [c0, c1, c2, c3]).take (Try.prog.cellsOf 3)) = xs[0]? := hf 0 _ rfl
  have g1 : DataW.trod enc Try.prog w base sp held m 3 ((List.drop 1 [c0, c1, c2, c3]).take (Try.prog.cellsOf 3)) = xs[1]? := hf 1 _ rfl
  have g2 : DataW.trod enc Try.prog w base sp held m 9 ((List.drop 2 [c0, c1, c2, c3]).take (Try.prog.cellsOf 9)) = xs[2]? := hf 2 _ rfl
  have g3 : DataW.trod enc Try.prog w base sp held m 29 ((List.drop 3 [c0, c1, c2, c3]).take (Try.prog.cellsOf 29)) = xs[3]? := hf 3 _ rfl
  rw [s0] at g0 g1
  rw [s2] at g2
  rw [s3] at g3
  replace g0 : DataW.trod enc Try.prog w base sp held m 3 [c0] = xs[0]? := g0
  replace g1 : DataW.trod enc Try.prog w base sp held m 3 [c1] = xs[1]? := g1
  replace g2 : DataW.trod enc Try.prog w base sp held m 9 [c2] = xs[2]? := g2
  replace g3 : DataW.trod enc Try.prog w base sp held m 29 [c3] = xs[3]? := g3
  rw [List.getElem?_eq_getElem (show 0 < xs.length by rw [hx]; decide)] at g0
  rw [List.getElem?_eq_getElem (show 1 < xs.length by rw [hx]; decide)] at g1
  rw [List.getElem?_eq_getElem (show 2 < xs.length by rw [hx]; decide)] at g2
  rw [List.getElem?_eq_getElem (show 3 < xs.length by rw [hx]; decide)] at g3
  obtain ⟨a0, e0, _, q0⟩ := DataW.trod_int Try.underlying3 g0
  obtain rfl := (List.cons.inj e0).1
  obtain ⟨a1, e1, _, q1⟩ := DataW.trod_int Try.underlying3 g1
  obtain rfl := (List.cons.inj e1).1
  obtain ⟨a2, e2, _, q2⟩ := DataW.trod_string Try.underlying9 g2
  obtain rfl := (List.cons.inj e2).1
  obtain ⟨A, zs, c, rfl, hc, hr, hz⟩ := open_texts g3
  exact ⟨⟨a0, a1, a2, zs⟩, K_S37 hc hr, q0, q1, q2, hz⟩
end Go.Proofs.Ytmpfadiehakcgaa.PQ
