/- What a store is, as the machine holds it. -/
import Derived.Test.YtmpfadiehakcgaaMapS
import Derived.Test.YtmpfadiehakcgaaPQx0
namespace Go.Proofs.Ytmpfadiehakcgaa.PQ
open Go.RowKit Go.Proofs.YtmpfadiehakcgaaW.PrintWords Go.Proofs.YtmpfadiehakcgaaW.PrintLast Go.Proofs.YtmpfadiehakcgaaW.PrintMore
set_option linter.unusedVariables false
set_option linter.unusedSimpArgs false
/-- From w to w' nothing has turned but blocks of S. -/
structure Ch (S : Nat → Prop) (w w' : World) : Prop where
  os : w'.os = w.os
  tape : w'.tape = w.tape
  output : w'.output = w.output
  size : w.heap.size ≤ w'.heap.size
  block : ∀ k, k < w.heap.size → ¬ S k → w'.heap[k]? = w.heap[k]?
theorem Ch.refl (S : Nat → Prop) (w : World) : Ch S w w := ⟨rfl, rfl, rfl, Nat.le_refl _, fun _ _ _ => rfl⟩
theorem Ch.of_below {S : Nat → Prop} {w w' : World} (h : Below w.heap.size w w') : Ch S w w' := ⟨h.os, h.tape, h.output, h.size, fun k hk _ => h.block k hk⟩
theorem Ch.of_grown {S : Nat → Prop} {w w' : World} {row : Option Nat} (h : w.grownBy w' row) (hr : ∀ k, row = some k → S k) : Ch S w w' := ⟨h.os, h.tape, h.output, h.size, fun k hk hn => h.block k hk (fun e => hn (hr k e.symm))⟩
theorem Ch.trans {S : Nat → Prop} {a b c : World} (h : Ch S a b) (k : Ch S b c) : Ch S a c :=
  ⟨k.os.trans h.os, k.tape.trans h.tape, k.output.trans h.output, Nat.le_trans h.size k.size, fun i hi hn => (k.block i (Nat.lt_of_lt_of_le hi h.size) hn).trans (h.block i hi hn)⟩
theorem Ch.below {S : Nat → Prop} {w w' : World} (h : Ch S w w') {n : Nat} (hn : n ≤ w.heap.size) (hS : ∀ k, S k → n ≤ k) : Below n w w' := ⟨h.os, h.tape, h.output, h.size, fun k hk => h.block k (by omega) (fun s => by have := hS k s; omega)⟩
theorem Ch.alloc {S : Nat → Prop} {w W : World} (h : Ch S w W) (o : Obj) : Ch S w (W.alloc o) := h.trans (Ch.of_below ((Below.refl _ _).alloc (Nat.le_refl _) _))
theorem Ch.set {S : Nat → Prop} (w : World) (a : Addr) (v : Value) (h : S a.block) : Ch S w (w.setCell a v) :=
  ⟨rfl, rfl, rfl, by simp [World.setCell], fun k _ hk => Below.heap_setCell _ _ _ _ (fun e => hk (e ▸ h))⟩
theorem u61 : Try.prog.underlying 61 = some (.map 9 3) := by kernel_rfl
theorem u9 : Try.prog.underlying 9 = some .string := by kernel_rfl
theorem zero3 (w : World) : (zeroValue 3).run Try.prog w = .ok (.int .i64 0) w := by rfl
/-- A geometry. -/
structure G6 where
  f0 : Int
  f1 : Int
  f2 : Int
  f3 : Int
  f4 : Int
  f5 : Int
def encG (g : G6) : Value := .agg #[.int .i64 g.f0, .int .i64 g.f1, .int .i64 g.f2, .int .i64 g.f3, .int .i64 g.f4, .int .i64 g.f5]
/-- What a map says of a sector: a text is there, as 1, or not. -/
def mOf (s : ByteArray → Bool) (x : ByteArray) : Option Value := if s x = true then some (.int .i64 1) else none
def updB (s : ByteArray → Bool) (a : ByteArray) (x : ByteArray) : Bool := if x = a then true else s x
def updM (m : Nat → ByteArray → Bool) (i : Nat) (s : ByteArray → Bool) (k : Nat) : ByteArray → Bool := if k = i then s else m k
def updD (d : Nat → ByteArray) (i : Nat) (s : ByteArray) (k : Nat) : ByteArray := if k = i then s else d k
theorem mOf_upd (s : ByteArray → Bool) (a : ByteArray) : updS (mOf s) a (some (.int .i64 1)) = mOf (updB s a) := by
  funext x
  unfold updS mOf updB
  by_cases h : x = a
  · rw [if_pos h, if_pos (by rw [if_pos h])]
  · rw [if_neg h, if_neg h]
theorem mOf_none : mOf (fun _ => false) = fun _ => none := by
  funext x
  rfl
/-- A store, as the machine holds it: its blocks lie between lo and hi. -/
structure SAt (lo up : Nat) (g : G6) (n cx : Nat) (d : Nat → ByteArray) (m : Nat → ByteArray → Bool) (P B cap : Nat) (mb : Nat → Nat) (w : World) : Prop where
  st : w.heap[P]? = some (.cells #[.int .i64 g.f0, .int .i64 g.f1, .int .i64 g.f2, .int .i64 g.f3, .int .i64 g.f4, .int .i64 g.f5, .slice (some ⟨B, 0, none⟩) n cap] 59 (0, 0))
  sec : ∃ cs, w.heap[B]? = some (.cells cs 63 (0, 0)) ∧ ∀ i, i < n → cs[i * 2]? = some (.string (d i)) ∧ cs[i * 2 + 1]? = some (.map (some (mb i)))
  maps : ∀ i, i < n → ∃ c D, c ≤ cx ∧ MapS Try.prog 9 (mOf (m i)) c (mb i) D w
  inj : ∀ i j, i < n → j < n → mb i = mb j → i = j
  rP : lo ≤ P ∧ P < up
  rB : lo ≤ B ∧ B < up
  rm : ∀ i, i < n → lo ≤ mb i ∧ mb i < up
  hw : up ≤ w.heap.size
  hn : n ≤ 4096
def Blk (lo up k : Nat) : Prop := lo ≤ k ∧ k < up
section
variable {lo up : Nat} {g : G6} {n cx : Nat} {d : Nat → ByteArray} {m : Nat → ByteArray → Bool} {P B cap : Nat} {mb : Nat → Nat} {w w' : World}
theorem SAt.same (h : SAt lo up g n cx d m P B cap mb w) (hz : w.heap.size ≤ w'.heap.size) (hs : ∀ k, Blk lo up k → w'.heap[k]? = w.heap[k]?) : SAt lo up g n cx d m P B cap mb w' := by
  refine ⟨(hs P h.rP).trans h.st, ?_, fun i hi => ?_, h.inj, h.rP, h.rB, h.rm, Nat.le_trans h.hw hz, h.hn⟩
  · obtain ⟨cs, h1, h2⟩ := h.sec
    exact ⟨cs, (hs B h.rB).trans h1, h2⟩
  · obtain ⟨c, D, hc, hM⟩ := h.maps i hi
    exact ⟨c, D, hc, hM.same (hs _ (h.rm i hi))⟩
theorem SAt.below (h : SAt lo up g n cx d m P B cap mb w) (hb : Below w.heap.size w w') : SAt lo up g n cx d m P B cap mb w' := h.same hb.size (fun k hk => hb.block k (by have := h.hw; have := hk.2; omega))
theorem SAt.alloc (h : SAt lo up g n cx d m P B cap mb w) (o : Obj) : SAt lo up g n cx d m P B cap mb (w.alloc o) := h.below ((Below.refl _ _).alloc (Nat.le_refl _) _)
theorem SAt.drew (h : SAt lo up g n cx d m P B cap mb w) : SAt lo up g n cx d m P B cap mb w.drew := h.same (Nat.le_refl _) (fun _ _ => rfl)
theorem SAt.more {cx' : Nat} (h : SAt lo up g n cx d m P B cap mb w) (hc : cx ≤ cx') : SAt lo up g n cx' d m P B cap mb w :=
  ⟨h.st, h.sec, fun i hi => (h.maps i hi).elim fun c h => h.elim fun D h => ⟨c, D, Nat.le_trans h.1 hc, h.2⟩, h.inj, h.rP, h.rB, h.rm, h.hw, h.hn⟩
theorem SAt.np (h : SAt lo up g n cx d m P B cap mb w) : P ≠ B := by
  rintro rfl
  obtain ⟨cs, h1, _⟩ := h.sec
  have := h.st
  rw [h1] at this
  injection this with this
  injection this with _ h2
  exact absurd h2 (by decide)
theorem SAt.nm {i : Nat} (h : SAt lo up g n cx d m P B cap mb w) (hi : i < n) : P ≠ mb i ∧ B ≠ mb i := by
  obtain ⟨c, D, _, hM⟩ := h.maps i hi
  obtain ⟨es, clock, hb, _⟩ := hM.own
  constructor
  · intro e
    have := h.st
    rw [e, hb] at this
    injection this with this
    cases this
  · intro e
    obtain ⟨cs, h1, _⟩ := h.sec
    rw [e, hb] at h1
    injection h1 with h1
    cases h1
theorem SAt.cells (h : SAt lo up g n cx d m P B cap mb w) : w.cell? ⟨P, 2, none⟩ = some (.int .i64 g.f2) ∧ w.cell? ⟨P, 6, none⟩ = some (.slice (some ⟨B, 0, none⟩) n cap) := ⟨blk_cell h.st 2, blk_cell h.st 6⟩
theorem SAt.cell {i : Nat} (h : SAt lo up g n cx d m P B cap mb w) (hi : i < n) : w.cell? ⟨B, i * 2, none⟩ = some (.string (d i)) ∧ w.cell? ⟨B, i * 2 + 1, none⟩ = some (.map (some (mb i))) ∧ w.frozen? ⟨B, i * 2, none⟩ = false := by
  obtain ⟨cs, h1, h2⟩ := h.sec
  obtain ⟨e0, e1⟩ := h2 i hi
  refine ⟨?_, ?_, blk_frozen h1 _⟩
  · have := blk_cell h1 (i * 2)
    rw [this, e0]
  · have := blk_cell h1 (i * 2 + 1)
    rw [this, e1]
theorem SAt.look {i : Nat} (h : SAt lo up g n cx d m P B cap mb w) (hi : i < n) (a : ByteArray) (ha : a.size ≤ maxLen) : (Instr.lookup 61 (.map (some (mb i))) (.string a) false).run Try.prog w = .ok (.int .i64 (if m i a = true then 1 else 0)) w := by
  obtain ⟨c, D, _, hM⟩ := h.maps i hi
  rw [hM.look u9 u61 (zero3 w) a ha]
  unfold mOf
  by_cases h1 : m i a = true
  · rw [if_pos h1, if_pos h1]; rfl
  · rw [if_neg h1, if_neg h1]; rfl
/-- A sector holds another text. -/
theorem SAt.setD {i : Nat} (h : SAt lo up g n cx d m P B cap mb w) (hi : i < n) (s : ByteArray) : SAt lo up g n cx (updD d i s) m P B cap mb (w.setCell ⟨B, i * 2, none⟩ (.string s)) := by
  have hfar : ∀ k, k ≠ B → (w.setCell ⟨B, i * 2, none⟩ (.string s)).heap[k]? = w.heap[k]? := fun k hk => Below.heap_setCell _ _ _ _ hk
  refine ⟨(hfar P h.np).trans h.st, ?_, fun j hj => ?_, h.inj, h.rP, h.rB, h.rm, ?_, h.hn⟩
  · obtain ⟨cs, h1, h2⟩ := h.sec
    refine ⟨cs.setIfInBounds (i * 2) (.string s), blk_put h1 (i * 2) _ rfl, fun j hj => ?_⟩
    obtain ⟨e0, e1⟩ := h2 j hj
    have hsz : i * 2 < cs.size := (Array.getElem?_eq_some_iff.1 (h2 i hi).1).1
    rw [Array.getElem?_setIfInBounds, Array.getElem?_setIfInBounds]
    unfold updD
    constructor
    · by_cases hji : j = i
      · subst hji; rw [if_pos rfl, if_pos hsz, if_pos rfl]
      · rw [if_neg (by omega), if_neg hji]; exact e0
    · rw [if_neg (by omega)]; exact e1
  · obtain ⟨c, D, hc, hM⟩ := h.maps j hj
    exact ⟨c, D, hc, hM.same (hfar _ (h.nm hj).2.symm)⟩
  · simpa [World.setCell] using h.hw
theorem SAt.turned {i : Nat} (h : SAt lo up g n cx d m P B cap mb w) (hi : i < n) {s : ByteArray → Bool} {c cx' : Nat} {D : DataW Value} (hM : MapS Try.prog 9 (mOf s) c (mb i) D w') (hc : c ≤ cx') (hx : cx ≤ cx') (ht : w.mapTurned w' (mb i)) : SAt lo up g n cx' d (updM m i s) P B cap mb w' := by
  have hg := ht.grown
  have hfar : ∀ k, k < w.heap.size → k ≠ mb i → w'.heap[k]? = w.heap[k]? := fun k hk h1 => hg.block k hk (fun e => h1 (Option.some.inj e))
  have hlt : ∀ k, Blk lo up k → k < w.heap.size := fun k hk => Nat.lt_of_lt_of_le hk.2 h.hw
  refine ⟨(hfar P (hlt _ h.rP) (h.nm hi).1).trans h.st, ?_, fun j hj => ?_, h.inj, h.rP, h.rB, h.rm, Nat.le_trans h.hw hg.size, h.hn⟩
  · obtain ⟨cs, h1, h2⟩ := h.sec
    exact ⟨cs, (hfar B (hlt _ h.rB) (h.nm hi).2).trans h1, h2⟩
  · by_cases hji : j = i
    · subst hji
      exact ⟨c, D, hc, by unfold updM; rw [if_pos rfl]; exact hM⟩
    · obtain ⟨c1, D1, hc1, hM1⟩ := h.maps j hj
      refine ⟨c1, D1, Nat.le_trans hc1 hx, ?_⟩
      unfold updM
      rw [if_neg hji]
      exact hM1.same (hfar _ hM1.lt (fun e => hji (h.inj j i hj hi e)))
theorem SAt.issue {i : Nat} (h : SAt lo up g n cx d m P B cap mb w) (hi : i < n) (hcx : cx < 1000000) (a : ByteArray) (ha : a.size ≤ maxLen) :
    ∃ w', (Instr.mapUpdate 61 (.map (some (mb i))) (.string a) (.int .i64 1)).run Try.prog w = .ok () w' ∧ SAt lo up g n (cx + 1) d (updM m i (updB (m i) a)) P B cap mb w' ∧ Ch (Blk lo up) w w' := by
  obtain ⟨c, D, hc, hM⟩ := h.maps i hi
  obtain ⟨w', D', hrun, hM', ht⟩ := hM.store u9 u61 (by unfold maxLen; omega) a ha (.int .i64 1)
  rw [mOf_upd] at hM'
  refine ⟨w', hrun, h.turned hi hM' ?_ (by omega) ht, Ch.of_grown ht.grown (fun k hk => (Option.some.inj hk) ▸ h.rm i hi)⟩
  split <;> omega
theorem SAt.clear {i : Nat} (h : SAt lo up g n cx d m P B cap mb w) (hi : i < n) :
    ∃ w', (Builtin.clear_ #[61] 0 #[.map (some (mb i))]).run Try.prog w = .ok (.tuple #[]) w' ∧ SAt lo up g n cx d (updM m i (fun _ => false)) P B cap mb w' ∧ Ch (Blk lo up) w w' := by
  obtain ⟨c, D, hc, hM⟩ := h.maps i hi
  obtain ⟨w', hrun, hM', ht⟩ := hM.clear u61 0
  rw [← mOf_none] at hM'
  exact ⟨w', hrun, h.turned hi hM' (Nat.zero_le _) (Nat.le_refl _) ht, Ch.of_grown ht.grown (fun k hk => (Option.some.inj hk) ▸ h.rm i hi)⟩
end
end Go.Proofs.Ytmpfadiehakcgaa.PQ
