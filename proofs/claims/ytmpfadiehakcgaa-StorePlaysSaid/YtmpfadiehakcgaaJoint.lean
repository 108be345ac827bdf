/- The code beside the document. -/
import Derived.Test.YtmpfadiehakcgaaRef4
namespace Go.Proofs.Ytmpfadiehakcgaa.PQ
open Go.RowKit Go.Proofs.YtmpfadiehakcgaaW.PrintWords Go.Proofs.YtmpfadiehakcgaaW.PrintLast Go.Proofs.YtmpfadiehakcgaaW.PrintMore
set_option linter.unusedVariables false
set_option linter.unusedSimpArgs false
theorem sd_memJ {l : List ByteArray} {k : Nat} (h : k < l.length) : sd l k ∈ l := by
  rw [sd_get h]
  exact List.getElem_mem h
/-- The code's sectors beside the document's rows. -/
structure PRel (n : Nat) (d : Nat → ByteArray) (m : Nat → ByteArray → Bool) (l1 : List ByteArray) (l2 : List S69) : Prop where
  len : l1.length = n
  data : ∀ i, i < n → d i = sd l1 i
  may : ∀ i, i < n → ∀ s, m i s = mayL l2 (i : Int) s
  out : ∀ a : Int, inR n a = false → ∀ s, mayL l2 a s = false
  size : ∀ i, i < n → (d i).size ≤ maxLen
section
variable {n : Nat} {d : Nat → ByteArray} {m : Nat → ByteArray → Bool} {l1 : List ByteArray} {l2 : List S69}
theorem mayL_snoc (l2 : List S69) (b a : Int) (s x : ByteArray) : mayL (l2 ++ [⟨b, s⟩]) a x = (mayL l2 a x || decide (b = a ∧ s = x)) := by
  unfold mayL
  rw [List.any_append]
  simp
theorem mayL_ev (l : List ByteArray) (k : Nat) (a : Int) (x : ByteArray) : mayL (evOf l k) a x = (decide (∃ i : Nat, i < k ∧ (i : Int) = a ∧ sd l i = x)) := by
  unfold mayL evOf
  rw [List.any_map]
  rw [Bool.eq_iff_iff]
  simp only [List.any_eq_true, List.mem_range, Function.comp, decide_eq_true_eq]
theorem PRel.issue (h : PRel n d m l1 l2) {i : Nat} (hi : i < n) (s : ByteArray) : PRel n d (updM m i (updB (m i) s)) l1 (l2 ++ [⟨(i : Int), s⟩]) := by
  refine ⟨h.len, h.data, fun j hj x => ?_, fun a ha x => ?_, h.size⟩
  · rw [mayL_snoc, ← h.may j hj]
    by_cases hji : j = i
    · subst hji
      rw [updM_at]
      unfold updB
      by_cases hx : x = s
      · rw [if_pos hx, decide_eq_true ⟨rfl, hx.symm⟩, Bool.or_true]
      · rw [if_neg hx, decide_eq_false (fun e => hx e.2.symm), Bool.or_false]
    · rw [updM_ne hji, decide_eq_false (fun e => hji (by have := e.1; omega)), Bool.or_false]
  · rw [mayL_snoc, h.out a ha, Bool.false_or]
    refine decide_eq_false (fun e => ?_)
    have h1 : inR n a = true := decide_eq_true ⟨by have := e.1; omega, by have := e.1; omega⟩
    rw [ha] at h1
    exact absurd h1 (by decide)
theorem PRel.write (h : PRel n d m l1 l2) {i : Nat} (hi : i < n) (s : ByteArray) (hs : s.size ≤ maxLen) : PRel n (updD d i s) (updM m i (updB (m i) s)) (l1.set i s) (l2 ++ [⟨(i : Int), s⟩]) := by
  have h1 := h.issue hi s
  refine ⟨by rw [List.length_set]; exact h.len, fun j hj => ?_, h1.may, h1.out, fun j hj => ?_⟩
  · have hj1 : j < l1.length := by rw [h.len]; exact hj
    rw [sd_get (by rw [List.length_set]; exact hj1), List.getElem_set]
    unfold updD
    by_cases hji : j = i
    · rw [if_pos hji, if_pos hji.symm]
    · rw [if_neg hji, if_neg (fun e => hji e.symm), h.data j hj, sd_get hj1]
  · unfold updD
    split
    · exact hs
    · exact h.size j hj
theorem PRel.fresh (hl : l1.length = n) (hd : ∀ i, i < n → d i = sd l1 i) (hs : ∀ i, i < n → (d i).size ≤ maxLen) : PRel n d (flM d m n) l1 (evOf l1 n) := by
  refine ⟨hl, hd, fun j hj x => ?_, fun a ha x => ?_, hs⟩
  · rw [flM_at hj, mayL_ev]
    unfold onlyS updB
    by_cases hx : x = d j
    · rw [if_pos hx, decide_eq_true ⟨j, hj, rfl, by rw [hx, hd j hj]⟩]
    · rw [if_neg hx]
      refine (decide_eq_false (fun ⟨i, hi, e1, e2⟩ => hx ?_)).symm
      obtain rfl : i = j := by omega
      rw [hd i hj, e2]
  · rw [mayL_ev]
    refine decide_eq_false (fun ⟨i, hi, e1, e2⟩ => ?_)
    have h1 : inR n a = true := decide_eq_true ⟨by omega, by omega⟩
    rw [ha] at h1
    exact absurd h1 (by decide)
theorem PRel.flush (h : PRel n d m l1 l2) : PRel n d (flM d m n) l1 (evOf l1 n) := PRel.fresh h.len h.data h.size
theorem PRel.cut {l : List ByteArray} (hl : l.length = n) (hs : ∀ s ∈ l, s.size ≤ maxLen) : PRel n (cutD d l n) (flM (cutD d l n) m n) l (evOf l n) :=
  PRel.fresh hl (fun i hi => by unfold cutD; rw [if_pos hi]) (fun i hi => by unfold cutD; rw [if_pos hi]; exact hs _ (sd_memJ (by rw [hl]; exact hi)))
theorem PRel.flM_only (s : ByteArray) : (fun _ : Nat => onlyS s) = (fun _ : Nat => onlyS s) := rfl
theorem sd_replicate (L : Nat) (s : ByteArray) (i : Nat) (hi : i < L) : sd (List.replicate L s) i = s := by
  rw [sd_get (by rw [List.length_replicate]; exact hi), List.getElem_replicate]
theorem PRel.new (L : Nat) (s : ByteArray) (hs : s.size ≤ maxLen) : PRel L (fun _ => s) (fun _ => onlyS s) (List.replicate L s) (evOf (List.replicate L s) L) := by
  have h := PRel.fresh (n := L) (d := fun _ => s) (m := fun _ => onlyS s) (l1 := List.replicate L s) List.length_replicate (fun i hi => (sd_replicate L s i hi).symm) (fun _ _ => hs)
  exact ⟨h.len, h.data, fun i hi x => by rw [← h.may i hi x, flM_at hi], h.out, h.size⟩
end
/-- All that the law holds. -/
structure JAt (lo up : Nat) (g : G6) (n cx : Nat) (d : Nat → ByteArray) (m : Nat → ByteArray → Bool) (P B cap : Nat) (mb : Nat → Nat) (X2 X7 : Nat) (v1 v2 : Value) (l1 : List ByteArray) (l2 : List S69) (w0 w : World) : Prop where
  s : SAt lo up g n cx d m P B cap mb w
  r : RAt up v1 v2 l1 l2 w
  b7 : w.heap[X7]? = some (.cells #[.int .i64 g.f0, .int .i64 g.f1, .int .i64 g.f2, .int .i64 g.f3, .int .i64 g.f4, .int .i64 g.f5, v1, v2] 32 (0, 0))
  b2 : w.heap[X2]? = some (.cells #[.int .i64 g.f0, .int .i64 g.f1, .int .i64 g.f2, .int .i64 g.f3, .int .i64 g.f4, .int .i64 g.f5] 23 (0, 0))
  h2 : X2 < lo
  h7 : up ≤ X7
  lz : w0.heap.size ≤ lo
  bel : Below w0.heap.size w0 w
section
variable {lo up : Nat} {g : G6} {n cx cx' : Nat} {d d' : Nat → ByteArray} {m m' : Nat → ByteArray → Bool} {P B cap : Nat} {mb : Nat → Nat} {X2 X7 : Nat} {v1 v2 v1' v2' : Value} {l1 l1' : List ByteArray} {l2 l2' : List S69} {w0 w w' : World}
theorem JAt.up_le (h : JAt lo up g n cx d m P B cap mb X2 X7 v1 v2 l1 l2 w0 w) : lo ≤ up := by have := h.s.rP; omega
theorem JAt.code (h : JAt lo up g n cx d m P B cap mb X2 X7 v1 v2 l1 l2 w0 w) (hs : SAt lo up g n cx' d' m' P B cap mb w') (hC : Ch (Blk lo up) w w') : JAt lo up g n cx' d' m' P B cap mb X2 X7 v1 v2 l1 l2 w0 w' := by
  have hk : ∀ b, up ≤ b → b < w.heap.size → w'.heap[b]? = w.heap[b]? := fun b h1 h2 => hC.block b h2 (fun h => by have := h.2; omega)
  exact ⟨hs, h.r.keep hC.size (fun b h1 h2 _ => hk b h1 h2), (hk X7 h.h7 (blk_lt h.b7)).trans h.b7, (hC.block X2 (blk_lt h.b2) (fun h3 => by have := h3.1; have := h.h2; omega)).trans h.b2, h.h2, h.h7, h.lz, h.bel.trans (hC.below h.bel.size (fun k hk => Nat.le_trans h.lz hk.1))⟩
theorem JAt.below (h : JAt lo up g n cx d m P B cap mb X2 X7 v1 v2 l1 l2 w0 w) (hb : Below w.heap.size w w') : JAt lo up g n cx d m P B cap mb X2 X7 v1 v2 l1 l2 w0 w' := h.code (h.s.below hb) (Ch.of_below hb)
theorem JAt.alloc (h : JAt lo up g n cx d m P B cap mb X2 X7 v1 v2 l1 l2 w0 w) (o : Obj) : JAt lo up g n cx d m P B cap mb X2 X7 v1 v2 l1 l2 w0 (w.alloc o) := h.below ((Below.refl _ _).alloc (Nat.le_refl _) _)
theorem JAt.drew (h : JAt lo up g n cx d m P B cap mb X2 X7 v1 v2 l1 l2 w0 w) : JAt lo up g n cx d m P B cap mb X2 X7 v1 v2 l1 l2 w0 w.drew := h.below (below_drew (Below.refl _ _))
/-- Behind a call of the document's, before its store. -/
theorem JAt.turn (h : JAt lo up g n cx d m P B cap mb X2 X7 v1 v2 l1 l2 w0 w) (hC : Ch (fun k => v1.ownBlock = some k) w w') : SAt lo up g n cx d m P B cap mb w' ∧ w'.heap[X7]? = some (.cells #[.int .i64 g.f0, .int .i64 g.f1, .int .i64 g.f2, .int .i64 g.f3, .int .i64 g.f4, .int .i64 g.f5, v1, v2] 32 (0, 0)) ∧ w'.heap[X2]? = some (.cells #[.int .i64 g.f0, .int .i64 g.f1, .int .i64 g.f2, .int .i64 g.f3, .int .i64 g.f4, .int .i64 g.f5] 23 (0, 0)) ∧ Below w0.heap.size w0 w' := by
  have hge : ∀ k, v1.ownBlock = some k → up ≤ k := fun k hk => by
    obtain ⟨inner, ho⟩ := Kd.R_own h.r.r1
    exact own_base ho k hk
  have h0 := h.up_le
  refine ⟨h.s.same hC.size (fun k hk => hC.block k (by have := hk.2; have := h.s.hw; omega) (fun e => by have := hge k e; have := hk.2; omega)), (hC.block X7 (blk_lt h.b7) (fun e => Kd.R_ne h.r.r1 h.b7 (by decide) e.symm)).trans h.b7, (hC.block X2 (blk_lt h.b2) (fun e => by have := hge _ e; have := h.h2; omega)).trans h.b2, h.bel.trans (hC.below h.bel.size (fun k hk => by have := hge k hk; have := h.lz; omega))⟩
theorem JAt.ref (h : JAt lo up g n cx d m P B cap mb X2 X7 v1 v2 l1 l2 w0 w) (hC : Ch (fun k => v1.ownBlock = some k) w w') (hR : RAt up v1' v2' l1' l2' w') : JAt lo up g n cx d m P B cap mb X2 X7 v1' v2' l1' l2' w0 (put8 w' X7 (.int .i64 g.f0) (.int .i64 g.f1) (.int .i64 g.f2) (.int .i64 g.f3) (.int .i64 g.f4) (.int .i64 g.f5) v1' v2') := by
  obtain ⟨hs, h7, h2, hb⟩ := h.turn hC
  have h0 := h.up_le
  exact ⟨hs.same (by rw [put8_size]; exact Nat.le_refl _) (fun k hk => put8_far (fun e => by have := hk.2; have := h.h7; omega)), hR.put8 h7, put8_at h7, (put8_far (fun e => by have := h.h2; have := h.h7; omega)).trans h2, h.h2, h.h7, h.lz, put8_below hb (by have := h.lz; have := h.h7; omega)⟩
end
theorem issC_zero {n : Nat} {g : G6} {a : Int} {s : ByteArray} (h : issC n g a s = 0) : ∃ j : Nat, a = (j : Int) ∧ j < n ∧ (s.size : Int) = g.f2 := by
  unfold issC at h
  by_cases h1 : inR n a = true
  · rw [if_pos h1] at h
    have h2 := of_decide_eq_true h1
    by_cases h3 : (s.size : Int) = g.f2
    · exact ⟨a.toNat, (Int.toNat_of_nonneg h2.1).symm, by omega, h3⟩
    · rw [if_neg h3] at h
      exact absurd h (by decide)
  · rw [if_neg h1] at h
    exact absurd h (by decide)
theorem inR_at {n : Nat} {a : Int} (h : inR n a = true) : ∃ j : Nat, a = (j : Int) ∧ j < n := by
  have h2 := of_decide_eq_true h
  exact ⟨a.toNat, (Int.toNat_of_nonneg h2.1).symm, by omega⟩
theorem issC_out {n : Nat} {g : G6} {a : Int} (s : ByteArray) (h : inR n a = false) : issC n g a s = 1 := by
  unfold issC
  rw [h]
  rfl
/-- .. and the act that is being played. -/
structure KA (lo up : Nat) (g : G6) (n cx : Nat) (d : Nat → ByteArray) (m : Nat → ByteArray → Bool) (P B cap : Nat) (mb : Nat → Nat) (X2 X7 : Nat) (v1 v2 : Value) (l1 : List ByteArray) (l2 : List S69) (X10 : Nat) (y0 y1 : Int) (y2 : ByteArray) (v3 : Value) (w0 w : World) : Prop where
  j : JAt lo up g n cx d m P B cap mb X2 X7 v1 v2 l1 l2 w0 w
  b : w.heap[X10]? = some (.cells #[.int .i64 y0, .int .i64 y1, .string y2, v3] 37 (0, 0))
section
variable {lo up : Nat} {g : G6} {n cx cx' : Nat} {d d' : Nat → ByteArray} {m m' : Nat → ByteArray → Bool} {P B cap : Nat} {mb : Nat → Nat} {X2 X7 X10 : Nat} {v1 v2 v3 : Value} {l1 : List ByteArray} {l2 : List S69} {y0 y1 : Int} {y2 : ByteArray} {w0 w w' : World}
theorem KA.below (h : KA lo up g n cx d m P B cap mb X2 X7 v1 v2 l1 l2 X10 y0 y1 y2 v3 w0 w) (hb : Below w.heap.size w w') : KA lo up g n cx d m P B cap mb X2 X7 v1 v2 l1 l2 X10 y0 y1 y2 v3 w0 w' := ⟨h.j.below hb, blk_below h.b hb⟩
theorem KA.alloc (h : KA lo up g n cx d m P B cap mb X2 X7 v1 v2 l1 l2 X10 y0 y1 y2 v3 w0 w) (o : Obj) : KA lo up g n cx d m P B cap mb X2 X7 v1 v2 l1 l2 X10 y0 y1 y2 v3 w0 (w.alloc o) := h.below ((Below.refl _ _).alloc (Nat.le_refl _) _)
theorem KA.drew (h : KA lo up g n cx d m P B cap mb X2 X7 v1 v2 l1 l2 X10 y0 y1 y2 v3 w0 w) : KA lo up g n cx d m P B cap mb X2 X7 v1 v2 l1 l2 X10 y0 y1 y2 v3 w0 w.drew := h.below (below_drew (Below.refl _ _))
theorem KA.drewN (h : KA lo up g n cx d m P B cap mb X2 X7 v1 v2 l1 l2 X10 y0 y1 y2 v3 w0 w) (k : Nat) : KA lo up g n cx d m P B cap mb X2 X7 v1 v2 l1 l2 X10 y0 y1 y2 v3 w0 (w.drewN k) := h.below (pw_below_drewN (Below.refl _ _) k)
theorem getKA {p1 p2 p3 p4 p5 p6 p7 p8 p9 p10 : Prop} (h : p1 ∧ p2 ∧ p3 ∧ p4 ∧ p5 ∧ p6 ∧ p7 ∧ p8 ∧ p9 ∧ p10 ∧ Aside0 (KA lo up g n cx d m P B cap mb X2 X7 v1 v2 l1 l2 X10 y0 y1 y2 v3 w0 w)) : KA lo up g n cx d m P B cap mb X2 X7 v1 v2 l1 l2 X10 y0 y1 y2 v3 w0 w := h.2.2.2.2.2.2.2.2.2.2.out
theorem KA.cells (h : KA lo up g n cx d m P B cap mb X2 X7 v1 v2 l1 l2 X10 y0 y1 y2 v3 w0 w) : w.cell? ⟨X10, 1, none⟩ = some (.int .i64 y1) ∧ w.cell? ⟨X10, 2, none⟩ = some (.string y2) ∧ w.cell? ⟨X7, 0, none⟩ = some (.int .i64 g.f0) ∧ w.cell? ⟨X7, 1, none⟩ = some (.int .i64 g.f1) ∧ w.cell? ⟨X7, 2, none⟩ = some (.int .i64 g.f2) ∧ w.cell? ⟨X7, 3, none⟩ = some (.int .i64 g.f3) ∧ w.cell? ⟨X7, 4, none⟩ = some (.int .i64 g.f4) ∧ w.cell? ⟨X7, 5, none⟩ = some (.int .i64 g.f5) ∧ w.cell? ⟨X7, 6, none⟩ = some v1 ∧ w.cell? ⟨X7, 7, none⟩ = some v2 ∧ Aside0 (KA lo up g n cx d m P B cap mb X2 X7 v1 v2 l1 l2 X10 y0 y1 y2 v3 w0 w) :=
  ⟨blk_cell h.b 1, blk_cell h.b 2, blk_cell h.j.b7 0, blk_cell h.j.b7 1, blk_cell h.j.b7 2, blk_cell h.j.b7 3, blk_cell h.j.b7 4, blk_cell h.j.b7 5, blk_cell h.j.b7 6, blk_cell h.j.b7 7, ⟨h⟩⟩
end
section
variable {lo up : Nat} {g : G6} {n cx : Nat} {d : Nat → ByteArray} {m : Nat → ByteArray → Bool} {P B cap : Nat} {mb : Nat → Nat} {w w' : World} {v1 v2 : Value} {l1 : List ByteArray} {l2 : List S69}
def TrimC (n : Nat) (d : Nat → ByteArray) (m : Nat → ByteArray → Bool) (a : Int) (s : ByteArray) (r : Int) (d' : Nat → ByteArray) (m' : Nat → ByteArray → Bool) : Prop :=
  (r ≠ 0 ∧ d' = d ∧ m' = m) ∨ (r = 0 ∧ ∃ j : Nat, a = (j : Int) ∧ j < n ∧ d' = updD d j s ∧ m' = updM m j (updB (m j) s))
def TrimR (n : Nat) (l1 : List ByteArray) (l2 : List S69) (a : Int) (s : ByteArray) (r : Int) (l1' : List ByteArray) (l2' : List S69) : Prop :=
  (r ≠ 0 ∧ l1' = l1 ∧ l2' = l2) ∨ (r = 0 ∧ ∃ j : Nat, a = (j : Int) ∧ j < n ∧ l1' = l1.set j s ∧ l2' = l2 ++ [⟨(j : Int), s⟩])
theorem trim_any (H : Aside0 (SAt lo up g n cx d m P B cap mb w)) (hg : 0 ≤ g.f2 ∧ g.f2 ≤ 1000) (a : Int) (r : Int) (hr : r = issC n g a (repN 0 g.f2.toNat)) (hcx : cx < 1000000) :
    Calls Try.prog 10 #[.pointer (some ⟨P, 0, none⟩), .int .i64 a] w fun e w' => ∃ d' m', e = .returned (.int .i64 r) ∧ Aside0 (SAt lo up g n (cx + 1) d' m' P B cap mb w' ∧ Ch (Blk lo up) w w') ∧ Aside0 (TrimC n d m a (repN 0 g.f2.toNat) r d' m') := by
  have hz : ((repN 0 g.f2.toNat).size : Int) = g.f2 := by rw [repN_size]; exact Int.toNat_of_nonneg hg.1
  cases hin : inR n a with
  | false =>
    obtain rfl : r = 1 := by rw [hr]; exact issC_out _ hin
    refine (trim_no H hg a hin).mono ?_
    rintro e w' ⟨rfl, hb⟩
    exact ⟨d, m, rfl, ⟨(H.out.below hb).more (Nat.le_succ _), Ch.of_below hb⟩, ⟨.inl ⟨by decide, rfl, rfl⟩⟩⟩
  | true =>
    obtain ⟨j, rfl, hj⟩ := inR_at hin
    obtain rfl : r = 0 := by rw [hr]; unfold issC; rw [hin, if_pos rfl, if_pos hz]
    refine (trim_at H hg j hj hcx).mono ?_
    rintro e w' ⟨rfl, hA⟩
    exact ⟨_, _, rfl, hA, ⟨.inr ⟨rfl, j, rfl, hj, rfl, rfl⟩⟩⟩
theorem rwrite_any (H : Aside0 (RAt up v1 v2 l1 l2 w)) (hn : l1.length = n) (a : Int) (s : ByteArray) (hs : (s.size : Int) = g.f2) (r : Int) (hr : r = issC n g a s) (hl1 : l1.length ≤ 100000) (hl2 : l2.length ≤ 1000000) :
    Calls Try.prog 9 #[encD g v1 v2, .int .i64 a, .string s] w fun e w' => ∃ v1' v2' l1' l2', e = .returned (.tuple #[encD g v1' v2', .int .i64 r]) ∧ Aside0 (RAt up v1' v2' l1' l2' w') ∧ Below w.heap.size w w' ∧ Aside0 (TrimR n l1 l2 a s r l1' l2') := by
  subst hn
  by_cases hc : r = 0
  · obtain ⟨j, rfl, hj, _⟩ := issC_zero (hr.symm.trans hc)
    subst hc
    refine (rwrite_at H j hj s hs hl1 hl2).mono ?_
    rintro e w' ⟨v1', v2', rfl, hR, hb⟩
    exact ⟨v1', v2', _, _, rfl, hR, hb, ⟨.inr ⟨rfl, j, rfl, hj, rfl, rfl⟩⟩⟩
  · refine (rwrite_no H a s r hr hc).mono ?_
    rintro e w' ⟨rfl, hb⟩
    exact ⟨v1, v2, l1, l2, rfl, ⟨H.out.below hb⟩, hb, ⟨.inl ⟨hc, rfl, rfl⟩⟩⟩
theorem PRel.trim (h : PRel n d m l1 l2) {a : Int} {s : ByteArray} (hs : s.size ≤ maxLen) {r : Int} {d' : Nat → ByteArray} {m' : Nat → ByteArray → Bool} {l1' : List ByteArray} {l2' : List S69} (hc : TrimC n d m a s r d' m') (hr : TrimR n l1 l2 a s r l1' l2') : PRel n d' m' l1' l2' ∧ l2'.length ≤ l2.length + 1 := by
  rcases hc with ⟨h1, rfl, rfl⟩ | ⟨h1, j, rfl, hj, rfl, rfl⟩
  · rcases hr with ⟨_, rfl, rfl⟩ | ⟨h2, _⟩
    · exact ⟨h, Nat.le_succ _⟩
    · exact absurd h2 h1
  · rcases hr with ⟨h2, _⟩ | ⟨_, j', e, _, rfl, rfl⟩
    · exact absurd h1 h2
    · obtain rfl : j = j' := by omega
      exact ⟨h.write hj s hs, by rw [List.length_append, List.length_singleton]; exact Nat.le_refl _⟩
end
/-- The blocks that the region of Trim only reads. -/
structure KB (X2 X10 : Nat) (g : G6) (y0 y1 : Int) (y2 : ByteArray) (v3 : Value) (w : World) : Prop where
  b : w.heap[X10]? = some (.cells #[.int .i64 y0, .int .i64 y1, .string y2, v3] 37 (0, 0))
  b2 : w.heap[X2]? = some (.cells #[.int .i64 g.f0, .int .i64 g.f1, .int .i64 g.f2, .int .i64 g.f3, .int .i64 g.f4, .int .i64 g.f5] 23 (0, 0))
theorem KB.drew {X2 X10 : Nat} {g : G6} {y0 y1 : Int} {y2 : ByteArray} {v3 : Value} {w : World} (h : KB X2 X10 g y0 y1 y2 v3 w) : KB X2 X10 g y0 y1 y2 v3 w.drew := ⟨h.b, h.b2⟩
theorem KB.below {X2 X10 : Nat} {g : G6} {y0 y1 : Int} {y2 : ByteArray} {v3 : Value} {w w' : World} (h : KB X2 X10 g y0 y1 y2 v3 w) (hb : Below w.heap.size w w') : KB X2 X10 g y0 y1 y2 v3 w' := ⟨blk_below h.b hb, blk_below h.b2 hb⟩
theorem KB.put8 {X2 X10 X7 : Nat} {g : G6} {y0 y1 : Int} {y2 : ByteArray} {v3 : Value} {w : World} {cs : Array Value} (h : KB X2 X10 g y0 y1 y2 v3 w) (h7 : w.heap[X7]? = some (.cells cs 32 (0, 0))) {x0 x1 x2 x3 x4 x5 x6 x7 : Value} : KB X2 X10 g y0 y1 y2 v3 (put8 w X7 x0 x1 x2 x3 x4 x5 x6 x7) := by
  refine ⟨(put8_far ?_).trans h.b, (put8_far ?_).trans h.b2⟩
  · rintro rfl
    rw [h.b] at h7
    injection h7 with h7
    injection h7 with _ h7
    exact absurd h7 (by decide)
  · rintro rfl
    rw [h.b2] at h7
    injection h7 with h7
    injection h7 with _ h7
    exact absurd h7 (by decide)
section
variable {lo up : Nat} {g : G6} {n cx : Nat} {d : Nat → ByteArray} {m : Nat → ByteArray → Bool} {P B cap : Nat} {mb : Nat → Nat} {w w' : World} {v1 v2 : Value} {l1 : List ByteArray} {l2 : List S69}
theorem write_any (H : Aside0 (SAt lo up g n cx d m P B cap mb w)) (a : Int) (s : ByteArray) (hs : s.size ≤ maxLen) (r : Int) (hr : r = issC n g a s) (hcx : cx < 1000000) :
    Calls Try.prog 8 #[.pointer (some ⟨P, 0, none⟩), .int .i64 a, .string s] w fun e w' => ∃ d' m', e = .returned (.int .i64 r) ∧ Aside0 (SAt lo up g n (cx + 1) d' m' P B cap mb w' ∧ Ch (Blk lo up) w w') ∧ Aside0 (TrimC n d m a s r d' m') := by
  by_cases hc : r = 0
  · obtain ⟨j, rfl, hj, hsz⟩ := issC_zero (hr.symm.trans hc)
    subst hc
    refine (write_at H j hj s hsz hs hcx).mono ?_
    rintro e w' ⟨rfl, hA⟩
    exact ⟨_, _, rfl, hA, ⟨.inr ⟨rfl, j, rfl, hj, rfl, rfl⟩⟩⟩
  · rw [hr] at hc
    refine (write_no H a s hc).mono ?_
    rintro e w' ⟨rfl, rfl⟩
    exact ⟨d, m, by rw [hr], ⟨H.out.more (Nat.le_succ _), Ch.refl _ _⟩, ⟨.inl ⟨by rw [hr]; exact hc, rfl, rfl⟩⟩⟩
theorem rwrite_any' (H : Aside0 (RAt up v1 v2 l1 l2 w)) (hn : l1.length = n) (a : Int) (s : ByteArray) (r : Int) (hr : r = issC n g a s) (hl1 : l1.length ≤ 100000) (hl2 : l2.length ≤ 1000000) :
    Calls Try.prog 9 #[encD g v1 v2, .int .i64 a, .string s] w fun e w' => ∃ v1' v2' l1' l2', e = .returned (.tuple #[encD g v1' v2', .int .i64 r]) ∧ Aside0 (RAt up v1' v2' l1' l2' w') ∧ Below w.heap.size w w' ∧ Aside0 (TrimR n l1 l2 a s r l1' l2') := by
  subst hn
  by_cases hc : r = 0
  · obtain ⟨j, rfl, hj, hsz⟩ := issC_zero (hr.symm.trans hc)
    subst hc
    refine (rwrite_at H j hj s hsz hl1 hl2).mono ?_
    rintro e w' ⟨v1', v2', rfl, hR, hb⟩
    exact ⟨v1', v2', _, _, rfl, hR, hb, ⟨.inr ⟨rfl, j, rfl, hj, rfl, rfl⟩⟩⟩
  · refine (rwrite_no H a s r hr hc).mono ?_
    rintro e w' ⟨rfl, hb⟩
    exact ⟨v1, v2, l1, l2, rfl, ⟨H.out.below hb⟩, hb, ⟨.inl ⟨hc, rfl, rfl⟩⟩⟩
def IssR (n : Nat) (m : Nat → ByteArray → Bool) (l2 : List S69) (a : Int) (s : ByteArray) (r : Int) (m' : Nat → ByteArray → Bool) (l2' : List S69) : Prop :=
  (r ≠ 0 ∧ m' = m ∧ l2' = l2) ∨ (r = 0 ∧ ∃ j : Nat, a = (j : Int) ∧ j < n ∧ m' = updM m j (updB (m j) s) ∧ l2' = l2 ++ [⟨(j : Int), s⟩])
theorem issue_any (H : Aside0 (SAt lo up g n cx d m P B cap mb w)) (a : Int) (s : ByteArray) (hs : s.size ≤ maxLen) (r : Int) (hr : r = issC n g a s) (hcx : cx < 1000000) :
    Calls Try.prog 12 #[.pointer (some ⟨P, 0, none⟩), .int .i64 a, .string s] w fun e w' => ∃ m', e = .returned (.int .i64 r) ∧ Aside0 (SAt lo up g n (cx + 1) d m' P B cap mb w' ∧ Ch (Blk lo up) w w') ∧ Aside0 ((r ≠ 0 ∧ m' = m) ∨ (r = 0 ∧ ∃ j : Nat, a = (j : Int) ∧ j < n ∧ m' = updM m j (updB (m j) s))) := by
  by_cases hc : r = 0
  · obtain ⟨j, rfl, hj, hsz⟩ := issC_zero (hr.symm.trans hc)
    subst hc
    refine (issue_at H j hj s hsz hs hcx).mono ?_
    rintro e w' ⟨rfl, hA⟩
    exact ⟨_, rfl, hA, ⟨.inr ⟨rfl, j, rfl, hj, rfl⟩⟩⟩
  · rw [hr] at hc
    refine (issue_no H a s hc).mono ?_
    rintro e w' ⟨rfl, rfl⟩
    exact ⟨m, by rw [hr], ⟨H.out.more (Nat.le_succ _), Ch.refl _ _⟩, ⟨.inl ⟨by rw [hr]; exact hc, rfl⟩⟩⟩
end
end Go.Proofs.Ytmpfadiehakcgaa.PQ
