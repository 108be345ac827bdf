/- The store, and what was told of each sector. -/
import Derived.Test.YtmpfadiehakcgaaAct
namespace Go.Proofs.Ytmpfadiehakcgaa.PQ
open Go.RowKit Go.Proofs.YtmpfadiehakcgaaW.PrintWords Go.Proofs.YtmpfadiehakcgaaW.PrintLast Go.Proofs.YtmpfadiehakcgaaW.PrintMore
set_option linter.unusedVariables false
set_option linter.unusedSimpArgs false
def updV (f : Nat → Value) (j : Nat) (v : Value) (k : Nat) : Value := if k = j then v else f k
def updL (f : Nat → List ByteArray) (j : Nat) (s : ByteArray) (k : Nat) : List ByteArray := if k = j then f k ++ [s] else f k
theorem R_self {e base : Nat} {ok : Nat → Prop} {w : World} {v : Value} {xs : List ByteArray} (h : Kd.R Kd.string e w base ok v xs) : Kd.R Kd.string e w base (fun b => v.ownBlock = some b) v xs :=
  ⟨fun k hk => hk, h.2.imp_ (fun _ _ hp => hp)⟩
theorem R_true {e base : Nat} {ok : Nat → Prop} {w : World} {v : Value} {xs : List ByteArray} (h : Kd.R Kd.string e w base ok v xs) : Kd.R Kd.string e w base (fun _ => True) v xs := Kd.R_mono h (fun _ _ => trivial)
/-- A row of texts moves with its block. -/
theorem R_keepS {e base : Nat} {ok : Nat → Prop} {w w' : World} {v : Value} {xs : List ByteArray} (h : Kd.R Kd.string e w base ok v xs) (hs : ∀ b, v.ownBlock = some b → base ≤ b → b < w.heap.size → w'.heap[b]? = w.heap[b]?) : Kd.R Kd.string e w' base (fun _ => True) v xs :=
  Kd.R_mono (Kd.R_move (Kd.R_bound (R_self h)) (fun k hk => hs k hk.1 hk.2.1 hk.2.2.1)) (fun _ _ => trivial)
theorem R_oneS (w : World) (base : Nat) (hb : base ≤ w.heap.size) (s : ByteArray) : Kd.R Kd.string 9 (w.alloc (.cells #[.string s] 9)) base (fun _ => True) (.slice (some ⟨w.heap.size, 0, none⟩) 1 1) [s] :=
  ⟨fun _ _ => trivial, [.string s], ⟨rfl, .inr ⟨w.heap.size, 1, #[.string s], rfl, hb, heap_alloc_new w _, Nat.le_refl _, by decide, rfl, rfl⟩⟩, by
    refine ⟨rfl, fun j p hj => ?_⟩
    cases j with
    | zero => cases hj; rfl
    | succ j => simp at hj⟩
/-- The store, and what was told of each sector. -/
structure HAt (lo up cx : Nat) (d : Nat → ByteArray) (m : Nat → ByteArray → Bool) (P B cap : Nat) (mb : Nat → Nat) (T : Nat) (tv : Nat → Value) (tl : Nat → List ByteArray) (w0 w : World) : Prop where
  s : SAt lo up geo0 4 cx d m P B cap mb w
  tb : w.heap[T]? = some (.cells #[tv 0, tv 1, tv 2, tv 3] 29 (0, 0))
  row : ∀ k, k < 4 → Kd.R Kd.string 9 w up (fun _ => True) (tv k) (tl k)
  sep : ∀ j k, j < 4 → k < 4 → j ≠ k → ∀ b, (tv j).ownBlock = some b → (tv k).ownBlock ≠ some b
  tT : up ≤ T
  lz : w0.heap.size ≤ lo
  bel : Below w0.heap.size w0 w
section
variable {lo up cx cx' : Nat} {d d' : Nat → ByteArray} {m m' : Nat → ByteArray → Bool} {P B cap : Nat} {mb : Nat → Nat} {T : Nat} {tv : Nat → Value} {tl : Nat → List ByteArray} {w0 w w' W : World}
theorem HAt.store (h : HAt lo up cx d m P B cap mb T tv tl w0 w) (hs : SAt lo up geo0 4 cx' d' m' P B cap mb w') (hC : Ch (Blk lo up) w w') : HAt lo up cx' d' m' P B cap mb T tv tl w0 w' := by
  have hk : ∀ b, up ≤ b → b < w.heap.size → w'.heap[b]? = w.heap[b]? := fun b h1 h2 => hC.block b h2 (fun h => by have := h.2; omega)
  refine ⟨hs, (hk T h.tT (blk_lt h.tb)).trans h.tb, fun k hk4 => R_keepS (h.row k hk4) (fun b _ h1 h2 => hk b h1 h2), h.sep, h.tT, h.lz, h.bel.trans (hC.below h.bel.size (fun k hk => Nat.le_trans h.lz hk.1))⟩
theorem HAt.below (h : HAt lo up cx d m P B cap mb T tv tl w0 w) (hb : Below w.heap.size w w') : HAt lo up cx d m P B cap mb T tv tl w0 w' := h.store (h.s.below hb) (Ch.of_below hb)
theorem HAt.alloc (h : HAt lo up cx d m P B cap mb T tv tl w0 w) (o : Obj) : HAt lo up cx d m P B cap mb T tv tl w0 (w.alloc o) := h.below ((Below.refl _ _).alloc (Nat.le_refl _) _)
theorem HAt.cell (h : HAt lo up cx d m P B cap mb T tv tl w0 w) {k : Nat} (hk : k < 4) : w.cell? ⟨T, k, none⟩ = some (tv k) ∧ w.frozen? ⟨T, k, none⟩ = false := by
  refine ⟨?_, blk_frozen h.tb k⟩
  rw [blk_cell h.tb k]
  match k, hk with
  | 0, _ => rfl
  | 1, _ => rfl
  | 2, _ => rfl
  | 3, _ => rfl
theorem HAt.cellG (h : HAt lo up cx d m P B cap mb T tv tl w0 w) {j : Nat} (hj : j < 4) (hg : w.grownBy w' (tv j).ownBlock) : w'.cell? ⟨T, j, none⟩ = some (tv j) ∧ w'.frozen? ⟨T, j, none⟩ = false := by
  have hT : w'.heap[T]? = some (.cells #[tv 0, tv 1, tv 2, tv 3] 29 (0, 0)) := blk_grown h.tb hg (Kd.R_ne (h.row j hj) h.tb (by decide))
  refine ⟨?_, blk_frozen hT j⟩
  rw [blk_cell hT j]
  match j, hj with
  | 0, _ => rfl
  | 1, _ => rfl
  | 2, _ => rfl
  | 3, _ => rfl
theorem HAt.told (h : HAt lo up cx d m P B cap mb T tv tl w0 w) {j : Nat} (hj : j < 4) (s : ByteArray) {v : Value}
    (ho : Kd.R Kd.string 9 w' up (fun _ => True) v (tl j ++ [s])) (hb2 : Below up w w') (hg : w.grownBy w' (tv j).ownBlock) (hat : v.ownBlock = (tv j).ownBlock ∨ ∃ b, v.ownBlock = some b ∧ w.heap.size ≤ b) :
    HAt lo up cx d m P B cap mb T (updV tv j v) (updL tl j s) w0 (w'.setCell ⟨T, j, none⟩ v) := by
  have hne : some T ≠ (tv j).ownBlock := Kd.R_ne (h.row j hj) h.tb (by decide)
  have hT : w'.heap[T]? = some (.cells #[tv 0, tv 1, tv 2, tv 3] 29 (0, 0)) := blk_grown h.tb hg hne
  have hup : up ≤ w.heap.size := h.s.hw
  have hfar : ∀ k, k ≠ T → (w'.setCell ⟨T, j, none⟩ v).heap[k]? = w'.heap[k]? := fun k hk => Below.heap_setCell _ _ _ _ hk
  refine ⟨?_, ?_, fun k hk => ?_, fun i k hi hk hik b hb => ?_, h.tT, h.lz, ?_⟩
  · refine (h.s.same hg.size (fun k hk => ?_)).same (by simp [World.setCell]) (fun k hk => hfar k (fun e => by have := hk.2; have := h.tT; omega))
    exact hb2.block k hk.2
  · refine blk_put hT j v ?_
    match j, hj with
    | 0, _ => rfl
    | 1, _ => rfl
    | 2, _ => rfl
    | 3, _ => rfl
  · have key : Kd.R Kd.string 9 w' up (fun _ => True) (updV tv j v k) (updL tl j s k) := by
      unfold updV updL
      by_cases hkj : k = j
      · subst hkj
        rw [if_pos rfl, if_pos rfl]
        exact ho
      · rw [if_neg hkj, if_neg hkj]
        exact R_keepS (h.row k hk) (fun b hb _ h2 => hg.block b h2 (fun e => h.sep j k hj hk (fun e2 => hkj e2.symm) b e.symm hb))
    exact R_keepS key (fun b hb _ _ => hfar b (fun e => Kd.R_ne key hT (by decide) (by rw [hb, e])))
  · have hlt : ∀ k (hk : k < 4) b, (tv k).ownBlock = some b → b < w.heap.size := fun k hk b hb => by
      obtain ⟨inner, ho'⟩ := Kd.R_own (h.row k hk)
      exact own_lt ho' b hb
    unfold updV at hb ⊢
    by_cases hij : i = j
    · rw [if_pos hij] at hb
      rw [if_neg (fun e => hik (hij.trans e.symm))]
      intro hb2'
      rcases hat with h1 | ⟨b1, h1, h2⟩
      · exact h.sep j k hj hk (fun e => hik (hij.trans e)) b (h1 ▸ hb) hb2'
      · rw [h1] at hb
        have := hlt k hk b hb2'
        have := Option.some.inj hb
        omega
    · rw [if_neg hij] at hb
      by_cases hkj : k = j
      · rw [if_pos hkj]
        intro hb2'
        rcases hat with h1 | ⟨b1, h1, h2⟩
        · exact h.sep i j hi hj hij b hb (h1 ▸ hb2')
        · rw [h1] at hb2'
          have := hlt i hi b hb
          have := Option.some.inj hb2'
          omega
      · rw [if_neg hkj]
        exact h.sep i k hi hk hik b hb
  · have h0 : w0.heap.size ≤ up := by have := h.lz; have := h.s.rP; omega
    exact (h.bel.trans (hb2.mono h0)).setCell (by show w0.heap.size ≤ T; have := h.tT; omega) _
/-- What was told is what a sector may hold. -/
structure HIn (d : Nat → ByteArray) (m : Nat → ByteArray → Bool) (tl : Nat → List ByteArray) (i : Nat) : Prop where
  may : ∀ k s, k < 4 → (m k s = true ↔ s ∈ tl k)
  held : ∀ k, k < 4 → d k ∈ tl k
  size : ∀ k s, k < 4 → s ∈ tl k → s.size = 64
  len : ∀ k, k < 4 → (tl k).length ≤ i + 1
theorem HIn.issue {i : Nat} (h : HIn d m tl i) {j : Nat} (hj : j < 4) {s : ByteArray} (hs : s.size = 64) : HIn d (updM m j (updB (m j) s)) (updL tl j s) (i + 1) := by
  refine ⟨fun k x hk => ?_, fun k hk => ?_, fun k x hk hx => ?_, fun k hk => ?_⟩
  · unfold updM updL
    by_cases hkj : k = j
    · subst hkj
      rw [if_pos rfl, if_pos rfl]
      unfold updB
      by_cases hx : x = s
      · rw [if_pos hx]; simp [hx]
      · rw [if_neg hx, h.may k x hk]; simp [hx]
    · rw [if_neg hkj, if_neg hkj]; exact h.may k x hk
  · unfold updL
    split
    · exact List.mem_append_left _ (h.held k hk)
    · exact h.held k hk
  · unfold updL at hx
    split at hx
    · rcases List.mem_append.1 hx with hx | hx
      · exact h.size k x hk hx
      · rw [List.mem_singleton.1 hx]; exact hs
    · exact h.size k x hk hx
  · unfold updL
    have := h.len k hk
    split
    · rw [List.length_append, List.length_singleton]; omega
    · omega
theorem HIn.write {i : Nat} (h : HIn d m tl i) {j : Nat} (hj : j < 4) {s : ByteArray} (hs : s.size = 64) : HIn (updD d j s) (updM m j (updB (m j) s)) (updL tl j s) (i + 1) := by
  have h1 := h.issue hj hs
  refine ⟨h1.may, fun k hk => ?_, h1.size, h1.len⟩
  unfold updD
  by_cases hkj : k = j
  · subst hkj
    rw [if_pos rfl]
    unfold updL
    rw [if_pos rfl]
    exact List.mem_append_right _ (List.mem_singleton.2 rfl)
  · rw [if_neg hkj]
    exact h1.held k hk
end
def tv0 (X0 X1 X2 X3 k : Nat) : Value := .slice (some ⟨if k = 0 then X0 else if k = 1 then X1 else if k = 2 then X2 else X3, 0, none⟩) 1 1
section
variable {lo up cx : Nat} {d : Nat → ByteArray} {m : Nat → ByteArray → Bool} {P B cap : Nat} {mb : Nat → Nat} {w0 w W : World}
theorem HAt.make {X0 X1 X2 X3 : Nat} {z : ByteArray} (hs : SAt lo up geo0 4 cx d m P B cap mb w) (r0 : Kd.R Kd.string 9 w up (fun _ => True) (.slice (some ⟨X0, 0, none⟩) 1 1) [z]) (r1 : Kd.R Kd.string 9 w up (fun _ => True) (.slice (some ⟨X1, 0, none⟩) 1 1) [z])
    (r2 : Kd.R Kd.string 9 w up (fun _ => True) (.slice (some ⟨X2, 0, none⟩) 1 1) [z]) (r3 : Kd.R Kd.string 9 w up (fun _ => True) (.slice (some ⟨X3, 0, none⟩) 1 1) [z]) (h01 : X0 < X1) (h12 : X1 < X2) (h23 : X2 < X3) (hlz : w0.heap.size ≤ lo) (hb : Below w0.heap.size w0 w) :
    HAt lo up cx d m P B cap mb w.heap.size (tv0 X0 X1 X2 X3) (fun _ => [z]) w0 (w.alloc (.cells #[.slice (some ⟨X0, 0, none⟩) 1 1, .slice (some ⟨X1, 0, none⟩) 1 1, .slice (some ⟨X2, 0, none⟩) 1 1, .slice (some ⟨X3, 0, none⟩) 1 1] 29)) := by
  have hbb := (Below.refl w.heap.size w).alloc (Nat.le_refl _) (.cells #[.slice (some ⟨X0, 0, none⟩) 1 1, .slice (some ⟨X1, 0, none⟩) 1 1, .slice (some ⟨X2, 0, none⟩) 1 1, .slice (some ⟨X3, 0, none⟩) 1 1] 29)
  refine ⟨hs.below hbb, heap_alloc_new w _, fun k hk => ?_, fun i j hi hj hij b hbi hbj => ?_, hs.hw, hlz, hb.trans (hbb.mono hb.size)⟩
  · match k, hk with
    | 0, _ => exact Kd.R_below r0 hbb
    | 1, _ => exact Kd.R_below r1 hbb
    | 2, _ => exact Kd.R_below r2 hbb
    | 3, _ => exact Kd.R_below r3 hbb
  · unfold tv0 at hbi hbj
    simp only [Value.ownBlock, Option.some.injEq] at hbi hbj
    have h1 := hbi.trans hbj.symm
    split at h1 <;> split at h1 <;> (try split at h1) <;> (try split at h1) <;> (try split at h1) <;> (try split at h1) <;> omega
end
theorem blw_quiet (a n : Int) (hn : 0 < n) (h2 : n ≤ 1000) (w : World) : ∀ j, Calls Try.prog 23 #[.int .i64 a, .int .i64 n] (w.drewN j) fun e w'' => e = .returned (.int .i64 (blw a n)) ∧ ∃ m, w'' = w.drewN m := fun j =>
  Calls.quiet_of ((decklebook_Below.calls a n _ (w.drewN j) (blw_f a n hn h2).1).mono fun e w' h => ⟨h.1, h.2.out⟩)
/-- .. and what is to be told of a cut. -/
structure GAt (lo up cx : Nat) (d : Nat → ByteArray) (m : Nat → ByteArray → Bool) (P B cap : Nat) (mb : Nat → Nat) (T : Nat) (tv : Nat → Value) (tl : Nat → List ByteArray) (hv : Value) (hl : List ByteArray) (w0 w : World) : Prop where
  h : HAt lo up cx d m P B cap mb T tv tl w0 w
  hr : Kd.R Kd.string 9 w up (fun _ => True) hv hl
  hs : ∀ k, k < 4 → ∀ b, (tv k).ownBlock = some b → hv.ownBlock ≠ some b
section
variable {lo up cx cx' : Nat} {d d' : Nat → ByteArray} {m m' : Nat → ByteArray → Bool} {P B cap : Nat} {mb : Nat → Nat} {T : Nat} {tv : Nat → Value} {tl : Nat → List ByteArray} {hv : Value} {hl : List ByteArray} {w0 w w' W : World}
theorem GAt.store (h : GAt lo up cx d m P B cap mb T tv tl hv hl w0 w) (hs : SAt lo up geo0 4 cx' d' m' P B cap mb w') (hC : Ch (Blk lo up) w w') : GAt lo up cx' d' m' P B cap mb T tv tl hv hl w0 w' :=
  ⟨h.h.store hs hC, R_keepS h.hr (fun b _ h1 h2 => hC.block b h2 (fun h => by have := h.2; omega)), h.hs⟩
theorem GAt.below (h : GAt lo up cx d m P B cap mb T tv tl hv hl w0 w) (hb : Below w.heap.size w w') : GAt lo up cx d m P B cap mb T tv tl hv hl w0 w' := h.store (h.h.s.below hb) (Ch.of_below hb)
theorem GAt.push (h : GAt lo up cx d m P B cap mb T tv tl hv hl w0 w) (s : ByteArray) {v : Value}
    (ho : Kd.R Kd.string 9 w' up (fun _ => True) v (hl ++ [s])) (hb2 : Below up w w') (hg : w.grownBy w' hv.ownBlock) (hat : v.ownBlock = hv.ownBlock ∨ ∃ b, v.ownBlock = some b ∧ w.heap.size ≤ b) :
    GAt lo up cx d m P B cap mb T tv tl v (hl ++ [s]) w0 w' := by
  have h0 : w0.heap.size ≤ up := by have := h.h.lz; have := h.h.s.rP; omega
  have hlt : ∀ k (hk : k < 4) b, (tv k).ownBlock = some b → b < w.heap.size := fun k hk b hb => by
    obtain ⟨inner, ho'⟩ := Kd.R_own (h.h.row k hk)
    exact own_lt ho' b hb
  refine ⟨⟨h.h.s.same hg.size (fun k hk => hb2.block k hk.2), blk_grown h.h.tb hg (Kd.R_ne h.hr h.h.tb (by decide)), fun k hk => R_keepS (h.h.row k hk) (fun b hb _ h2 => hg.block b h2 (fun e => h.hs k hk b hb e.symm)), h.h.sep, h.h.tT, h.h.lz, h.h.bel.trans (hb2.mono h0)⟩, ho, fun k hk b hb e => ?_⟩
  rcases hat with h1 | ⟨b1, h1, h2⟩
  · exact h.hs k hk b hb (h1 ▸ e)
  · rw [h1] at e
    have := hlt k hk b hb
    have := Option.some.inj e
    omega
/-- A text that was told. -/
theorem HAt.toldAt (h : HAt lo up cx d m P B cap mb T tv tl w0 w) {k : Nat} (hk : k < 4) {n : Nat} (hn : n < (tl k).length) : ∃ g c, tv k = .slice (some ⟨g, 0, none⟩) (tl k).length c ∧ w.cell? ⟨g, n, none⟩ = some (.string (sd (tl k) n)) := by
  obtain ⟨g, c, e, _⟩ := Kd.R_form (h.row k hk) (by omega)
  have hC := (Kd.R_reads' (e ▸ h.row k hk)).2.2
  obtain ⟨ad, e2, hc⟩ := at_str hC n hn
  cases e2
  rw [add_plain] at hc
  exact ⟨g, c, e, hc⟩
theorem HAt.toldIs (h : HAt lo up cx d m P B cap mb T tv tl w0 w) {k : Nat} (hk : k < 4) {n : Nat} (hn : n < (tl k).length) {g c : Nat} (hv : tv k = .slice (some ⟨g, 0, none⟩) (tl k).length c) : w.cell? ⟨T, k, none⟩ = some (.slice (some ⟨g, 0, none⟩) (tl k).length c) ∧ w.cell? ⟨g, n, none⟩ = some (.string (sd (tl k) n)) := by
  refine ⟨by rw [(h.cell hk).1, hv], ?_⟩
  obtain ⟨g', c', e, hc⟩ := h.toldAt hk hn
  rw [hv] at e
  injection e with e1 e2 e3
  injection e1 with e1
  injection e1 with e1
  rw [e1]
  exact hc
theorem GAt.heldAt (h : GAt lo up cx d m P B cap mb T tv tl hv hl w0 w) {n : Nat} (hn : n < hl.length) : ∃ g c, hv = .slice (some ⟨g, 0, none⟩) hl.length c ∧ w.cell? ⟨g, n, none⟩ = some (.string (sd hl n)) := by
  obtain ⟨g, c, e, _⟩ := Kd.R_form h.hr (by omega)
  have hC := (Kd.R_reads' (e ▸ h.hr)).2.2
  obtain ⟨ad, e2, hc⟩ := at_str hC n hn
  cases e2
  rw [add_plain] at hc
  exact ⟨g, c, e, hc⟩
theorem sd_snoc_lt {l : List ByteArray} {s : ByteArray} {k : Nat} (h : k < l.length) : sd (l ++ [s]) k = sd l k := by
  rw [sd_get (by rw [List.length_append]; omega), sd_get h, List.getElem_append_left h]
theorem sd_snoc {l : List ByteArray} {s : ByteArray} : sd (l ++ [s]) l.length = s := by
  rw [sd_get (by rw [List.length_append, List.length_singleton]; omega), List.getElem_append_right (Nat.le_refl _)]
  simp
theorem sd_mem {l : List ByteArray} {k : Nat} (h : k < l.length) : sd l k ∈ l := by
  rw [sd_get h]
  exact List.getElem_mem h
end
section
variable {lo up : Nat} {g : G6} {n cx : Nat} {d : Nat → ByteArray} {m : Nat → ByteArray → Bool} {P B cap : Nat} {mb : Nat → Nat} {w w' : World}
theorem SAt.drewN (h : SAt lo up g n cx d m P B cap mb w) (j : Nat) : SAt lo up g n cx d m P B cap mb (w.drewN j) := h.same (Nat.le_refl _) (fun _ _ => rfl)
theorem may_quiet (H : Aside0 (SAt lo up g n cx d m P B cap mb w)) (i : Nat) (hi : i < n) (s : ByteArray) (hs : s.size ≤ maxLen) (b : Bool) (hb : m i s = b) :
    ∀ j, Calls Try.prog 19 #[.pointer (some ⟨P, 0, none⟩), .int .i64 (i : Int), .string s] (w.drewN j) fun e w'' => e = .returned (.bool b) ∧ ∃ k, w'' = w.drewN k := fun j =>
  (may_text (Aside0.mk (H.out.drewN j)) i hi s hs b hb).mono fun e w' h => ⟨h.1, j, h.2⟩
theorem bytes_ne {x y : ByteArray} (h : x ≠ y) : (x.toList == y.toList) = false := by
  rw [beq_eq_false_iff_ne]
  intro h2
  apply h
  rw [ByteArray.toList_eq, ByteArray.toList_eq] at h2
  exact ByteArray.ext (Array.toList_inj.mp h2)
end
end Go.Proofs.Ytmpfadiehakcgaa.PQ
