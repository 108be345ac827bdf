/- The document's functions, walked. -/
import Derived.Test.YtmpfadiehakcgaaRefPure
namespace Go.Proofs.Ytmpfadiehakcgaa.PQ
open Go.RowKit Go.Proofs.YtmpfadiehakcgaaW.PrintWords Go.Proofs.YtmpfadiehakcgaaW.PrintLast Go.Proofs.YtmpfadiehakcgaaW.PrintMore
set_option linter.unusedVariables false
set_option linter.unusedSimpArgs false
def encD (g : G6) (v1 v2 : Value) : Value := .agg #[.int .i64 g.f0, .int .i64 g.f1, .int .i64 g.f2, .int .i64 g.f3, .int .i64 g.f4, .int .i64 g.f5, v1, v2]
def boxD (g : G6) (v1 v2 : Value) : Obj := .cells #[.int .i64 g.f0, .int .i64 g.f1, .int .i64 g.f2, .int .i64 g.f3, .int .i64 g.f4, .int .i64 g.f5, v1, v2] 32
def zeroD : Obj := .cells #[.int .i64 0, .int .i64 0, .int .i64 0, .int .i64 0, .int .i64 0, .int .i64 0, .slice none 0 0, .slice none 0 0] 32
/-- The document's rows. -/
structure RAt (up : Nat) (v1 v2 : Value) (l1 : List ByteArray) (l2 : List S69) (w : World) : Prop where
  r1 : Kd.R Kd.string 9 w up (fun _ => True) v1 l1
  r2 : Kd.R k69 69 w up (fun _ => True) v2 l2
  hw : up ≤ w.heap.size
section
variable {up : Nat} {v1 v2 : Value} {l1 : List ByteArray} {l2 : List S69} {g : G6} {w w' : World}
theorem RAt.keep (h : RAt up v1 v2 l1 l2 w) (hz : w.heap.size ≤ w'.heap.size) (hs : ∀ b, up ≤ b → b < w.heap.size → (∃ cs t, w.heap[b]? = some (.cells cs t (0, 0)) ∧ (t = 9 ∨ t = 69)) → w'.heap[b]? = w.heap[b]?) : RAt up v1 v2 l1 l2 w' := by
  refine ⟨?_, ?_, Nat.le_trans h.hw hz⟩
  · refine Kd.R_mono (Kd.R_move (Kd.R_bound h.r1) (fun k hk => ?_)) (fun _ _ => trivial)
    obtain ⟨_, h1, h2, q, hq, cs, hc⟩ := hk
    exact hs k h1 h2 ⟨cs, q, hc, .inl (by simpa [Kd.string, Kd.scalar] using hq)⟩
  · refine Kd.R_mono (Kd.R_move (Kd.R_bound h.r2) (fun k hk => ?_)) (fun _ _ => trivial)
    obtain ⟨_, h1, h2, q, hq, cs, hc⟩ := hk
    exact hs k h1 h2 ⟨cs, q, hc, .inr (by simpa [k69, Kd.iso, Kd.pair, Kd.int, Kd.string, Kd.scalar] using hq)⟩
theorem RAt.below (h : RAt up v1 v2 l1 l2 w) (hb : Below w.heap.size w w') : RAt up v1 v2 l1 l2 w' := h.keep hb.size (fun b _ h2 _ => hb.block b h2)
theorem RAt.alloc (h : RAt up v1 v2 l1 l2 w) (o : Obj) : RAt up v1 v2 l1 l2 (w.alloc o) := h.below ((Below.refl _ _).alloc (Nat.le_refl _) _)
/-- A box of eight cells is filled. -/
def put8 (w : World) (b : Nat) (x0 x1 x2 x3 x4 x5 x6 x7 : Value) : World :=
  (((((((w.setCell ⟨b, 0, none⟩ x0).setCell ⟨b, 1, none⟩ x1).setCell ⟨b, 2, none⟩ x2).setCell ⟨b, 3, none⟩ x3).setCell ⟨b, 4, none⟩ x4).setCell ⟨b, 5, none⟩ x5).setCell ⟨b, 6, none⟩ x6).setCell ⟨b, 7, none⟩ x7
theorem put8_at {b : Nat} {t : TypeId} {a0 a1 a2 a3 a4 a5 a6 a7 x0 x1 x2 x3 x4 x5 x6 x7 : Value} (h : w.heap[b]? = some (.cells #[a0, a1, a2, a3, a4, a5, a6, a7] t (0, 0))) : (put8 w b x0 x1 x2 x3 x4 x5 x6 x7).heap[b]? = some (.cells #[x0, x1, x2, x3, x4, x5, x6, x7] t (0, 0)) := by
  unfold put8
  refine blk_put (cs := #[x0, x1, x2, x3, x4, x5, x6, a7]) ?_ 7 x7 rfl
  refine blk_put (cs := #[x0, x1, x2, x3, x4, x5, a6, a7]) ?_ 6 x6 rfl
  refine blk_put (cs := #[x0, x1, x2, x3, x4, a5, a6, a7]) ?_ 5 x5 rfl
  refine blk_put (cs := #[x0, x1, x2, x3, a4, a5, a6, a7]) ?_ 4 x4 rfl
  refine blk_put (cs := #[x0, x1, x2, a3, a4, a5, a6, a7]) ?_ 3 x3 rfl
  refine blk_put (cs := #[x0, x1, a2, a3, a4, a5, a6, a7]) ?_ 2 x2 rfl
  refine blk_put (cs := #[x0, a1, a2, a3, a4, a5, a6, a7]) ?_ 1 x1 rfl
  exact blk_put h 0 x0 rfl
theorem put8_far {b k : Nat} (hk : k ≠ b) {x0 x1 x2 x3 x4 x5 x6 x7 : Value} : (put8 w b x0 x1 x2 x3 x4 x5 x6 x7).heap[k]? = w.heap[k]? := by
  unfold put8
  rw [Below.heap_setCell _ _ _ _ hk, Below.heap_setCell _ _ _ _ hk, Below.heap_setCell _ _ _ _ hk, Below.heap_setCell _ _ _ _ hk, Below.heap_setCell _ _ _ _ hk, Below.heap_setCell _ _ _ _ hk, Below.heap_setCell _ _ _ _ hk, Below.heap_setCell _ _ _ _ hk]
theorem put8_size {b : Nat} {x0 x1 x2 x3 x4 x5 x6 x7 : Value} : (put8 w b x0 x1 x2 x3 x4 x5 x6 x7).heap.size = w.heap.size := by simp [put8, World.setCell]
theorem put8_below {n b : Nat} {w0 : World} (h : Below n w0 w) (hb : n ≤ b) {x0 x1 x2 x3 x4 x5 x6 x7 : Value} : Below n w0 (put8 w b x0 x1 x2 x3 x4 x5 x6 x7) :=
  (((((((h.setCell hb _).setCell hb _).setCell hb _).setCell hb _).setCell hb _).setCell hb _).setCell hb _).setCell hb _
theorem RAt.put8 (h : RAt up v1 v2 l1 l2 w) {b : Nat} {cs : Array Value} (hb : w.heap[b]? = some (.cells cs 32 (0, 0))) {x0 x1 x2 x3 x4 x5 x6 x7 : Value} : RAt up v1 v2 l1 l2 (put8 w b x0 x1 x2 x3 x4 x5 x6 x7) := by
  refine h.keep (by rw [put8_size]; exact Nat.le_refl _) (fun k _ _ ⟨cs', t, hc, ht⟩ => put8_far ?_)
  rintro rfl
  rw [hb] at hc
  injection hc with hc
  injection hc with _ hc
  subst hc
  rcases ht with ht | ht <;> exact absurd ht (by decide)
theorem cells8 {b : Nat} {t : TypeId} {x0 x1 x2 x3 x4 x5 x6 x7 : Value} (h : w.heap[b]? = some (.cells #[x0, x1, x2, x3, x4, x5, x6, x7] t (0, 0))) : w.cell? ⟨b, 0, none⟩ = some x0 ∧ w.cell? ⟨b, 1, none⟩ = some x1 ∧ w.cell? ⟨b, 2, none⟩ = some x2 ∧ w.cell? ⟨b, 3, none⟩ = some x3 ∧ w.cell? ⟨b, 4, none⟩ = some x4 ∧ w.cell? ⟨b, 5, none⟩ = some x5 ∧ w.cell? ⟨b, 6, none⟩ = some x6 ∧ w.cell? ⟨b, 7, none⟩ = some x7 :=
  ⟨blk_cell h 0, blk_cell h 1, blk_cell h 2, blk_cell h 3, blk_cell h 4, blk_cell h 5, blk_cell h 6, blk_cell h 7⟩
theorem frozen8 {b : Nat} {t : TypeId} {cs : Array Value} (h : w.heap[b]? = some (.cells cs t (0, 0))) : w.frozen? ⟨b, 0, none⟩ = false ∧ w.frozen? ⟨b, 1, none⟩ = false ∧ w.frozen? ⟨b, 2, none⟩ = false ∧ w.frozen? ⟨b, 3, none⟩ = false ∧ w.frozen? ⟨b, 4, none⟩ = false ∧ w.frozen? ⟨b, 5, none⟩ = false ∧ w.frozen? ⟨b, 6, none⟩ = false ∧ w.frozen? ⟨b, 7, none⟩ = false :=
  ⟨blk_frozen h 0, blk_frozen h 1, blk_frozen h 2, blk_frozen h 3, blk_frozen h 4, blk_frozen h 5, blk_frozen h 6, blk_frozen h 7⟩
set_option maxHeartbeats 8000000 in
set_option maxRecDepth 100000 in
theorem rissue_no (H : Aside0 (RAt up v1 v2 l1 l2 w)) (a : Int) (s : ByteArray) (r : Int) (hr : r = issC l1.length g a s) (hc : r ≠ 0) :
    Calls Try.prog 13 #[encD g v1 v2, .int .i64 a, .string s] w fun e w' => e = .returned (.tuple #[encD g v1 v2, .int .i64 r]) ∧ Below w.heap.size w w' := by
  obtain ⟨A1, c1, rfl⟩ := Kd.R_slice H.out.r1
  obtain ⟨A2, c2, rfl⟩ := Kd.R_slice H.out.r2
  clear H
  have hu32 := Try.underlying32
  have hB := Aside0.mk (((Below.refl w.heap.size w).alloc (Nat.le_refl _) (boxD g (.slice A1 l1.length c1) (.slice A2 l2.length c2))).alloc (by rw [World.size_alloc]; omega) zeroD)
  have hb3 := blk_alloc (heap_alloc_new w (boxD g (.slice A1 l1.length c1) (.slice A2 l2.length c2))) zeroD
  have hb6 := heap_alloc_new (w.alloc (boxD g (.slice A1 l1.length c1) (.slice A2 l2.length c2))) zeroD
  rw [World.size_alloc] at hb6
  unfold encD
  unfold boxD zeroD at *
  unfold issC at hr
  replace hr := Lib.hid hr
  replace hc := Lib.hid hc
  go_enter Try.func13, Try.ntmps13
  go_upto_region 1 with (fail)
  obtain ⟨d0, d1, d2, d3, d4, d5, d6, d7⟩ := cells8 hb3
  obtain ⟨e0, e1, e2, e3, e4, e5, e6, e7⟩ := cells8 hb6
  obtain ⟨f0, f1, f2, f3, f4, f5, f6, f7⟩ := frozen8 hb6
  replace hb6 := Aside0.mk hb6
  clear hb3
  generalize (w.alloc (.cells #[.int .i64 g.f0, .int .i64 g.f1, .int .i64 g.f2, .int .i64 g.f3, .int .i64 g.f4, .int .i64 g.f5, .slice A1 l1.length c1, .slice A2 l2.length c2] 32)).alloc (.cells #[.int .i64 0, .int .i64 0, .int .i64 0, .int .i64 0, .int .i64 0, .int .i64 0, .slice none 0 0, .slice none 0 0] 32) = W2 at *
  by_cases h0 : a < 0
  · have z0 : decide (a < 0) = true := decide_eq_true h0
    obtain rfl : r = 1 := by rw [hr.out, show inR l1.length a = false from decide_eq_false (fun h => by omega)]; rfl
    clear hr hc
    go_wp2
    refine bodyPost_ret (v := .tuple #[.agg #[.int .i64 g.f0, .int .i64 g.f1, .int .i64 g.f2, .int .i64 g.f3, .int .i64 g.f4, .int .i64 g.f5, .slice A1 l1.length c1, .slice A2 l2.length c2], .int .i64 1]) ?_ rfl ?_
    · exact results_list (rs := [.cell 6 32, .tmp 7]) rfl (by simp) (.cell (w.heap.size + 1) 32 #[.int .i64 g.f0, .int .i64 g.f1, .int .i64 g.f2, .int .i64 g.f3, .int .i64 g.f4, .int .i64 g.f5, .slice A1 l1.length c1, .slice A2 l2.length c2] (0, 0) _ rfl (put8_at hb6.out) hu32 rfl (by kernel_rfl) (.tmp .nil))
    · exact ⟨rfl, put8_below hB.out (by omega)⟩
  have z0 : decide (a < 0) = false := decide_eq_false h0
  by_cases h1 : a ≥ (l1.length : Int)
  · have z1 : decide (a ≥ (l1.length : Int)) = true := decide_eq_true h1
    obtain rfl : r = 1 := by rw [hr.out, show inR l1.length a = false from decide_eq_false (fun h => by omega)]; rfl
    clear hr hc
    go_wp2
    refine bodyPost_ret (v := .tuple #[.agg #[.int .i64 g.f0, .int .i64 g.f1, .int .i64 g.f2, .int .i64 g.f3, .int .i64 g.f4, .int .i64 g.f5, .slice A1 l1.length c1, .slice A2 l2.length c2], .int .i64 1]) ?_ rfl ?_
    · exact results_list (rs := [.cell 6 32, .tmp 7]) rfl (by simp) (.cell (w.heap.size + 1) 32 #[.int .i64 g.f0, .int .i64 g.f1, .int .i64 g.f2, .int .i64 g.f3, .int .i64 g.f4, .int .i64 g.f5, .slice A1 l1.length c1, .slice A2 l2.length c2] (0, 0) _ rfl (put8_at hb6.out) hu32 rfl (by kernel_rfl) (.tmp .nil))
    · exact ⟨rfl, put8_below hB.out (by omega)⟩
  have z1 : decide (a ≥ (l1.length : Int)) = false := decide_eq_false h1
  have hin : inR l1.length a = true := decide_eq_true ⟨by omega, by omega⟩
  by_cases h2 : (s.size : Int) = g.f2
  · exact absurd (by rw [hr.out, hin, if_pos rfl, if_pos h2]) hc.out
  · have z2 : ((s.size : Int) != g.f2) = true := by rw [bne_iff_ne]; exact h2
    obtain rfl : r = 2 := by rw [hr.out, hin, if_pos rfl, if_neg h2]
    clear hr hc hin
    go_wp2
    refine bodyPost_ret (v := .tuple #[.agg #[.int .i64 g.f0, .int .i64 g.f1, .int .i64 g.f2, .int .i64 g.f3, .int .i64 g.f4, .int .i64 g.f5, .slice A1 l1.length c1, .slice A2 l2.length c2], .int .i64 2]) ?_ rfl ?_
    · exact results_list (rs := [.cell 6 32, .tmp 7]) rfl (by simp) (.cell (w.heap.size + 1) 32 #[.int .i64 g.f0, .int .i64 g.f1, .int .i64 g.f2, .int .i64 g.f3, .int .i64 g.f4, .int .i64 g.f5, .slice A1 l1.length c1, .slice A2 l2.length c2] (0, 0) _ rfl (put8_at hb6.out) hu32 rfl (by kernel_rfl) (.tmp .nil))
    · exact ⟨rfl, put8_below hB.out (by omega)⟩
theorem k69_KM {W w : World} {base : Nat} {ok : Nat → Prop} (x : S69) (cs : List Value) (h : k69.K W x cs) : k69.M w base ok x cs := by
  rw [k69_open h]
  exact k69_mkM _ _ _ x
set_option maxHeartbeats 8000000 in
set_option maxRecDepth 100000 in
theorem rissue_at (H : Aside0 (RAt up v1 v2 l1 l2 w)) (i : Nat) (hi : i < l1.length) (s : ByteArray) (hs : (s.size : Int) = g.f2) (hl1 : l1.length ≤ 100000) (hl2 : l2.length ≤ 1000000) :
    Calls Try.prog 13 #[encD g v1 v2, .int .i64 (i : Int), .string s] w fun e w' => ∃ v2', e = .returned (.tuple #[encD g v1 v2', .int .i64 0]) ∧ Aside0 (RAt up v1 v2' l1 (l2 ++ [⟨(i : Int), s⟩]) w') ∧ Below w.heap.size w w' := by
  obtain ⟨A1, c1, rfl⟩ := Kd.R_slice H.out.r1
  obtain ⟨A2, c2, rfl⟩ := Kd.R_slice H.out.r2
  have hu32 := Try.underlying32
  have hB := Aside0.mk (((Below.refl w.heap.size w).alloc (Nat.le_refl _) (boxD g (.slice A1 l1.length c1) (.slice A2 l2.length c2))).alloc (by rw [World.size_alloc]; omega) zeroD)
  have hb3 := blk_alloc (heap_alloc_new w (boxD g (.slice A1 l1.length c1) (.slice A2 l2.length c2))) zeroD
  have hb6 := heap_alloc_new (w.alloc (boxD g (.slice A1 l1.length c1) (.slice A2 l2.length c2))) zeroD
  rw [World.size_alloc] at hb6
  have hC2 := Aside0.mk (Kd.C_below (Kd.R_reads' H.out.r2).2.2 hB.out)
  have hup := Lib.hid H.out.hw
  unfold encD
  unfold boxD zeroD at *
  go_enter Try.func13, Try.ntmps13
  go_upto_region 1 with (fail)
  obtain ⟨d0, d1, d2, d3, d4, d5, d6, d7⟩ := cells8 hb3
  obtain ⟨e0, e1, e2, e3, e4, e5, e6, e7⟩ := cells8 hb6
  obtain ⟨f0, f1, f2, f3, f4, f5, f6, f7⟩ := frozen8 hb6
  replace hb6 := Aside0.mk hb6
  replace hb3 := Aside0.mk hb3
  generalize (w.alloc (.cells #[.int .i64 g.f0, .int .i64 g.f1, .int .i64 g.f2, .int .i64 g.f3, .int .i64 g.f4, .int .i64 g.f5, .slice A1 l1.length c1, .slice A2 l2.length c2] 32)).alloc (.cells #[.int .i64 0, .int .i64 0, .int .i64 0, .int .i64 0, .int .i64 0, .int .i64 0, .slice none 0 0, .slice none 0 0] 32) = W2 at *
  have z0 : decide ((i : Int) < 0) = false := decide_eq_false (by omega)
  have z1 : decide ((i : Int) ≥ (l1.length : Int)) = false := decide_eq_false (by omega)
  have z2 : ((s.size : Int) != g.f2) = false := by rw [bne_eq_false_iff_eq]; exact hs
  clear hs
  go_upto_region 7 with (first | ((with_reducible refine gate_builtin (b := .append) (xs := #[.tmp 26, .tmp 28]) rfl ?_); at_builtin; refine Kd.R_append_rows (P := Try.prog) (w0 := w) k69 w.heap.size (by rfl) (.tmp 26) (.tmp 28) 30 69 (.agg #[(.int .i64 0), (.string ⟨#[]⟩)]) 24 (by rfl) Try.underlying30 info69 rfl (by decide) (by decide) (.slice none 0 0) [] l2 A2 l2.length c2 (fun _ => True) (fun _ => False) (by rfl) (by rfl) (Kd.R_nil _ _ _ _ _) hC2.out k69_KM (fun _ hk => hk.elim) (fun _ _ => trivial) hB.out hB.out.size (by simp; omega) ?_; intro v1 w3 ho hb hg hat; have HO := Aside0.mk ho; have HB3 := Aside0.mk hb; have hx3 := Aside0.mk (blk_grown hb3.out hg (by simp [Value.ownBlock])); have hx6 := Aside0.mk (blk_grown hb6.out hg (by simp [Value.ownBlock])); clear ho hb hg hat d0 d1 d2 d3 d4 d5 d6 d7 e0 e1 e2 e3 e4 e5 e6 e7 f0 f1 f2 f3 f4 f5 f6 f7) | fail)
  replace HO := Aside0.mk (show Kd.R k69 69 w3 w.heap.size (fun _ => True) v1 l2 from HO.out)
  clear hC2 hB hb3 hb6
  go_upto_region 8 with (first | ((with_reducible refine gate_builtin (b := .append) (xs := #[.tmp 30, .tmp 34]) rfl ?_); at_builtin; refine Kd.R_append k69 (w0 := w) w.heap.size rfl (.tmp 30) (.tmp 34) 30 69 (.agg #[(.int .i64 0), (.string ⟨#[]⟩)]) 24 rfl Try.underlying30 info69 rfl (by decide) (by omega) v1 l2 ⟨(i : Int), s⟩ [.int .i64 (i : Int), .string s] (fun _ => True) (fun _ => False) rfl rfl ?aP (fun _ hk => hk.elim) ?aF ?aO ?aB ?aS ?aL ?_; (case aP => exact k69_mkM _ _ _ ⟨(i : Int), s⟩); (case aF => exact (fun _ _ => trivial)); (case aO => exact HO.out); (case aB => exact HB3.out); (case aS => exact HB3.out.size); (case aL => omega); intro v3 w8 ho hb hg hat; obtain ⟨A3, c3, he⟩ := Kd.R_slice ho; rw [List.length_append, List.length_singleton] at he; subst he; have hy3 := blk_grown hx3.out hg (Kd.R_ne HO.out hx3.out (by decide)); have hy6 := Aside0.mk (blk_grown hx6.out hg (Kd.R_ne HO.out hx6.out (by decide))); have g7 : w8.cell? ⟨w.heap.size, 7, none⟩ = some (.slice A2 l2.length c2) := blk_cell hy3 7; have k7 : w8.frozen? ⟨w.heap.size, 7, none⟩ = false := blk_frozen hy3 7; replace hy3 := Aside0.mk hy3; have HO8 := Aside0.mk ho; have HB8 := Aside0.mk hb; clear ho hb hg hat) | fail)
  have hz3 := blk_put hy3.out 7 (.slice A3 (l2.length + 1) c3) rfl
  have hz6 : (w8.setCell ⟨w.heap.size, 7, none⟩ (.slice A3 (l2.length + 1) c3)).heap[w.heap.size + 1]? = _ := (Below.heap_setCell _ _ _ _ (by show w.heap.size + 1 ≠ w.heap.size; omega)).trans hy6.out
  have hlen : (l2 ++ [(⟨(i : Int), s⟩ : S69)]).length = l2.length + 1 := by rw [List.length_append, List.length_singleton]
  have HO9 := Aside0.mk (Kd.R_set HO8.out hy3.out (by decide) 7 (.slice A3 (l2.length + 1) c3))
  have HB9 := Aside0.mk (HB8.out.setCell (p := ⟨w.heap.size, 7, none⟩) (Nat.le_refl _) (.slice A3 (l2.length + 1) c3))
  generalize w8.setCell ⟨w.heap.size, 7, none⟩ (.slice A3 (l2.length + 1) c3) = W9 at *
  obtain ⟨d0, d1, d2, d3, d4, d5, d6, d7⟩ := cells8 hz3
  obtain ⟨e0, e1, e2, e3, e4, e5, e6, e7⟩ := cells8 hz6
  obtain ⟨f0, f1, f2, f3, f4, f5, f6, f7⟩ := frozen8 hz6
  have hr1 := Aside0.mk (Kd.R_below H.out.r1 HB9.out)
  clear g7 k7 hy3 hy6 HB8 HO8 hx3 hx6 HO HB3 H hlen
  replace hz3 := Aside0.mk hz3
  replace hz6 := Aside0.mk hz6
  go_wp2
  refine bodyPost_ret (v := .tuple #[.agg #[.int .i64 g.f0, .int .i64 g.f1, .int .i64 g.f2, .int .i64 g.f3, .int .i64 g.f4, .int .i64 g.f5, .slice A1 l1.length c1, .slice A3 (l2.length + 1) c3], .int .i64 0]) ?_ rfl ?_
  · exact results_list (rs := [.cell 6 32, .tmp 7]) rfl (by simp) (.cell (w.heap.size + 1) 32 #[.int .i64 g.f0, .int .i64 g.f1, .int .i64 g.f2, .int .i64 g.f3, .int .i64 g.f4, .int .i64 g.f5, .slice A1 l1.length c1, .slice A3 (l2.length + 1) c3] (0, 0) _ rfl (put8_at hz6.out) hu32 rfl (by kernel_rfl) (.tmp .nil))
  · have hR : RAt up (.slice A1 l1.length c1) (.slice A3 (l2.length + 1) c3) l1 (l2 ++ [⟨(i : Int), s⟩]) W9 := ⟨hr1.out, Kd.R_lower HO9.out hup.out, Nat.le_trans hup.out HB9.out.size⟩
    exact ⟨.slice A3 (l2.length + 1) c3, rfl, ⟨hR.put8 hz6.out⟩, put8_below HB9.out (by omega)⟩
set_option maxHeartbeats 8000000 in
set_option maxRecDepth 100000 in
theorem rwrite_no (H : Aside0 (RAt up v1 v2 l1 l2 w)) (a : Int) (s : ByteArray) (r : Int) (hr : r = issC l1.length g a s) (hc : r ≠ 0) :
    Calls Try.prog 9 #[encD g v1 v2, .int .i64 a, .string s] w fun e w' => e = .returned (.tuple #[encD g v1 v2, .int .i64 r]) ∧ Below w.heap.size w w' := by
  obtain ⟨A1, c1, rfl⟩ := Kd.R_slice H.out.r1
  obtain ⟨A2, c2, rfl⟩ := Kd.R_slice H.out.r2
  have hu32 := Try.underlying32
  have hB := Aside0.mk (((Below.refl w.heap.size w).alloc (Nat.le_refl _) (boxD g (.slice A1 l1.length c1) (.slice A2 l2.length c2))).alloc (by rw [World.size_alloc]; omega) zeroD)
  have hb3 := blk_alloc (heap_alloc_new w (boxD g (.slice A1 l1.length c1) (.slice A2 l2.length c2))) zeroD
  have hb6 := heap_alloc_new (w.alloc (boxD g (.slice A1 l1.length c1) (.slice A2 l2.length c2))) zeroD
  rw [World.size_alloc] at hb6
  have hz : (r != 0) = true := by rw [bne_iff_ne]; exact hc
  have q13 := Lib.hid (fun (w' : World) (hb : Below w.heap.size w w') => rissue_no (g := g) (Aside0.mk (H.out.below hb)) a s r hr hc)
  clear H hr hc
  unfold encD
  unfold boxD zeroD at *
  go_enter Try.func9, Try.ntmps9
  go_upto_region 1 with (fail)
  obtain ⟨d0, d1, d2, d3, d4, d5, d6, d7⟩ := cells8 hb3
  obtain ⟨e0, e1, e2, e3, e4, e5, e6, e7⟩ := cells8 hb6
  obtain ⟨f0, f1, f2, f3, f4, f5, f6, f7⟩ := frozen8 hb6
  replace hb6 := Aside0.mk hb6
  replace hb3 := Aside0.mk hb3
  generalize (w.alloc (.cells #[.int .i64 g.f0, .int .i64 g.f1, .int .i64 g.f2, .int .i64 g.f3, .int .i64 g.f4, .int .i64 g.f5, .slice A1 l1.length c1, .slice A2 l2.length c2] 32)).alloc (.cells #[.int .i64 0, .int .i64 0, .int .i64 0, .int .i64 0, .int .i64 0, .int .i64 0, .slice none 0 0, .slice none 0 0] 32) = W2 at *
  go_wp2_with fail
  refine (q13.out _ hB.out).mono ?_
  rintro e w3 ⟨rfl, hb⟩
  have HB3 := Aside0.mk (hB.out.trans (hb.mono hB.out.size))
  have hx3 := blk_below hb3.out hb
  have hx6 := blk_below hb6.out hb
  unfold encD
  clear d0 d1 d2 d3 d4 d5 d6 d7 e0 e1 e2 e3 e4 e5 e6 e7 f0 f1 f2 f3 f4 f5 f6 f7 hB hb3 hb6 q13 hb
  go_upto_region 2 with (fail)
  have hq3 := blk_alloc hx3 (.cells #[.int .i64 g.f0, .int .i64 g.f1, .int .i64 g.f2, .int .i64 g.f3, .int .i64 g.f4, .int .i64 g.f5, .slice A1 l1.length c1, .slice A2 l2.length c2] 32)
  have hq6 := blk_alloc hx6 (.cells #[.int .i64 g.f0, .int .i64 g.f1, .int .i64 g.f2, .int .i64 g.f3, .int .i64 g.f4, .int .i64 g.f5, .slice A1 l1.length c1, .slice A2 l2.length c2] 32)
  have HB4 := Aside0.mk (HB3.out.alloc HB3.out.size (.cells #[.int .i64 g.f0, .int .i64 g.f1, .int .i64 g.f2, .int .i64 g.f3, .int .i64 g.f4, .int .i64 g.f5, .slice A1 l1.length c1, .slice A2 l2.length c2] 32))
  clear hx3 hx6 HB3
  generalize w3.alloc (.cells #[.int .i64 g.f0, .int .i64 g.f1, .int .i64 g.f2, .int .i64 g.f3, .int .i64 g.f4, .int .i64 g.f5, .slice A1 l1.length c1, .slice A2 l2.length c2] 32) = W4 at *
  obtain ⟨d0, d1, d2, d3, d4, d5, d6, d7⟩ := cells8 hq3
  obtain ⟨e0, e1, e2, e3, e4, e5, e6, e7⟩ := cells8 hq6
  obtain ⟨f0, f1, f2, f3, f4, f5, f6, f7⟩ := frozen8 hq6
  replace hq3 := Aside0.mk hq3
  replace hq6 := Aside0.mk hq6
  go_wp2
  refine bodyPost_ret (v := .tuple #[.agg #[.int .i64 g.f0, .int .i64 g.f1, .int .i64 g.f2, .int .i64 g.f3, .int .i64 g.f4, .int .i64 g.f5, .slice A1 l1.length c1, .slice A2 l2.length c2], .int .i64 r]) ?_ rfl ?_
  · exact results_list (rs := [.cell 6 32, .tmp 7]) rfl (by simp) (.cell (w.heap.size + 1) 32 #[.int .i64 g.f0, .int .i64 g.f1, .int .i64 g.f2, .int .i64 g.f3, .int .i64 g.f4, .int .i64 g.f5, .slice A1 l1.length c1, .slice A2 l2.length c2] (0, 0) _ rfl (put8_at hq6.out) hu32 rfl (by kernel_rfl) (.tmp .nil))
  · exact ⟨rfl, put8_below HB4.out (by omega)⟩
set_option maxHeartbeats 8000000 in
set_option maxRecDepth 100000 in
theorem rwrite_at (H : Aside0 (RAt up v1 v2 l1 l2 w)) (i : Nat) (hi : i < l1.length) (s : ByteArray) (hs : (s.size : Int) = g.f2) (hl1 : l1.length ≤ 100000) (hl2 : l2.length ≤ 1000000) :
    Calls Try.prog 9 #[encD g v1 v2, .int .i64 (i : Int), .string s] w fun e w' => ∃ v1' v2', e = .returned (.tuple #[encD g v1' v2', .int .i64 0]) ∧ Aside0 (RAt up v1' v2' (l1.set i s) (l2 ++ [⟨(i : Int), s⟩]) w') ∧ Below w.heap.size w w' := by
  obtain ⟨A1, c1, rfl⟩ := Kd.R_slice H.out.r1
  obtain ⟨A2, c2, rfl⟩ := Kd.R_slice H.out.r2
  have hu32 := Try.underlying32
  have hB := Aside0.mk (((Below.refl w.heap.size w).alloc (Nat.le_refl _) (boxD g (.slice A1 l1.length c1) (.slice A2 l2.length c2))).alloc (by rw [World.size_alloc]; omega) zeroD)
  have hb3 := blk_alloc (heap_alloc_new w (boxD g (.slice A1 l1.length c1) (.slice A2 l2.length c2))) zeroD
  have hb6 := heap_alloc_new (w.alloc (boxD g (.slice A1 l1.length c1) (.slice A2 l2.length c2))) zeroD
  rw [World.size_alloc] at hb6
  have q13 := Lib.hid (fun (w' : World) (hb : Below w.heap.size w w') => rissue_at (g := g) (Aside0.mk (H.out.below hb)) i hi s hs hl1 hl2)
  have hpp := Lib.hid (put_pure l1 i hi s hl1)
  have hup := Lib.hid H.out.hw
  have hcc := Lib.hid (Kd.R_reads' H.out.r1).2.1
  clear H hs hi
  unfold encD
  unfold boxD zeroD at *
  go_enter Try.func9, Try.ntmps9
  go_upto_region 1 with (fail)
  obtain ⟨d0, d1, d2, d3, d4, d5, d6, d7⟩ := cells8 hb3
  obtain ⟨e0, e1, e2, e3, e4, e5, e6, e7⟩ := cells8 hb6
  obtain ⟨f0, f1, f2, f3, f4, f5, f6, f7⟩ := frozen8 hb6
  replace hb6 := Aside0.mk hb6
  replace hb3 := Aside0.mk hb3
  generalize (w.alloc (.cells #[.int .i64 g.f0, .int .i64 g.f1, .int .i64 g.f2, .int .i64 g.f3, .int .i64 g.f4, .int .i64 g.f5, .slice A1 l1.length c1, .slice A2 l2.length c2] 32)).alloc (.cells #[.int .i64 0, .int .i64 0, .int .i64 0, .int .i64 0, .int .i64 0, .int .i64 0, .slice none 0 0, .slice none 0 0] 32) = W2 at *
  go_wp2_with fail
  refine (q13.out _ hB.out).mono ?_
  rintro e w3 ⟨v2', rfl, HR, hb⟩
  obtain ⟨A3, c3, he⟩ := Kd.R_slice HR.out.r2
  rw [List.length_append, List.length_singleton] at he
  subst he
  have HB3 := Aside0.mk (hB.out.trans (hb.mono hB.out.size))
  have hx6 := blk_below hb6.out hb
  unfold encD
  clear d0 d1 d2 d3 d4 d5 d6 d7 e0 e1 e2 e3 e4 e5 e6 e7 f0 f1 f2 f3 f4 f5 f6 f7 hB hb3 hb6 q13 hb
  go_upto_region 2 with (fail)
  have hq6 := blk_alloc hx6 (.cells #[.int .i64 g.f0, .int .i64 g.f1, .int .i64 g.f2, .int .i64 g.f3, .int .i64 g.f4, .int .i64 g.f5, .slice A1 l1.length c1, .slice A3 (l2.length + 1) c3] 32)
  have hq8 := heap_alloc_new w3 (.cells #[.int .i64 g.f0, .int .i64 g.f1, .int .i64 g.f2, .int .i64 g.f3, .int .i64 g.f4, .int .i64 g.f5, .slice A1 l1.length c1, .slice A3 (l2.length + 1) c3] 32)
  have HB4 := Aside0.mk (HB3.out.alloc HB3.out.size (.cells #[.int .i64 g.f0, .int .i64 g.f1, .int .i64 g.f2, .int .i64 g.f3, .int .i64 g.f4, .int .i64 g.f5, .slice A1 l1.length c1, .slice A3 (l2.length + 1) c3] 32))
  have HR4 := Aside0.mk (HR.out.alloc (.cells #[.int .i64 g.f0, .int .i64 g.f1, .int .i64 g.f2, .int .i64 g.f3, .int .i64 g.f4, .int .i64 g.f5, .slice A1 l1.length c1, .slice A3 (l2.length + 1) c3] 32))
  have hX8 := Lib.hid HB3.out.size
  have hX68 := Lib.hid (blk_lt hx6)
  clear hx6 HB3 HR
  generalize w3.alloc (.cells #[.int .i64 g.f0, .int .i64 g.f1, .int .i64 g.f2, .int .i64 g.f3, .int .i64 g.f4, .int .i64 g.f5, .slice A1 l1.length c1, .slice A3 (l2.length + 1) c3] 32) = W4 at *
  generalize w3.heap.size = X8 at *
  have g6 : W4.cell? ⟨X8, 6, none⟩ = some (.slice A1 l1.length c1) := blk_cell hq8 6
  replace hq6 := Aside0.mk hq6
  replace hq8 := Aside0.mk hq8
  have q29 := Lib.hid (deckleref28_Put.calls (l1.length + 1) A1 c1 l1 (i : Int) s (l1.set i s) W4 (Kd.R_reads' HR4.out.r1).2.2 hcc.out hpp.out)
  go_wp2_with fail
  refine q29.out.mono ?_
  rintro e w5 ⟨v0, rfl, hRp, hb5⟩
  obtain ⟨A4, c4, he⟩ := Kd.R_slice hRp
  rw [List.length_set] at he
  subst he
  have hy8 := blk_below hq8.out hb5
  have hy6 := blk_below hq6.out hb5
  have HB5 := Aside0.mk (HB4.out.trans (hb5.mono HB4.out.size))
  have hr1 := Aside0.mk (Kd.R_lower hRp (Nat.le_trans hup.out HB4.out.size))
  have hr2 := Aside0.mk (Kd.R_below HR4.out.r2 hb5)
  have g7 : w5.cell? ⟨X8, 6, none⟩ = some (.slice A1 l1.length c1) := blk_cell hy8 6
  have k7 : w5.frozen? ⟨X8, 6, none⟩ = false := blk_frozen hy8 6
  replace hy6 := Aside0.mk hy6
  replace hy8 := Aside0.mk hy8
  clear g6 hq6 hq8 HB4 HR4 q29 hRp hb5
  go_upto_region 5 with (fail)
  have hz8 := blk_put hy8.out 6 (.slice A4 l1.length c4) rfl
  have hz6 : (w5.setCell ⟨X8, 6, none⟩ (.slice A4 l1.length c4)).heap[w.heap.size + 1]? = _ := (Below.heap_setCell _ _ _ _ (by show w.heap.size + 1 ≠ X8; have := hX68.out; omega)).trans hy6.out
  have HB9 := Aside0.mk (HB5.out.setCell (p := ⟨X8, 6, none⟩) hX8.out (.slice A4 l1.length c4))
  have hs1 := Aside0.mk (Kd.R_set hr1.out hy8.out (by decide) 6 (.slice A4 l1.length c4))
  have hs2 := Aside0.mk (Kd.R_set hr2.out hy8.out (by decide) 6 (.slice A4 l1.length c4))
  generalize w5.setCell ⟨X8, 6, none⟩ (.slice A4 l1.length c4) = W9 at *
  obtain ⟨d0, d1, d2, d3, d4, d5, d6, d7⟩ := cells8 hz8
  obtain ⟨e0, e1, e2, e3, e4, e5, e6, e7⟩ := cells8 hz6
  obtain ⟨f0, f1, f2, f3, f4, f5, f6, f7⟩ := frozen8 hz6
  clear g7 k7 hy8 hy6 HB5 hr1 hr2
  replace hz8 := Aside0.mk hz8
  replace hz6 := Aside0.mk hz6
  go_wp2
  refine bodyPost_ret (v := .tuple #[.agg #[.int .i64 g.f0, .int .i64 g.f1, .int .i64 g.f2, .int .i64 g.f3, .int .i64 g.f4, .int .i64 g.f5, .slice A4 l1.length c4, .slice A3 (l2.length + 1) c3], .int .i64 0]) ?_ rfl ?_
  · exact results_list (rs := [.cell 6 32, .tmp 7]) rfl (by simp) (.cell (w.heap.size + 1) 32 #[.int .i64 g.f0, .int .i64 g.f1, .int .i64 g.f2, .int .i64 g.f3, .int .i64 g.f4, .int .i64 g.f5, .slice A4 l1.length c4, .slice A3 (l2.length + 1) c3] (0, 0) _ rfl (put8_at hz6.out) hu32 rfl (by kernel_rfl) (.tmp .nil))
  · have hR : RAt up (.slice A4 l1.length c4) (.slice A3 (l2.length + 1) c3) (l1.set i s) (l2 ++ [⟨(i : Int), s⟩]) W9 := ⟨hs1.out, hs2.out, Nat.le_trans hup.out HB9.out.size⟩
    exact ⟨_, _, rfl, ⟨hR.put8 hz6.out⟩, put8_below HB9.out (by omega)⟩
end
end Go.Proofs.Ytmpfadiehakcgaa.PQ
