/- A histogram as the machine holds it; New, Add, Count, Sum, Most, Bucket, walked. -/
import Derived.Test.YtnamndioodnelaaDoorPRx1
import Derived.WalkSpells
import Derived.LoopTactic
import Derived.Lib.Hide
import Derived.IntWalk
import Derived.Deep.QuietTactic
import Derived.BigQuiet
import Derived.Laws.Rows
namespace Go.Proofs.YtnamndioodnelaaDoor.PQ
open Go.RowKit Go.Proofs.YtnamndioodnelaaDoorW.PrintWords Go.Proofs.YtnamndioodnelaaDoorW.PrintLast Go.Proofs.YtnamndioodnelaaDoorW.PrintMore
set_option linter.unusedVariables false
set_option linter.unusedSimpArgs false
/-- A histogram lies in block b: its 64 buckets, count, sum and greatest. -/
structure HistAt (v : List Int) (b : Nat) (w : World) : Prop where
  row : w.heap[b]? = some (.cells (v.map (Value.int .i64)).toArray 45 (0, 0))
  len : v.length = 67
theorem HistAt.cell {v : List Int} {b : Nat} {w : World} (h : HistAt v b w) (i : Nat) (hi : i < 67) : w.cell? ⟨b, i, none⟩ = some (.int .i64 (v.getD i 0)) := by
  rw [blk_cell h.row i]
  have hl := h.len
  simp [List.getD_eq_getElem?_getD, List.getElem?_eq_getElem (show i < v.length by omega)]
theorem HistAt.free {v : List Int} {b : Nat} {w : World} (h : HistAt v b w) (i : Nat) : w.frozen? ⟨b, i, none⟩ = false := frozen_of_row w b i _ _ h.row
theorem HistAt.set {v : List Int} {b : Nat} {w : World} (h : HistAt v b w) (i : Nat) (x : Int) : HistAt (v.set i x) b (w.setCell ⟨b, i, none⟩ (.int .i64 x)) := by
  refine ⟨?_, by rw [List.length_set]; exact h.len⟩
  rw [heap_setCell_same w b i _ _ _ h.row]
  congr 2
  simp [Array.setIfInBounds, List.map_set]
  intro hh
  exact (List.set_eq_of_length_le (by simpa using hh)).symm
theorem HistAt.block {v : List Int} {b : Nat} {w w' : World} (h : HistAt v b w) (e : w'.heap[b]? = w.heap[b]?) : HistAt v b w' := ⟨e.trans h.row, h.len⟩
theorem HistAt.lt {v : List Int} {b : Nat} {w : World} (h : HistAt v b w) : b < w.heap.size := (Array.getElem?_eq_some_iff.1 h.row).1
theorem ch_set (w : World) (b i : Nat) (v : Value) : w.grownBy (w.setCell ⟨b, i, none⟩ v) (some b) :=
  ⟨rfl, rfl, rfl, by simp [World.setCell], fun k _ hk => Below.heap_setCell _ _ _ _ (fun e => hk (by simp [e]))⟩
theorem ch_drew {w w' : World} (d : Drawn0 w w') (b : Nat) : w.grownBy w' (some b) := by
  obtain ⟨⟨n, rfl⟩⟩ := d
  exact ⟨rfl, rfl, rfl, Nat.le_refl _, fun _ _ _ => rfl⟩
theorem HistAt.drawn {v : List Int} {b : Nat} {w w' : World} (h : HistAt v b w) (d : Drawn0 w w') : HistAt v b w' := by
  obtain ⟨⟨n, rfl⟩⟩ := d
  exact h.block rfl
/-- What Add leaves. -/
def plusI (a b : Int) : Int := if b > 9223372036854775807 - a then 9223372036854775807 else a + b
def addH (v : List Int) (n : Int) : List Int :=
  (((v.set (Lib.bitLen n.toNat) (wrap64 (v.getD (Lib.bitLen n.toNat) 0 + 1))).set 64 (wrap64 (v.getD 64 0 + 1))).set 65 (plusI (v.getD 65 0) n)).set 66 (max (v.getD 66 0) n)
theorem bitAux_le : ∀ f g x, x < 2 ^ f → Lib.bitLenAux g x ≤ f
  | 0, g, x, h => by
    have : x = 0 := by omega
    subst this
    cases g <;> simp [Lib.bitLenAux]
  | f + 1, 0, x, h => by simp [Lib.bitLenAux]
  | f + 1, g + 1, x, h => by
    unfold Lib.bitLenAux
    split
    · omega
    · have := bitAux_le f g (x / 2) (by rw [Nat.pow_succ] at h; omega)
      omega
theorem bitLen_lt (n : Nat) (h : n ≤ 9223372036854775807) : Lib.bitLen n < 64 := by
  have : Lib.bitLen n ≤ 63 := bitAux_le 63 _ n (by omega)
  omega
set_option maxHeartbeats 1000000 in
set_option maxRecDepth 100000 in
theorem add_low (b : Nat) (n : Int) (w : World) (hn : n < 0) :
    Calls Tryd.prog 8 #[.pointer (some ⟨b, 0, none⟩), .int .i64 n] w fun e w' => e = .returned (.int .i64 1) ∧ w' = w := by
  have g0 : decide (n < 0) = true := decide_eq_true hn
  clear hn
  go_enter Tryd.func8, Tryd.ntmps8
  go_wp2
  go_ret
  exact ⟨rfl, rfl⟩
set_option maxHeartbeats 2000000 in
set_option maxRecDepth 100000 in
theorem add_core (b : Nat) (v : List Int) (n : Int) (i : Nat) (x y s m S X Y : Int) (w : World) (H : Aside0 (HistAt v b w)) (hn : 0 ≤ n) (hn2 : n ≤ 9223372036854775807) (hi : i < 64) (ei : Hid ((Lib.bitLen n.toNat : Int) = (i : Int)))
    (hx : v.getD i 0 = x) (hy : v.getD 64 0 = y) (hs : v.getD 65 0 = s) (hm : v.getD 66 0 = m) (hS : Hid (PR.cost_plus.f s n = some S)) (gX : IntKind.i64.wrap (x + 1) = X) (gY : IntKind.i64.wrap (y + 1) = Y) :
    Calls Tryd.prog 8 #[.pointer (some ⟨b, 0, none⟩), .int .i64 n] w fun e w' => e = .returned (.int .i64 0) ∧ HistAt ((((v.set i X).set 64 Y).set 65 S).set 66 (max m n)) b w' ∧ w.grownBy w' (some b) := by
  have g0 : decide (n < 0) = false := decide_eq_false (by omega)
  have gu : IntKind.u64.wrap n = n := IntWalk.u64_in _ ⟨hn, by omega⟩
  have hl := fun w => Tryd.bits_Len64 n w hn (by omega)
  rw [ei.out] at hl
  have h1 : HistAt v b w.drew := H.out.block rfl
  have c1 := h1.cell i (by omega)
  have f1 := h1.free i
  rw [hx] at c1
  clear g0
  have g0 : decide (n < 0) = false := decide_eq_false (by omega)
  clear hn hn2 ei
  go_enter Tryd.func8, Tryd.ntmps8
  go_wp2
  go_region_with (go_at_call 21; refine (hl _).mono ?_; rintro e w2 ⟨rfl, rfl⟩)
  have hg1 : w.grownBy (w.setCell ⟨b, i, none⟩ (.int .i64 X)).drew (some b) := (ch_set w b i _).trans (ch_drew ⟨⟨1, rfl⟩⟩ b)
  have H1 := (H.out.set i X).drawn (w' := World.drew _) ⟨⟨1, rfl⟩⟩
  revert hg1 H1
  generalize (w.setCell ⟨b, i, none⟩ (.int .i64 X)).drew = W1
  intro hg1 H1
  have c64 := H1.cell 64 (by omega)
  have c65 := H1.cell 65 (by omega)
  have c66 := H1.cell 66 (by omega)
  have f64 := H1.free 64
  have f65 := H1.free 65
  have f66 := H1.free 66
  have e64 : ∀ j, i ≠ j → (v.set i X).getD j 0 = v.getD j 0 := fun j hj => by rw [List.getD_eq_getElem?_getD, List.getElem?_set_ne hj, List.getD_eq_getElem?_getD]
  rw [e64 64 (by omega), hy] at c64
  rw [e64 65 (by omega), hs] at c65
  rw [e64 66 (by omega), hm] at c66
  clear e64 hx hy hs hm c1 f1 h1 hl
  go_wp2_with (go_at_call 22; refine (PR.cost_plus.calls s n S _ hS.out).mono ?_; rintro e w3 ⟨rfl, ⟨m3, rfl⟩⟩)
  go_ret
  exact ⟨rfl, ((((H1.set 64 Y).drawn ⟨⟨m3, rfl⟩⟩).set 65 S).set 66 (max m n)), (((hg1.trans (ch_set W1 b 64 _)).trans (ch_drew ⟨⟨m3, rfl⟩⟩ b)).trans (ch_set _ b 65 _)).trans (ch_set _ b 66 _)⟩
theorem hist_add (b : Nat) (v : List Int) (n : Int) (w : World) (H : HistAt v b w) (hs : 0 ≤ v.getD 65 0 ∧ v.getD 65 0 ≤ 9223372036854775807) (hn : 0 ≤ n) (hn2 : n ≤ 9223372036854775807) :
    Calls Tryd.prog 8 #[.pointer (some ⟨b, 0, none⟩), .int .i64 n] w fun e w' => e = .returned (.int .i64 0) ∧ HistAt (addH v n) b w' ∧ w.grownBy w' (some b) := by
  have hp : PR.cost_plus.f (v.getD 65 0) n = some (plusI (v.getD 65 0) n) := by
    unfold PR.cost_plus.f plusI
    have e1 : wrap64 (9223372036854775807 - v.getD 65 0) = 9223372036854775807 - v.getD 65 0 := by unfold wrap64; omega
    rw [e1]
    by_cases c : n > 9223372036854775807 - v.getD 65 0
    · rw [if_pos c, if_pos c]
    · have e2 : wrap64 (v.getD 65 0 + n) = v.getD 65 0 + n := by unfold wrap64; omega
      rw [if_neg c, if_neg c, e2]
  exact add_core b v n (Lib.bitLen n.toNat) _ _ _ _ _ _ _ w ⟨H⟩ hn hn2 (bitLen_lt _ (by omega)) (Lib.hid rfl) rfl rfl rfl rfl (Lib.hid hp) (i64_w _) (i64_w _)
set_option maxHeartbeats 1000000 in
set_option maxRecDepth 100000 in
theorem hist_new (w : World) :
    Calls Tryd.prog 7 #[] w fun e w' => e = .returned (.pointer (some ⟨w.heap.size, 0, none⟩)) ∧ HistAt (List.replicate 67 0) w.heap.size w' ∧ Below w.heap.size w w' := by
  have hz : ∀ w, (zeroValue 45).run Tryd.prog w = .ok (.agg (List.replicate 67 (Value.int .i64 0)).toArray) w := fun w => by
    have hi : (Tryd.prog.info? 45).bind (·.zero) = some (.agg (List.replicate 67 (Value.int .i64 0)).toArray) := by kernel_rfl
    cases h : Tryd.prog.info? 45 with
    | none => rw [h] at hi; cases hi
    | some i =>
      rw [h] at hi
      replace hi : i.zero = some (.agg (List.replicate 67 (Value.int .i64 0)).toArray) := hi
      simp [zeroValue, typeInfo, h, hi]
  go_enter Tryd.func7, Tryd.ntmps7
  go_wp2
  go_ret
  exact ⟨rfl, ⟨heap_alloc_new w _, rfl⟩, (Below.refl _ w).alloc (Nat.le_refl _) _⟩
set_option maxHeartbeats 1000000 in
set_option maxRecDepth 100000 in
theorem hist_count (b : Nat) (v : List Int) (w : World) (H : HistAt v b w) : Calls Tryd.prog 9 #[.pointer (some ⟨b, 0, none⟩)] w fun e w' => e = .returned (.int .i64 (v.getD 64 0)) ∧ w' = w := by
  have c := H.cell 64 (by omega)
  go_enter Tryd.func9, Tryd.ntmps9
  go_wp2
  go_ret
  exact ⟨rfl, rfl⟩
set_option maxHeartbeats 1000000 in
set_option maxRecDepth 100000 in
theorem hist_sum (b : Nat) (v : List Int) (w : World) (H : HistAt v b w) : Calls Tryd.prog 13 #[.pointer (some ⟨b, 0, none⟩)] w fun e w' => e = .returned (.int .i64 (v.getD 65 0)) ∧ w' = w := by
  have c := H.cell 65 (by omega)
  go_enter Tryd.func13, Tryd.ntmps13
  go_wp2
  go_ret
  exact ⟨rfl, rfl⟩
set_option maxHeartbeats 1000000 in
set_option maxRecDepth 100000 in
theorem hist_most (b : Nat) (v : List Int) (w : World) (H : HistAt v b w) : Calls Tryd.prog 17 #[.pointer (some ⟨b, 0, none⟩)] w fun e w' => e = .returned (.int .i64 (v.getD 66 0)) ∧ w' = w := by
  have c := H.cell 66 (by omega)
  go_enter Tryd.func17, Tryd.ntmps17
  go_wp2
  go_ret
  exact ⟨rfl, rfl⟩
def bucketI (v : List Int) (i : Int) : Int := if i < 0 ∨ 64 ≤ i then 0 else v.getD i.toNat 0
set_option maxHeartbeats 1000000 in
set_option maxRecDepth 100000 in
theorem hist_bucket (b : Nat) (v : List Int) (i : Int) (w : World) (H : HistAt v b w) : Calls Tryd.prog 15 #[.pointer (some ⟨b, 0, none⟩), .int .i64 i] w fun e w' => e = .returned (.int .i64 (bucketI v i)) ∧ w' = w := by
  by_cases c1 : i < 0
  · have g1 : decide (i < 0) = true := decide_eq_true c1
    have e : bucketI v i = 0 := if_pos (Or.inl c1)
    have e' := Aside0.mk e
    clear c1 e
    go_enter Tryd.func15, Tryd.ntmps15
    go_wp2
    go_ret
    exact ⟨by rw [e'.out]; rfl, rfl⟩
  · have g1 : decide (i < 0) = false := decide_eq_false c1
    by_cases c2 : 64 ≤ i
    · have g2 : decide (64 ≤ i) = true := decide_eq_true c2
      have e : bucketI v i = 0 := if_pos (Or.inr c2)
      have e' := Aside0.mk e
      clear c1 c2 e
      go_enter Tryd.func15, Tryd.ntmps15
      go_wp2
      go_ret
      exact ⟨by rw [e'.out]; rfl, rfl⟩
    · have g2 : decide (64 ≤ i) = false := decide_eq_false c2
      obtain ⟨k, rfl⟩ := Int.eq_ofNat_of_zero_le (a := i) (by omega)
      have e : bucketI v ((k : Nat) : Int) = v.getD k 0 := (if_neg (by omega)).trans (by rw [Int.toNat_natCast])
      have c := H.cell k (by omega)
      have k64 : k < 64 := by omega
      have e' := Aside0.mk e
      clear c1 c2 e
      go_enter Tryd.func15, Tryd.ntmps15
      go_wp2
      go_ret
      exact ⟨by rw [e'.out]; rfl, rfl⟩
set_option maxHeartbeats 1000000 in
set_option maxRecDepth 100000 in
theorem plus_same (a b x z : Int) (w : World) (e1 : IntKind.i64.wrap (9223372036854775807 - a) = x) (e2 : IntKind.i64.wrap (a + b) = z) (R : Int) (hR : Aside0 ((if b > x then 9223372036854775807 else z) = R)) :
    Calls Tryd.prog 22 #[.int .i64 a, .int .i64 b] w fun e w' => e = .returned (.int .i64 R) ∧ w' = w := by
  by_cases c : b > x
  · have g : decide (x < b) = true := decide_eq_true c
    have hr := hR.out
    rw [if_pos c] at hr
    have hs := Aside0.mk hr
    clear hr hR c
    go_enter Tryd.func22, Tryd.ntmps22
    go_wp2
    go_ret
    exact ⟨by rw [← hs.out]; rfl, rfl⟩
  · have g : decide (x < b) = false := decide_eq_false c
    have hr := hR.out
    rw [if_neg c] at hr
    have hs := Aside0.mk hr
    clear hr hR c
    go_enter Tryd.func22, Tryd.ntmps22
    go_wp2
    go_ret
    exact ⟨by rw [← hs.out]; rfl, rfl⟩
theorem plus_calls (a b : Int) (w : World) (ha : 0 ≤ a ∧ a ≤ 9223372036854775807) (hb : -9223372036854775808 ≤ b ∧ b ≤ 9223372036854775807) :
    Calls Tryd.prog 22 #[.int .i64 a, .int .i64 b] w fun e w' => e = .returned (.int .i64 (plusI a b)) ∧ w' = w := by
  refine plus_same a b (wrap64 (9223372036854775807 - a)) _ w (i64_w _) (i64_w _) _ ⟨?_⟩
  unfold plusI
  have e1 : wrap64 (9223372036854775807 - a) = 9223372036854775807 - a := by unfold wrap64; omega
  rw [e1]
  by_cases c : b > 9223372036854775807 - a
  · rw [if_pos c, if_pos c]
  · have e2 : wrap64 (a + b) = a + b := by unfold wrap64; omega
    rw [if_neg c, if_neg c, e2]
end Go.Proofs.YtnamndioodnelaaDoor.PQ
