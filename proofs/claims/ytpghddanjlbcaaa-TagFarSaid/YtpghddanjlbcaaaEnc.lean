/- The contract of tag.Encode: a tag's sixteen bytes, or the code for one that may not be; no condition. -/
import Derived.Test.YtpghddanjlbcaaaPRx1
import Derived.Lib.LazyBuf
import Derived.IntWalk
namespace Go.Proofs.Ytpghddanjlbcaaa.PQ
open Go.RowKit Go.Proofs.YtpghddanjlbcaaaW.PrintWords Go.Proofs.YtpghddanjlbcaaaW.PrintLast Go.Proofs.YtpghddanjlbcaaaW.PrintMore
set_option linter.unusedVariables false
set_option linter.unusedSimpArgs false
/-- The bytes l lie in block g. -/
structure RowG (l : List UInt8) (g : Nat) (w : World) : Prop where
  cell : ∀ j (h : j < l.length), w.cell? ⟨g, j, none⟩ = some (.int .u8 (l[j].toNat : Int))
  free : ∀ j, j < l.length → w.frozen? ⟨g, j, none⟩ = false
theorem RowG.below {l : List UInt8} {g B : Nat} {w w' : World} (h : RowG l g w) (hg : g < B) (b : Below B w w') : RowG l g w' :=
  ⟨fun j hj => (b.cell (p := ⟨g, j, none⟩) hg).trans (h.cell j hj), fun j hj => (b.frozen (p := ⟨g, j, none⟩) hg).trans (h.free j hj)⟩
def spliced (l : List UInt8) (o : Nat) (t : List UInt8) : List UInt8 := l.take o ++ t ++ l.drop (o + t.length)
theorem spliced_length (l : List UInt8) (o : Nat) (t : List UInt8) (ho : o + t.length ≤ l.length) : (spliced l o t).length = l.length := by unfold spliced; simp; omega
theorem splices (k : UInt8) : ∀ (t1 t2 t3 : List UInt8), t1.length = 2 → t2.length = 6 → t3.length = 4 →
    spliced (spliced (spliced [27, k, 0, 0, 0, 0, 0, 0, 0, 0, 0, 0, 0, 0, 0, 0] 2 t1) 4 t2) 10 t3 = [27, k] ++ t1 ++ t2 ++ t3 ++ [0, 0]
  | [_, _], [_, _, _, _, _, _], [_, _, _, _], _, _, _ => rfl
theorem RowG.splice {l t : List UInt8} {g : Nat} {w : World} (h : RowG l g w) (o : Nat) (ho : o + t.length ≤ l.length) :
    RowG (spliced l o t) g (w.setCells g o (t.map fun x => Value.int .u8 (x.toNat : Int))) := by
  have hlen : (spliced l o t).length = l.length := by unfold spliced; simp; omega
  have hin := World.cell?_setCells_in g (t.map fun x => Value.int .u8 (x.toNat : Int)) o w (fun j hj => by
    rw [List.length_map] at hj
    rw [h.cell (o + j) (by omega)]; rfl)
  refine ⟨fun j hj => ?_, fun j hj => ?_⟩
  · rw [hlen] at hj
    by_cases hc : o ≤ j ∧ j < o + t.length
    · obtain ⟨i, rfl⟩ : ∃ i, j = o + i := ⟨j - o, by omega⟩
      rw [hin i (by rw [List.length_map]; omega), List.getElem_map]
      have e : (spliced l o t)[o + i]? = t[i]? := by
        unfold spliced
        rw [List.append_assoc, List.getElem?_append_right (by simp; omega), List.getElem?_append_left (by simp; omega)]
        congr 1; simp; omega
      rw [List.getElem?_eq_getElem (by omega), List.getElem?_eq_getElem (by omega)] at e
      rw [Option.some.inj e]
    · rw [World.cell?_setCells_out g _ o w _ (fun _ _ => by simp; omega), h.cell j hj]
      have e : (spliced l o t)[j]? = l[j]? := by
        unfold spliced
        by_cases hl : j < o
        · rw [List.append_assoc, List.getElem?_append_left (by simp; omega), List.getElem?_take_of_lt hl]
        · rw [List.getElem?_append_right (by simp; omega), List.getElem?_drop]; congr 1; simp; omega
      rw [List.getElem?_eq_getElem (by omega), List.getElem?_eq_getElem (by omega)] at e
      rw [Option.some.inj e]
  · rw [World.frozen?_setCells]; exact h.free j (by omega)
structure EncAt (k l s e : Int) (L : List UInt8) (g h : Nat) (w0 w : World) : Prop where
  row : RowG L h w
  box : w.heap[g]? = some (.cells #[.int .i64 k, .int .i64 l, .int .i64 s, .int .i64 e] 23 (0, 0))
  ne : g ≠ h
  hl : h < w.heap.size
  gl : g < w.heap.size
  h0 : w0.heap.size ≤ h
  below : Below w0.heap.size w0 w
theorem EncAt.after {k l s e : Int} {L : List UInt8} {g h : Nat} {w0 w w' : World} (x : EncAt k l s e L g h w0 w) (b : Below w.heap.size w w') : EncAt k l s e L g h w0 w' :=
  ⟨x.row.below x.hl b, (b.block g x.gl).trans x.box, x.ne, Nat.lt_of_lt_of_le x.hl b.size, Nat.lt_of_lt_of_le x.gl b.size, x.h0, x.below.trans (b.mono x.below.size)⟩
theorem EncAt.drew {k l s e : Int} {L : List UInt8} {g h : Nat} {w0 w : World} (x : EncAt k l s e L g h w0 w) : EncAt k l s e L g h w0 w.drew :=
  x.after (Below.refl _ w).drew
theorem heap_setCells {b g : Nat} (hg : g ≠ b) : ∀ (vs : List Value) (o : Nat) (w : World), (w.setCells b o vs).heap[g]? = w.heap[g]?
  | [], _, _ => rfl
  | v :: r, o, w => by rw [World.setCells, heap_setCells hg r, Below.heap_setCell _ _ _ _ (by exact hg)]
theorem size_setCells {b : Nat} : ∀ (vs : List Value) (o : Nat) (w : World), (w.setCells b o vs).heap.size = w.heap.size
  | [], _, _ => rfl
  | v :: r, o, w => by rw [World.setCells, size_setCells r]; simp [World.setCell]
theorem EncAt.copy {k l s e : Int} {L t : List UInt8} {g h : Nat} {w0 w : World} (x : EncAt k l s e L g h w0 w) (o : Nat) (ho : o + t.length ≤ L.length) :
    EncAt k l s e (spliced L o t) g h w0 (w.setCells h o (t.map fun x => Value.int .u8 (x.toNat : Int))) :=
  ⟨x.row.splice o ho, (heap_setCells x.ne _ _ _).trans x.box, x.ne, by rw [size_setCells]; exact x.hl, by rw [size_setCells]; exact x.gl, x.h0, below_setCells x.h0 _ _ _ x.below⟩
theorem enc_made (k l s e : Int) (g : Nat) (w w2 : World) (hk : 0 ≤ k ∧ k < 256) (hg : g < w2.heap.size) (hbox : w2.heap[g]? = some (.cells #[.int .i64 k, .int .i64 l, .int .i64 s, .int .i64 e] 23 (0, 0))) (hB : Below w.heap.size w w2) :
    EncAt k l s e [27, UInt8.ofNat k.toNat, 0, 0, 0, 0, 0, 0, 0, 0, 0, 0, 0, 0, 0, 0] g w2.heap.size w (w2.alloc (.cells #[.int .u8 27, .int .u8 k, .int .u8 0, .int .u8 0, .int .u8 0, .int .u8 0, .int .u8 0, .int .u8 0, .int .u8 0, .int .u8 0, .int .u8 0, .int .u8 0, .int .u8 0, .int .u8 0, .int .u8 0, .int .u8 0] 33)) := by
  have hkk : ((UInt8.ofNat k.toNat).toNat : Int) = k := by rw [UInt8.toNat_ofNat']; omega
  have hs : ∀ o, (w2.alloc o).heap.size = w2.heap.size + 1 := fun o => Array.size_push ..
  refine ⟨⟨fun j hj => ?_, fun j hj => ?_⟩, ?_, by omega, by rw [hs]; omega, by rw [hs]; omega, hB.size, hB.alloc hB.size _⟩
  · rw [World.cell?_alloc_mark]
    match j, hj with
    | 0, _ | 2, _ | 3, _ | 4, _ | 5, _ | 6, _ | 7, _ | 8, _ | 9, _ | 10, _ | 11, _ | 12, _ | 13, _ | 14, _ | 15, _ => rfl
    | 1, _ => show some (Value.int .u8 k) = some (Value.int .u8 ((UInt8.ofNat k.toNat).toNat : Int)); rw [hkk]
    | j + 16, hj => exact absurd (show j + 16 < 16 from hj) (Nat.not_lt.2 (Nat.le_add_left 16 j))
  · rw [World.frozen?_alloc_mark]; rfl
  · rw [Below.heap_alloc _ _ _ hg]; exact hbox
set_option maxHeartbeats 1000000 in
set_option maxRecDepth 100000 in
theorem enc_core (k l s e : Int) (s1 s2 s3 : ByteArray) (w : World) 
    (HM : ∀ w, Calls Try.prog 9 #[.agg #[.int .i64 k, .int .i64 l, .int .i64 s, .int .i64 e]] w fun x w' => x = .returned (.bool true) ∧ Below w.heap.size w w')
    (H1 : ∀ w, Calls Try.prog 14 #[.int .i64 l, .int .i64 2] w fun e w' => e = .returned (.string s1) ∧ Below w.heap.size w w')
    (H2 : ∀ w, Calls Try.prog 14 #[.int .i64 s, .int .i64 6] w fun e w' => e = .returned (.string s2) ∧ Below w.heap.size w w')
    (H3 : ∀ w, Calls Try.prog 14 #[.int .i64 e, .int .i64 4] w fun e w' => e = .returned (.string s3) ∧ Below w.heap.size w w')
    (hk : 0 ≤ k ∧ k < 256) (z1 : s1.size = 2) (z2 : s2.size = 6) (z3 : s3.size = 4) :
    Calls Try.prog 8 #[.agg #[.int .i64 k, .int .i64 l, .int .i64 s, .int .i64 e]] w fun x w' => x = .returned (.tuple #[.string ⟨#[27, UInt8.ofNat k.toNat] ++ s1.data ++ s2.data ++ s3.data ++ #[0, 0]⟩, .int .i64 0]) ∧ Below w.heap.size w w' := by
  have hu23 := Try.underlying23
  go_enter Try.func8, Try.ntmps8
  have hsz := Below.refl w.heap.size w
  go_wp2_with (first | ((with_reducible refine gate_dst (N := 1) rfl ?_); refine box_event ?hg (N := 1) ?hd (cs := #[.int .i64 k, .int .i64 l, .int .i64 s, .int .i64 e]) (t := 23) ?hr ?_; (case hd => rfl); (case hg => rfl); (case hr => first | (go_simp; done) | (go_simp; rfl)); intro g hg w1 hbox hb; have Hg := Aside0.mk hg; clear hg; have Hb := Aside0.mk hb; clear hb; have c0 : w1.cell? ⟨g, 0, none⟩ = some (.int .i64 k) := (blk_cell hbox 0).trans rfl; have c1 : w1.cell? ⟨g, 1, none⟩ = some (.int .i64 l) := (blk_cell hbox 1).trans rfl; have c2 : w1.cell? ⟨g, 2, none⟩ = some (.int .i64 s) := (blk_cell hbox 2).trans rfl; have c3 : w1.cell? ⟨g, 3, none⟩ = some (.int .i64 e) := (blk_cell hbox 3).trans rfl) | (go_at_call 9; refine (HM _).mono ?_; rintro x w2 ⟨rfl, b2⟩; have hgl := block_lt_of_cell c0; replace hbox := (b2.block g hgl).trans hbox; have c0 : w2.cell? ⟨g, 0, none⟩ = some (.int .i64 k) := (blk_cell hbox 0).trans rfl; clear c1 c2 c3))
  have E3 := enc_made k l s e g w w2 hk (Nat.lt_of_lt_of_le hgl b2.size) hbox (Hb.out.trans (b2.mono Hb.out.size))
  revert E3
  generalize w2.alloc (.cells #[.int .u8 27, .int .u8 k, .int .u8 0, .int .u8 0, .int .u8 0, .int .u8 0, .int .u8 0, .int .u8 0, .int .u8 0, .int .u8 0, .int .u8 0, .int .u8 0, .int .u8 0, .int .u8 0, .int .u8 0, .int .u8 0] 33) = w3
  generalize w2.heap.size = hh
  intro E3
  clear hbox c0 b2 hgl Hb Hg
  have c1 : w3.drew.cell? ⟨g, 1, none⟩ = some (.int .i64 l) := (blk_cell E3.box 1).trans rfl
  go_region_law (first | (refine goes_ Try.func14 (by kernel_rfl) rfl #[.int .i64 l, .int .i64 2] (by rfl) rfl rfl (by simp only [List.map_toArray, List.map_cons, List.map_nil]; rfl) ?_; with_reducible refine (H1 _).mono ?_; rintro x w4 ⟨rfl, b4⟩; refine ⟨_, rfl, ?_⟩; have E4 := E3.drew.after b4) | (refine step_copy_string rfl (.tmp 12) (.tmp 15) 34 9 rfl 5 Try.underlying34 (fun w => by simp [Go.sizeOf]; rfl) hh 2 14 14 (by simp [Act.eval, Act.put]) s1 (by simp [Act.eval, Act.put]) (by omega) (fun j hj => by rw [E4.row.cell (2 + j) (by simp; omega)]; rfl) (fun j hj => E4.row.free (2 + j) (by simp; omega)) ?_))
  have E5 := E4.copy (t := s1.data.toList) 2 (by rw [Array.length_toList]; show 2 + s1.size ≤ 16; omega)
  have l5 : (spliced [27, UInt8.ofNat k.toNat, 0, 0, 0, 0, 0, 0, 0, 0, 0, 0, 0, 0, 0, 0] 2 s1.data.toList).length = 16 := spliced_length _ _ _ (by rw [Array.length_toList]; show 2 + s1.size ≤ 16; omega)
  revert E5 l5
  generalize hL1 : spliced [27, UInt8.ofNat k.toNat, 0, 0, 0, 0, 0, 0, 0, 0, 0, 0, 0, 0, 0, 0] 2 s1.data.toList = L1
  generalize w4.setCells hh 2 _ = w5
  intro E5 l5
  clear c1 E4 b4 E3
  go_wp2
  have c6 : w5.drew.cell? ⟨g, 2, none⟩ = some (.int .i64 s) := (blk_cell E5.box 2).trans rfl
  go_region_law (first | (refine goes_ Try.func14 (by kernel_rfl) rfl #[.int .i64 s, .int .i64 6] (by rfl) rfl rfl (by simp only [List.map_toArray, List.map_cons, List.map_nil]; rfl) ?_; with_reducible refine (H2 _).mono ?_; rintro x w6a ⟨rfl, b4⟩; refine ⟨_, rfl, ?_⟩; have E4 := E5.drew.after b4) | (refine step_copy_string rfl (.tmp 17) (.tmp 20) 34 9 rfl 5 Try.underlying34 (fun w => by simp [Go.sizeOf]; rfl) hh 4 12 12 (by simp [Act.eval, Act.put]) s2 (by simp [Act.eval, Act.put]) (by omega) (fun j hj => by rw [E4.row.cell (4 + j) (by omega)]; rfl) (fun j hj => E4.row.free (4 + j) (by omega)) ?_))
  have E6b := E4.copy (t := s2.data.toList) 4 (by rw [Array.length_toList]; show 4 + s2.size ≤ _; omega)
  have l6 := (spliced_length L1 4 s2.data.toList (by rw [Array.length_toList]; show 4 + s2.size ≤ _; omega)).trans l5
  have q6 : spliced L1 4 s2.data.toList = spliced L1 4 s2.data.toList := rfl
  revert E6b l6 q6
  generalize hL6 : spliced L1 4 s2.data.toList = L6
  generalize w6a.setCells hh 4 _ = w6
  intro E6 l6 _
  clear c6 E4 b4 E5
  go_wp2
  have c7 : w6.drew.cell? ⟨g, 3, none⟩ = some (.int .i64 e) := (blk_cell E6.box 3).trans rfl
  go_region_law (first | (refine goes_ Try.func14 (by kernel_rfl) rfl #[.int .i64 e, .int .i64 4] (by rfl) rfl rfl (by simp only [List.map_toArray, List.map_cons, List.map_nil]; rfl) ?_; with_reducible refine (H3 _).mono ?_; rintro x w7a ⟨rfl, b4⟩; refine ⟨_, rfl, ?_⟩; have E4 := E6.drew.after b4) | (refine step_copy_string rfl (.tmp 22) (.tmp 25) 34 9 rfl 5 Try.underlying34 (fun w => by simp [Go.sizeOf]; rfl) hh 10 6 6 (by simp [Act.eval, Act.put]) s3 (by simp [Act.eval, Act.put]) (by omega) (fun j hj => by rw [E4.row.cell (10 + j) (by omega)]; rfl) (fun j hj => E4.row.free (10 + j) (by omega)) ?_))
  have E7b := E4.copy (t := s3.data.toList) 10 (by rw [Array.length_toList]; show 10 + s3.size ≤ _; omega)
  have l7 := (spliced_length L6 10 s3.data.toList (by rw [Array.length_toList]; show 10 + s3.size ≤ _; omega)).trans l6
  have q7 : spliced L6 10 s3.data.toList = spliced L6 10 s3.data.toList := rfl
  revert E7b l7 q7
  generalize hL7 : spliced L6 10 s3.data.toList = L7
  generalize w7a.setCells hh 10 _ = w7
  intro E7 l7 _
  clear c7 E4 b4 E6
  have hconv : (convert 34 9 (.slice (some ⟨hh, 0, none⟩) 16 16)).run Try.prog w7 = .ok (.string ⟨L7.toArray⟩) w7 := by
    have h := run_convert_bytes_back w7 34 9 5 ⟨hh, 0, none⟩ 16 L7 Try.underlying34 Try.underlying5 Try.underlying9 (fun j hj => by
      have e : (⟨hh, 0, none⟩ : Addr).add j = ⟨hh, j, none⟩ := by cases j <;> simp [Addr.add]
      rw [e]; exact E7.row.cell j hj)
    rwa [l7] at h
  go_wp2_with fail
  go_ret2
  refine ⟨?_, E7.below⟩
  have e1 := splices (UInt8.ofNat k.toNat) s1.data.toList s2.data.toList s3.data.toList (by rw [Array.length_toList]; exact z1) (by rw [Array.length_toList]; exact z2) (by rw [Array.length_toList]; exact z3)
  rw [hL1, hL6, hL7] at e1
  rw [e1]
  congr 4
  simp
set_option maxHeartbeats 1000000 in
set_option maxRecDepth 100000 in
theorem enc_low (k l s e : Int) (w : World)
    (HM : ∀ w, Calls Try.prog 9 #[.agg #[.int .i64 k, .int .i64 l, .int .i64 s, .int .i64 e]] w fun x w' => x = .returned (.bool false) ∧ Below w.heap.size w w') :
    Calls Try.prog 8 #[.agg #[.int .i64 k, .int .i64 l, .int .i64 s, .int .i64 e]] w fun x w' => x = .returned (.tuple #[.string ⟨#[]⟩, .int .i64 1]) ∧ Below w.heap.size w w' := by
  have hu23 := Try.underlying23
  go_enter Try.func8, Try.ntmps8
  go_wp2_with (first | ((with_reducible refine gate_dst (N := 1) rfl ?_); refine box_event ?hg (N := 1) ?hd (cs := #[.int .i64 k, .int .i64 l, .int .i64 s, .int .i64 e]) (t := 23) ?hr ?_; (case hd => rfl); (case hg => rfl); (case hr => first | (go_simp; done) | (go_simp; rfl)); intro g hg w1 hbox hb; have Hg := Aside0.mk hg; clear hg; have Hb := Aside0.mk hb; clear hb; have c0 : w1.cell? ⟨g, 0, none⟩ = some (.int .i64 k) := (blk_cell hbox 0).trans rfl; have c1 : w1.cell? ⟨g, 1, none⟩ = some (.int .i64 l) := (blk_cell hbox 1).trans rfl; have c2 : w1.cell? ⟨g, 2, none⟩ = some (.int .i64 s) := (blk_cell hbox 2).trans rfl; have c3 : w1.cell? ⟨g, 3, none⟩ = some (.int .i64 e) := (blk_cell hbox 3).trans rfl) | (go_at_call 9; refine (HM _).mono ?_; rintro x w2 ⟨rfl, b2⟩))
  go_ret2
  exact ⟨rfl, Hb.out.trans (b2.mono Hb.out.size)⟩
/-- Which tags may be. -/
def TagP (k l s e : Int) : Prop := (1 ≤ k ∧ k ≤ 4) ∧ (0 ≤ l ∧ l ≤ 4096) ∧ (0 ≤ s ∧ s ≤ 281474976710655) ∧ 0 ≤ e ∧ e ≤ 4294967295
instance (k l s e : Int) : Decidable (TagP k l s e) := by unfold TagP; exact inferInstance
/-- A tag's bytes. -/
def tagB (k l s e : Int) : ByteArray := ⟨#[27, UInt8.ofNat k.toNat] ++ (putB 2 l.toNat).data ++ (putB 6 s.toNat).data ++ (putB 4 e.toNat).data ++ #[0, 0]⟩
def tag_Encode.f (a0 a1 a2 a3 : Int) : Option (ByteArray × Int) := some (if TagP a0 a1 a2 a3 then (tagB a0 a1 a2 a3, 0) else (⟨#[]⟩, 1))
theorem pr_within (x y z : Int) : PR.tag_within.f x y z = some (decide (y ≤ x ∧ x ≤ z)) := by
  unfold PR.tag_within.f
  by_cases h : x ≥ y
  · rw [if_pos h]; exact congrArg some (decide_eq_decide.2 (by omega))
  · rw [if_neg h, decide_eq_false (by omega)]
theorem pr_may (k l s e : Int) : PR.tag_May.f k l s e = some (decide (TagP k l s e)) := by
  have ob : ∀ {α β : Type} (x : α) (f : α → Option β), (some x).bind f = f x := fun _ _ => rfl
  unfold PR.tag_May.f
  rw [pr_within, ob]
  by_cases h1 : 1 ≤ k ∧ k ≤ 4
  · rw [if_pos (decide_eq_true h1), pr_within, ob]
    by_cases h2 : 0 ≤ l ∧ l ≤ 4096
    · rw [if_pos (decide_eq_true h2), pr_within, ob]
      by_cases h3 : 0 ≤ s ∧ s ≤ 281474976710655
      · rw [if_pos (decide_eq_true h3), pr_within, ob]; exact congrArg some (decide_eq_decide.2 (by unfold TagP; omega))
      · rw [if_neg (by simpa using h3), decide_eq_false (by unfold TagP; omega)]
    · rw [if_neg (by simpa using h2), decide_eq_false (by unfold TagP; omega)]
  · rw [if_neg (by simpa using h1), decide_eq_false (by unfold TagP; omega)]
theorem pr_number (v : Int) (n : Nat) (h0 : 0 ≤ v) (hv : v < 18446744073709551616) (h1 : 1 ≤ n) (h8 : n ≤ 8) (h : v.toNat < 256 ^ n) : PR.tag_number.f v (n : Int) = some (putB n v.toNat) := by
  unfold PR.tag_number.f bits_Put.f
  rw [show IntKind.u64.wrap v = v from IntWalk.u64_in v ⟨h0, by omega⟩, if_pos ⟨h0, hv⟩, if_neg (by omega), Int.toNat_natCast, if_pos h]; rfl
theorem pr_size (n v : Nat) : (putB n v).size = n := by unfold putB ByteArray.size; simp
theorem tag_Encode.calls (a0 a1 a2 a3 : Int) (r1 : ByteArray) (r2 : Int) (w : World) (h : tag_Encode.f a0 a1 a2 a3 = some (r1, r2)) :
    Calls Try.prog 8 #[.agg #[.int .i64 a0, .int .i64 a1, .int .i64 a2, .int .i64 a3]] w fun e w' => e = .returned (.tuple #[.string r1, .int .i64 r2]) ∧ Below w.heap.size w w' := by
  have hm := pr_may a0 a1 a2 a3
  unfold tag_Encode.f at h
  by_cases hp : TagP a0 a1 a2 a3
  · rw [if_pos hp] at h
    rw [decide_eq_true hp] at hm
    obtain ⟨rfl, rfl⟩ := Prod.mk.inj (Option.some.inj h)
    unfold TagP at hp
    have n1 : PR.tag_number.f a1 2 = some (putB 2 a1.toNat) := pr_number a1 2 (by omega) (by omega) (by omega) (by omega) (by omega)
    have n2 : PR.tag_number.f a2 6 = some (putB 6 a2.toNat) := pr_number a2 6 (by omega) (by omega) (by omega) (by omega) (by omega)
    have n3 : PR.tag_number.f a3 4 = some (putB 4 a3.toNat) := pr_number a3 4 (by omega) (by omega) (by omega) (by omega) (by omega)
    exact enc_core a0 a1 a2 a3 _ _ _ w (fun w => PR.tag_May.calls _ _ _ _ _ w hm) (fun w => PR.tag_number.calls _ _ _ w n1) (fun w => PR.tag_number.calls _ _ _ w n2) (fun w => PR.tag_number.calls _ _ _ w n3) (by omega) (pr_size ..) (pr_size ..) (pr_size ..)
  · rw [if_neg hp] at h
    rw [decide_eq_false hp] at hm
    obtain ⟨rfl, rfl⟩ := Prod.mk.inj (Option.some.inj h)
    exact enc_low a0 a1 a2 a3 w (fun w => PR.tag_May.calls _ _ _ _ _ w hm)
end Go.Proofs.Ytpghddanjlbcaaa.PQ
