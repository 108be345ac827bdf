/- The crc law Bursts: the walk of the law's function over the contracts of package crc, their answers being premises; the table lies as laid. -/
import Derived.Test.YtogohafdkpibdaaDoorPQx1
import Derived.Lib.Hide
import Derived.WalkSpells
import Derived.WalkLawsBesides
import Derived.Laws.IdiomStrings
import Derived.Laws.BitsAllLaws
import Derived.LoopTactic
import Derived.WalkKit
namespace Go.Proofs.YtogohafdkpibdaaDoor.PQ
open Go.RowKit Go.Proofs.YtogohafdkpibdaaDoor.PQ Go.Proofs.YtogohafdkpibdaaDoorW.PrintWords Go.Proofs.YtogohafdkpibdaaDoorW.PrintLast Go.Proofs.YtogohafdkpibdaaDoorW.PrintMore
set_option linter.unusedVariables false
set_option linter.unusedSimpArgs false
/-- Bytes that lie in a block of their own, made since w0. -/
structure RowB (l : List UInt8) (w0 w : World) : Prop where
  cell : ∀ j (h : j < l.length), w.cell? ⟨w0.heap.size, j, none⟩ = some (.int .u8 (l[j].toNat : Int))
  free : ∀ j, j < l.length → w.frozen? ⟨w0.heap.size, j, none⟩ = false
  below : Below w0.heap.size w0 w
theorem RowB.drawn {l : List UInt8} {w0 w w' : World} (h : RowB l w0 w) (d : Drawn0 w w') : RowB l w0 w' := by
  obtain ⟨⟨n, rfl⟩⟩ := d
  exact ⟨h.cell, h.free, pw_below_drewN h.below n⟩
theorem rowB_made (s : ByteArray) (w : World) (e : TypeId) (cap : Nat) :
    RowB s.data.toList w (w.alloc (.cells (bytesRow s cap) e ((bytesRow s cap).size, (bytesRow s cap).size + 1))) := by
  refine ⟨fun j hj => ?_, fun j hj => ?_, below_alloc (Below.refl _ w) _⟩
  · rw [World.cell?_alloc_mark, bytesRow_at s cap j (by simpa using hj)]
    rfl
  · rw [World.frozen?_alloc_mark]
    have : s.data.toList.length ≤ (bytesRow s cap).size := by unfold bytesRow; simp
    rw [decide_eq_false (by omega)]; rfl
theorem RowB.back {l : List UInt8} {w0 w : World} (h : RowB l w0 w) (cap : Nat) : (convert 31 9 (.slice (some ⟨w0.heap.size, 0, none⟩) l.length cap)).run Tryd.prog w = .ok (.string ⟨l.toArray⟩) w :=
  run_convert_bytes_back w 31 9 5 ⟨w0.heap.size, 0, none⟩ cap l Tryd.underlying31 Tryd.underlying5 Tryd.underlying9 (fun j hj => by
    have e : (⟨w0.heap.size, 0, none⟩ : Addr).add j = ⟨w0.heap.size, j, none⟩ := by cases j <;> simp [Addr.add]
    rw [e]; exact h.cell j hj)
theorem RowB.set {l : List UInt8} {w0 w : World} (h : RowB l w0 w) (i : Nat) (hi : i < l.length) (v : UInt8) : RowB (l.set i v) w0 (w.setCell ⟨w0.heap.size, i, none⟩ (.int .u8 (v.toNat : Int))) := by
  refine ⟨fun j hj => ?_, fun j hj => ?_, below_set h.below (Nat.le_refl _)⟩
  · rw [List.length_set] at hj
    by_cases e : i = j
    · subst e
      rw [World.cell?_setCell_same _ _ _ (h.cell i hi), List.getElem_set_self]
    · rw [World.cell?_setCell_other, List.getElem_set_ne e]
      · exact h.cell j hj
      · intro g; injection g; exact e ‹_›
  · rw [List.length_set] at hj
    rw [World.frozen?_setCell]; exact h.free j hj
set_option maxHeartbeats 2000000 in
set_option maxRecDepth 100000 in
theorem bursts_core (s t : ByteArray) (a u : Nat) (w : World) (hT : Aside0 (Tabs w)) (hs : s.size ≤ 1000) (hz : t.size ≤ 1004) (ha : a + 32 ≤ 8 * t.size) (hu0 : ((u : Int) == 0) = false) (hu : u < 4294967296) (Z : Nat → List UInt8)
    (z0 : Z 0 = t.data.toList) (zl : ∀ k, (Z k).length = t.size)
    (z1 : ∀ k, k < 32 → u / 2 ^ k % 2 = 1 → ∀ h : (a + k) / 8 < (Z k).length, Z (k + 1) = (Z k).set ((a + k) / 8) (UInt8.ofNat ((Z k)[(a + k) / 8].toNat ^^^ 2 ^ ((a + k) % 8)))) (z2 : ∀ k, u / 2 ^ k % 2 ≠ 1 → Z (k + 1) = Z k)
    (c0 : Hid (decklelaw02_works.f = some true)) (c1 : Hid (crc_Seal.f s = some t)) (c2 : Hid (crc_Whole.f ⟨(Z 32).toArray⟩ = some false)) :
    Calls Tryd.prog 6 #[.string s, .int .i64 (a : Int), .int .u32 (u : Int)] w fun e w' => e = .returned (.bool true) ∧ Below w.heap.size w w' := by
  have hconv := fun (W : World) => run_bytes_of_string (P := Tryd.prog) W 9 31 5 t Tryd.underlying9 Tryd.underlying31 Tryd.underlying5
  have g0 : decide (1000 < (s.size : Int)) = false := decide_eq_false (by omega)
  have g1 : decide (1000 < s.size) = false := decide_eq_false (by omega)
  have g2 : decide ((a : Int) < 0) = false := decide_eq_false (by omega)
  have g3 : decide (8 * (t.size : Int) - 32 < (a : Int)) = false := decide_eq_false (by omega)
  have hr := fun W cap => rowB_made t W 5 cap
  go_enter Tryd.func6, Tryd.ntmps6
  go_wp2_with fail
  refine (decklelaw02_works.calls true _ hT c0.out).mono ?_
  rintro e w1 ⟨rfl, b1⟩
  have hT1 : Aside0 (Tabs w1) := ⟨tabs_below hT.out b1⟩
  go_wp2_with fail
  refine (crc_Seal.calls _ t _ hT1 c1.out).mono ?_
  rintro e w2 ⟨rfl, b2⟩
  have hT2 : Aside0 (Tabs w2) := ⟨tabs_below hT1.out b2⟩
  go_wp2_with fail
  go_loopw [8] (fun i wr => ∃ k : Nat, k ≤ 32 ∧ i = .int .i64 k ∧ RowB (Z k) w2 wr) (fun i _ => 32 - (intOf i).toNat)
  case atStart => exact ⟨0, Nat.zero_le _, rfl, by rw [z0]; exact (hr w2 _).drawn ⟨⟨1, rfl⟩⟩⟩
  case round =>
    obtain ⟨k, hk, rfl, hR⟩ := hrel
    have hTr : Aside0 (Tabs wr) := ⟨tabs_below hT2.out hR.below⟩
    by_cases hlt : k < 32
    · have hi : (a + k) / 8 < (Z k).length := by rw [zl]; omega
      have hi2 : (a + k) / 8 < t.size := by omega
      have e1 : bits .and .u32 ((u : Int) / 2 ^ k) 1 = ((u / 2 ^ k % 2 : Nat) : Int) := by
        have := u32_and_nat (u / 2 ^ k) 1 (Nat.lt_of_le_of_lt (Nat.div_le_self _ _) hu) (by decide)
        rw [show ((1 : Nat) : Int) = 1 from rfl, Nat.and_one_is_mod] at this
        rw [← this]; simp
      have q1 : Int.tdiv ((a : Int) + (k : Int)) 8 = (((a + k) / 8 : Nat) : Int) := by rw [Int.tdiv_eq_ediv_of_nonneg (by omega)]; omega
      have q2 : Int.tmod ((a : Int) + (k : Int)) 8 = (((a + k) % 8 : Nat) : Int) := by rw [Int.tmod_eq_emod_of_nonneg (by omega)]; omega
      have k2 := hR.cell _ hi
      have f2 := hR.free _ hi
      by_cases hb : u / 2 ^ k % 2 = 1
      · have y0 : (((u / 2 ^ k % 2 : Nat) : Int) == 1) = true := by rw [hb]; rfl
        have y1 : (((u : Int) / 2 ^ k % 2) == 1) = true := by
          have : ((u / 2 ^ k % 2 : Nat) : Int) = (u : Int) / 2 ^ k % 2 := by simp
          rw [← this]; exact y0
        have hz1 := z1 k hlt hb hi
        have hP : 2 ^ ((a + k) % 8) < 256 := Nat.lt_of_lt_of_le (Nat.pow_lt_pow_right (by decide) (Nat.mod_lt (a + k) (by decide))) (by decide)
        have HS : Hid (bits .xor .u8 ((Z k)[(a + k) / 8].toNat : Int) (2 ^ ((a + k) % 8) % 256) = ((UInt8.ofNat ((Z k)[(a + k) / 8].toNat ^^^ 2 ^ ((a + k) % 8))).toNat : Int)) := Lib.hid (by
          have hx := (Z k)[(a + k) / 8].toNat_lt
          have := u8_xor_nat (Z k)[(a + k) / 8].toNat (2 ^ ((a + k) % 8)) hx hP
          have hl : (Z k)[(a + k) / 8].toNat ^^^ 2 ^ ((a + k) % 8) < 256 := Nat.xor_lt_two_pow (n := 8) hx hP
          have e2 : ((2 : Int) ^ ((a + k) % 8) % 256) = ((2 ^ ((a + k) % 8) : Nat) : Int) := by
            rw [← Nat.mod_eq_of_lt hP]; simp
          rw [e2, this, UInt8.toNat_ofNat', Nat.mod_eq_of_lt hl])
        clear hP
        go_wp2_with fail
        go_roundw
        case rel => exact ⟨k + 1, by omega, by go_num, by rw [HS.out, hz1]; exact hR.set _ hi _⟩
        case measure => simp [intOf]; omega
      · have y0 : (((u / 2 ^ k % 2 : Nat) : Int) == 1) = false := by rw [beq_eq_false_iff_ne]; omega
        have y1 : (((u : Int) / 2 ^ k % 2) == 1) = false := by
          have : ((u / 2 ^ k % 2 : Nat) : Int) = (u : Int) / 2 ^ k % 2 := by simp
          rw [← this]; exact y0
        have hz2 := z2 k hb
        go_wp2_with fail
        go_roundw
        case rel => exact ⟨k + 1, by omega, by go_num, by rw [hz2]; exact hR⟩
        case measure => simp [intOf]; omega
    · have : k = 32 := by omega
      subst this
      have hb : ∀ cap, (convert 31 9 (.slice (some ⟨w2.heap.size, 0, none⟩) t.size cap)).run Tryd.prog wr = .ok (.string ⟨(Z 32).toArray⟩) wr := fun cap => by
        have := hR.back cap
        rwa [zl] at this
      go_wp2_with fail
      refine (crc_Whole.calls _ false _ hTr c2.out).mono ?_
      rintro e w4 ⟨rfl, b4⟩
      go_wp2_with fail
      go_ret
      have x2 := below_then b1 b1.size b2
      have x3 := below_then x2 x2.size hR.below
      exact ⟨rfl, below_then x3 x3.size b4⟩
set_option maxHeartbeats 1000000 in
set_option maxRecDepth 100000 in
theorem bursts_long (s : ByteArray) (a u : Int) (w : World) (hT : Aside0 (Tabs w)) (hs : 1000 < s.size) (c0 : Hid (decklelaw02_works.f = some true)) :
    Calls Tryd.prog 6 #[.string s, .int .i64 a, .int .u32 u] w fun e w' => e = .returned (.bool true) ∧ Below w.heap.size w w' := by
  have g0 : decide (1000 < (s.size : Int)) = true := decide_eq_true (by omega)
  have g1 : decide (1000 < s.size) = true := decide_eq_true (by omega)
  go_enter Tryd.func6, Tryd.ntmps6
  go_wp2_with fail
  refine (decklelaw02_works.calls true _ hT c0.out).mono ?_
  rintro e w1 ⟨rfl, b1⟩
  go_wp2_with fail
  go_ret
  exact ⟨rfl, b1⟩
set_option maxHeartbeats 1000000 in
set_option maxRecDepth 100000 in
theorem bursts_none (s : ByteArray) (a u : Int) (w : World) (hT : Aside0 (Tabs w)) (hs : s.size ≤ 1000) (hu0 : (u == 0) = true) (c0 : Hid (decklelaw02_works.f = some true)) :
    Calls Tryd.prog 6 #[.string s, .int .i64 a, .int .u32 u] w fun e w' => e = .returned (.bool true) ∧ Below w.heap.size w w' := by
  have g0 : decide (1000 < (s.size : Int)) = false := decide_eq_false (by omega)
  have g1 : decide (1000 < s.size) = false := decide_eq_false (by omega)
  go_enter Tryd.func6, Tryd.ntmps6
  go_wp2_with fail
  refine (decklelaw02_works.calls true _ hT c0.out).mono ?_
  rintro e w1 ⟨rfl, b1⟩
  go_wp2_with fail
  go_ret
  exact ⟨rfl, b1⟩
set_option maxHeartbeats 1000000 in
set_option maxRecDepth 100000 in
theorem bursts_out (s t : ByteArray) (a u : Int) (w : World) (hT : Aside0 (Tabs w)) (hs : s.size ≤ 1000) (hz : t.size ≤ 1004) (hu0 : (u == 0) = false) (ha : a < 0 ∨ ¬ a < 0 ∧ 8 * (t.size : Int) - 32 < a) (c0 : Hid (decklelaw02_works.f = some true)) (c1 : Hid (crc_Seal.f s = some t)) :
    Calls Tryd.prog 6 #[.string s, .int .i64 a, .int .u32 u] w fun e w' => e = .returned (.bool true) ∧ Below w.heap.size w w' := by
  have hconv := fun (W : World) => run_bytes_of_string (P := Tryd.prog) W 9 31 5 t Tryd.underlying9 Tryd.underlying31 Tryd.underlying5
  have g0 : decide (1000 < (s.size : Int)) = false := decide_eq_false (by omega)
  have g1 : decide (1000 < s.size) = false := decide_eq_false (by omega)
  have hr := fun W cap => rowB_made t W 5 cap
  rcases ha with ha | ⟨ha, ha2⟩
  case' inl => have g2 : decide (a < 0) = true := decide_eq_true ha
  case' inr =>
    have g2 : decide (a < 0) = false := decide_eq_false ha
    have g3 : decide (8 * (t.size : Int) - 32 < a) = true := decide_eq_true ha2
  all_goals
    go_enter Tryd.func6, Tryd.ntmps6
    go_wp2_with fail
    refine (decklelaw02_works.calls true _ hT c0.out).mono ?_
    rintro e w1 ⟨rfl, b1⟩
    have hT1 : Aside0 (Tabs w1) := ⟨tabs_below hT.out b1⟩
    go_wp2_with fail
    refine (crc_Seal.calls _ t _ hT1 c1.out).mono ?_
    rintro e w2 ⟨rfl, b2⟩
    go_wp2_with fail
    go_ret
    have x2 := below_then b1 b1.size b2
    exact ⟨rfl, below_then x2 x2.size ((hr w2 _).drawn ⟨⟨1, rfl⟩⟩).below⟩
end Go.Proofs.YtogohafdkpibdaaDoor.PQ
