/- The place of a number among the spans, walked. -/
import Derived.Test.YtaandjafmmpbkaaSet
import Derived.Outline
namespace Go.Proofs.Ytaandjafmmpbkaa.PQ
open Go.RowKit Go.Proofs.YtaandjafmmpbkaaW.PrintWords Go.Proofs.YtaandjafmmpbkaaW.PrintLast Go.Proofs.YtaandjafmmpbkaaW.PrintMore
set_option linter.unusedVariables false
set_option linter.unusedSimpArgs false
set_option maxHeartbeats 4000000 in
set_option maxRecDepth 100000 in
theorem clos31 (l : List S27) (P base : Nat) (A : Option Addr) (c : Nat) (B1 B2 k : Nat) (n : Int) (w : World) (H : Aside0 (SetAt l P base (.slice A l.length c) w)) (h1 : w.cell? ⟨B1, 0, none⟩ = some (.pointer (some ⟨P, 0, none⟩))) (h2 : w.cell? ⟨B2, 0, none⟩ = some (.int .i64 n)) (hk : k < l.length) :
    Calls Try.prog 31 #[.int .i64 k, .pointer (some ⟨B1, 0, none⟩), .pointer (some ⟨B2, 0, none⟩)] w fun e w' => e = .returned (.bool (decide (n ≤ (rd_T27 l k).f1))) ∧ Drawn0 w w' := by
  obtain ⟨g, rfl, c0, c1⟩ := H.out.elem k hk
  have hP := H.out.head0
  have i0 : decide ((0 : Int) ≤ (k : Int)) = true := decide_eq_true (by omega)
  have i1 : decide ((k : Int) < (l.length : Int)) = true := decide_eq_true (by omega)
  generalize (rd_T27 l k).f0 = x0 at *
  generalize (rd_T27 l k).f1 = x1 at *
  go_enter Try.func31, Try.ntmps31
  go_wp2
  go_quiet (fail)
  go_wp2
  go_ret
  exact ⟨rfl, ⟨⟨_, rfl⟩⟩⟩
set_option maxHeartbeats 4000000 in
set_option maxRecDepth 100000 in
theorem search_core (l : List S27) (P base : Nat) (A : Option Addr) (c : Nat) (B1 B2 : Nat) (n lo : Int) (w : World) (H : Aside0 (SetAt l P base (.slice A l.length c) w)) (hS : Aside0 (Sp lo l)) (h1 : Aside0 (w.cell? ⟨B1, 0, none⟩ = some (.pointer (some ⟨P, 0, none⟩)))) (h2 : Aside0 (w.cell? ⟨B2, 0, none⟩ = some (.int .i64 n))) (hlen : l.length ≤ 10000) :
    Calls Try.prog 30 #[.int .i64 l.length, .func (.func 31) #[] #[.pointer (some ⟨B1, 0, none⟩), .pointer (some ⟨B2, 0, none⟩)]] w fun e w' => Aside0 (∃ i : Nat, e = .returned (.int .i64 i) ∧ At l n i) ∧ Drawn0 w w' := by
  go_enter Try.func30, Try.ntmps30
  go_wp2
  go_loopw [5, 6] (fun x y wr => ∃ i j : Nat, i ≤ j ∧ j ≤ l.length ∧ x = .int .i64 i ∧ y = .int .i64 j ∧ Aside0 ((∀ k : Nat, k < i → (rd_T27 l k).f1 < n) ∧ ∀ k : Nat, j ≤ k → k < l.length → n ≤ (rd_T27 l k).f1) ∧ Drawn0 w wr) (fun x y _ => (intOf y).toNat - (intOf x).toNat)
  case atStart => exact ⟨0, l.length, by omega, by omega, rfl, rfl, ⟨fun k hk => by omega, fun k hk hk2 => by omega⟩, Drawn0.refl _⟩
  case round =>
    obtain ⟨i, j, hij, hj, rfl, rfl, HK, ⟨nd, rfl⟩⟩ := hrel
    by_cases hlt : i < j
    · have yk : decide ((i : Int) < (j : Int)) = true := decide_eq_true (by omega)
      have em : Hid (((i : Int) + (j : Int)) / 2 = (((i + j) / 2 : Nat) : Int)) := Lib.hid (by omega)
      have hm1 : Hid (i ≤ (i + j) / 2 ∧ (i + j) / 2 < j) := Lib.hid (by omega)
      go_wp2_with fail
      rw [em.out]
      clear em
      generalize (i + j) / 2 = m at *
      obtain ⟨hm1, hm2⟩ := hm1.out
      refine (clos31 l P base A c B1 B2 m n (w.drewN nd) ⟨H.out.drawn ⟨⟨nd, rfl⟩⟩⟩ h1.out h2.out (by omega)).mono ?_
      rintro e w2 ⟨rfl, ⟨m2, rfl⟩⟩
      by_cases hx : n ≤ (rd_T27 l m).f1
      · rw [decide_eq_true hx]
        have HK2 : Aside0 ((∀ k : Nat, k < i → (rd_T27 l k).f1 < n) ∧ ∀ k : Nat, m ≤ k → k < l.length → n ≤ (rd_T27 l k).f1) := ⟨HK.out.1, fun k h1 h2 => Int.le_trans hx (hS.out.monoT m k h1 h2)⟩
        clear hx HK
        go_wp2
        go_roundw
        case rel => exact ⟨i, m, by omega, by omega, rfl, rfl, HK2, ⟨⟨nd + m2, rfl⟩⟩⟩
        case measure => simp [intOf]; omega
      · rw [decide_eq_false hx]
        have HK2 : Aside0 ((∀ k : Nat, k < m + 1 → (rd_T27 l k).f1 < n) ∧ ∀ k : Nat, j ≤ k → k < l.length → n ≤ (rd_T27 l k).f1) := ⟨fun k h1 => Int.lt_of_le_of_lt (hS.out.monoT k m (by omega) (by omega)) (by omega), HK.out.2⟩
        clear hx HK
        go_wp2
        go_roundw
        case rel => exact ⟨m + 1, j, by omega, by omega, by go_num, rfl, HK2, ⟨⟨nd + m2, rfl⟩⟩⟩
        case measure => simp [intOf]; omega
    · obtain rfl : i = j := by omega
      have hA : Aside0 (At l n i) := ⟨⟨hj, HK.out.1, HK.out.2⟩⟩
      clear HK hlt
      go_wp2
      go_ret
      exact ⟨⟨i, rfl, hA.out⟩, ⟨⟨nd, rfl⟩⟩⟩
set_option maxHeartbeats 1000000 in
set_option maxRecDepth 100000 in
theorem at_core (l : List S27) (P base : Nat) (v : Value) (n lo : Int) (w : World) (H : Aside0 (SetAt l P base v w)) (hS : Aside0 (Sp lo l)) (hlen : l.length ≤ 10000) :
    Calls Try.prog 27 #[.pointer (some ⟨P, 0, none⟩), .int .i64 n] w fun e w' => Aside0 (∃ i : Nat, e = .returned (.int .i64 i) ∧ At l n i ∧ Below w.heap.size w w') := by
  obtain ⟨A, c, rfl⟩ := H.out.slice
  have hb := Aside0.mk (((Below.refl w.heap.size w).alloc (Nat.le_refl _) (.cells #[.pointer (some ⟨P, 0, none⟩)] 24)).alloc (by simp) (.cells #[.int .i64 n] 3))
  have hB1 : Aside0 (((w.alloc (.cells #[.pointer (some ⟨P, 0, none⟩)] 24)).alloc (.cells #[.int .i64 n] 3)).cell? ⟨w.heap.size, 0, none⟩ = some (.pointer (some ⟨P, 0, none⟩))) := ⟨blk_cell (blk_alloc (heap_alloc_new w _) _) 0⟩
  have hB2 : Aside0 (((w.alloc (.cells #[.pointer (some ⟨P, 0, none⟩)] 24)).alloc (.cells #[.int .i64 n] 3)).cell? ⟨w.heap.size + 1, 0, none⟩ = some (.int .i64 n)) := ⟨by have := blk_cell (heap_alloc_new (w.alloc (.cells #[.pointer (some ⟨P, 0, none⟩)] 24)) (.cells #[.int .i64 n] 3)) 0; rw [World.size_alloc] at this; exact this⟩
  have hC := Lib.hid (search_core l P base A c w.heap.size (w.heap.size + 1) n lo _ ⟨H.out.below hb.out⟩ hS hB1 hB2 hlen)
  have hP := H.out.head0
  have hP2 := (H.out.below hb.out).head0
  clear hB1 hB2 H
  go_enter Try.func27, Try.ntmps27
  go_wp2_with fail
  refine hC.out.mono ?_
  rintro e w2 ⟨⟨i, rfl, hi⟩, hd⟩
  have hi' := Aside0.mk hi
  have hb' := Aside0.mk (hb.out.trans (drawn_any hd))
  clear hC hi hd hb
  go_wp2
  go_ret
  exact ⟨⟨i, rfl, hi'.out, hb'.out⟩⟩
end Go.Proofs.Ytaandjafmmpbkaa.PQ
