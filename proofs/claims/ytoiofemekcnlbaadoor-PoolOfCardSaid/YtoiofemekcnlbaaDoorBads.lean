/- How many are worn, how many have a role, walked. -/
import Derived.Test.YtoiofemekcnlbaaDoorList
import Derived.Outline
namespace Go.Proofs.YtoiofemekcnlbaaDoor.PQ
open Go.RowKit Go.Proofs.YtoiofemekcnlbaaDoorW.PrintWords Go.Proofs.YtoiofemekcnlbaaDoorW.PrintLast Go.Proofs.YtoiofemekcnlbaaDoorW.PrintMore
set_option linter.unusedVariables false
set_option linter.unusedSimpArgs false
theorem C_lit (w : World) (xs : List Int) (e : Nat) (hl : xs.length ≤ 9223372036854775807) : Kd.C (Kd.int .i64) (w.alloc (.cells (xs.map (Value.int .i64)).toArray e)) (some ⟨w.heap.size, 0, none⟩) xs.length xs := by
  refine Kd.C_of_reads (d := (0 : Int)) (h1 := fun _ => rfl) ⟨rfl, hl, fun _ => ⟨_, rfl, fun j hj => ?_⟩⟩
  have ea : (⟨w.heap.size, 0, none⟩ : Addr).add j = ⟨w.heap.size, j, none⟩ := by cases j <;> simp [Addr.add]
  rw [ea, blk_cell (heap_alloc_new w _) j]
  simp [List.getD_eq_getElem?_getD, List.getElem?_eq_getElem hj]
/-- How many blocks are worn, of the first k. -/
def badsK (l : List (Int × Bool)) : Nat → Nat
  | 0 => 0
  | k + 1 => if wn l k = true then badsK l k + 1 else badsK l k
theorem badsK_le (l : List (Int × Bool)) : ∀ k, badsK l k ≤ k
  | 0 => Nat.le_refl _
  | k + 1 => by
    have := badsK_le l k
    unfold badsK
    split <;> omega
set_option maxHeartbeats 4000000 in
set_option maxRecDepth 100000 in
theorem bads_core (l : List (Int × Bool)) (P B : Nat) (w : World) (H : Aside0 (PoolAt l P B w)) :
    Calls Tryd.prog 15 #[.pointer (some ⟨P, 0, none⟩)] w fun e w' => e = .returned (.int .i64 (badsK l l.length)) ∧ Below w.heap.size w w' := by
  have hlen := H.out.len
  have hP0 := H.out.head0
  go_enter Tryd.func15, Tryd.ntmps15
  go_wp2
  clear hP0
  go_loopw [3, 11] (fun v i wr => ∃ k : Nat, k ≤ l.length ∧ i = .int .i64 k ∧ v = .int .i64 (badsK l k) ∧ Aside0 (Below w.heap.size w wr)) (fun _ i _ => l.length - (intOf i).toNat)
  case atStart => exact ⟨0, Nat.zero_le _, rfl, rfl, ⟨Below.refl _ _⟩⟩
  case round =>
    obtain ⟨k, hk, rfl, rfl, HB⟩ := hrel
    have hKl := badsK_le l k
    by_cases hlt : k < l.length
    · have yk : decide ((k : Int) < (l.length : Int)) = true := decide_eq_true (by omega)
      obtain ⟨c0, c1', c2, f1, f2⟩ := (H.out.below HB.out).at_ k hlt
      have hK : badsK l (k + 1) = if wn l k = true then badsK l k + 1 else badsK l k := rfl
      have hBs := Lib.hid HB.out.size
      clear f1 f2 c0
      generalize rl l k = x at *
      cases hm : wn l k with
      | true =>
        rw [hm] at hK c2
        rw [if_pos rfl] at hK
        have hK' := Lib.hid hK
        clear hK hm
        generalize badsK l k = b at *
        go_wp2
        go_roundw
        case rel => exact ⟨k + 1, by omega, by go_num, by rw [hK'.out]; go_num, ⟨HB.out.alloc hBs.out _⟩⟩
        case measure => simp [intOf]; omega
      | false =>
        rw [hm] at hK c2
        rw [if_neg (by decide)] at hK
        have hK' := Lib.hid hK
        clear hK hm
        generalize badsK l k = b at *
        go_wp2
        go_roundw
        case rel => exact ⟨k + 1, by omega, by go_num, by rw [hK'.out], ⟨HB.out.alloc hBs.out _⟩⟩
        case measure => simp [intOf]; omega
    · obtain rfl : k = l.length := by omega
      go_wp2
      go_ret
      exact ⟨rfl, HB.out⟩
set_option maxHeartbeats 1000000 in
set_option maxRecDepth 100000 in
theorem count_core (l : List (Int × Bool)) (P B : Nat) (r : Int) (w : World) (H : Aside0 (PoolAt l P B w)) :
    Calls Tryd.prog 12 #[.pointer (some ⟨P, 0, none⟩), .int .i64 r] w fun e w' => e = .returned (.int .i64 ((listK l [r] l.length).length : Int)) ∧ Below w.heap.size w w' := by
  have hk := listK_len l [r] l.length
  have hlen := H.out.len
  have hl := Lib.hid (show (listK l [r] l.length).length ≤ 64 by omega)
  clear hk hlen
  have hc := Lib.hid fun w1 (hb : Below w.heap.size w w1) (h1 : Aside0 (Kd.C (Kd.int .i64) w1 (some ⟨w.heap.size, 0, none⟩) 1 [r])) => list_core l P B (some ⟨w.heap.size, 0, none⟩) 1 [r] w1 ⟨H.out.below hb⟩ h1 (Lib.hid ⟨by simp, by simp⟩)
  have h1 := Aside0.mk (C_lit w [r] 3 (by simp))
  have hb1 := Aside0.mk (below_alloc (Below.refl w.heap.size w) (.cells #[Value.int .i64 r] 3))
  go_enter Tryd.func12, Tryd.ntmps12
  go_wp2_with fail
  refine (hc.out _ hb1.out h1).mono ?_
  rintro e w2 ⟨⟨v, rfl, hR, hB⟩⟩
  obtain ⟨A, c, rfl⟩ := Kd.R_slice hR
  have hB' := Aside0.mk (hb1.out.trans (hB.mono hb1.out.size))
  clear hc h1 hb1 hR hB
  go_wp2
  go_ret
  exact ⟨rfl, hB'.out⟩
end Go.Proofs.YtoiofemekcnlbaaDoor.PQ
