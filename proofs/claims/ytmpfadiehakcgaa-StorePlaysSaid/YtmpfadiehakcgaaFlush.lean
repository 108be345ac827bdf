/- Flush and Cut, walked. -/
import Derived.Test.YtmpfadiehakcgaaOps
namespace Go.Proofs.Ytmpfadiehakcgaa.PQ
open Go.RowKit Go.Proofs.YtmpfadiehakcgaaW.PrintWords Go.Proofs.YtmpfadiehakcgaaW.PrintLast Go.Proofs.YtmpfadiehakcgaaW.PrintMore
set_option linter.unusedVariables false
set_option linter.unusedSimpArgs false
section
variable {lo up : Nat} {g : G6} {n cx : Nat} {d : Nat → ByteArray} {m : Nat → ByteArray → Bool} {P B cap : Nat} {mb : Nat → Nat} {w w' : World}
def onlyS (s : ByteArray) : ByteArray → Bool := updB (fun _ => false) s
def flM (d : Nat → ByteArray) (m : Nat → ByteArray → Bool) (k j : Nat) : ByteArray → Bool := if j < k then onlyS (d j) else m j
theorem flM_succ (k : Nat) : updM (updM (flM d m k) k (fun _ => false)) k (updB ((updM (flM d m k) k (fun _ => false)) k) (d k)) = flM d m (k + 1) := by
  funext j
  unfold updM flM onlyS
  by_cases h : j = k
  · subst h
    rw [if_pos rfl, if_pos rfl, if_pos (by omega)]
  · rw [if_neg h, if_neg h]
    by_cases h1 : j < k
    · rw [if_pos h1, if_pos (by omega)]
    · rw [if_neg h1, if_neg (by omega)]
theorem flM_zero : flM d m 0 = m := by
  funext j
  unfold flM
  rw [if_neg (by omega)]
set_option maxHeartbeats 4000000 in
theorem flush_calls (H : Aside0 (SAt lo up g n cx d m P B cap mb w)) (hd : Aside0 (∀ i, i < n → (d i).size ≤ maxLen)) (hcx : cx + n < 1000000) :
    Calls Try.prog 14 #[.pointer (some ⟨P, 0, none⟩)] w fun e w' => e = .returned (.tuple #[]) ∧ Aside0 (SAt lo up g n (cx + n) d (flM d m n) P B cap mb w' ∧ Ch (Blk lo up) w w') := by
  obtain ⟨_, c6⟩ := H.out.cells
  go_enter Try.func14, Try.ntmps14
  go_wp2
  go_loopw [9] (fun y wr => ∃ (k : Nat), k ≤ n ∧ y = .int .i64 (k : Int) ∧ Aside0 (SAt lo up g n (cx + k) d (flM d m k) P B cap mb wr ∧ Ch (Blk lo up) w wr)) (fun y _ => n - (intOf y).toNat)
  case atStart => exact ⟨0, Nat.zero_le _, rfl, ⟨by rw [flM_zero]; exact H.out, Ch.refl _ _⟩⟩
  case round =>
    obtain ⟨k, hk, rfl, HJ⟩ := hrel
    clear c6 H
    by_cases hlt : k < n
    · have yk : decide ((k : Int) < (n : Int)) = true := decide_eq_true (by omega)
      obtain ⟨d0, d1, _⟩ := HJ.out.1.cell hlt
      have hX := Lib.hid HJ.out.1.hw
      have HJ1 := Aside0.mk (And.intro (HJ.out.1.alloc (.cells #[.string (d k), .map (some (mb k))] 63)) (HJ.out.2.alloc (.cells #[.string (d k), .map (some (mb k))] 63)))
      have hb := heap_alloc_new wr (.cells #[.string (d k), .map (some (mb k))] 63)
      have e0 : (wr.alloc (.cells #[.string (d k), .map (some (mb k))] 63)).cell? ⟨wr.heap.size, 0, none⟩ = some (.string (d k)) := blk_cell hb 0
      have e1 : (wr.alloc (.cells #[.string (d k), .map (some (mb k))] 63)).cell? ⟨wr.heap.size, 1, none⟩ = some (.map (some (mb k))) := blk_cell hb 1
      obtain ⟨w2, hrun2, hA2, hC2⟩ := HJ1.out.1.clear hlt
      have hb2 := (hC2.block wr.heap.size (blk_lt hb) (fun h => by have := h.2; have := hX.out; omega)).trans hb
      have f0 : w2.cell? ⟨wr.heap.size, 0, none⟩ = some (.string (d k)) := blk_cell hb2 0
      have f1 : w2.cell? ⟨wr.heap.size, 1, none⟩ = some (.map (some (mb k))) := blk_cell hb2 1
      obtain ⟨w3, hrun3, hA3, hC3⟩ := hA2.issue hlt (by omega) (d k) (hd.out k hlt)
      rw [flM_succ] at hA3
      have F := Aside0.mk (And.intro hA3 ((HJ1.out.2.trans hC2).trans hC3))
      clear hA2 hC2 hA3 hC3 HJ HJ1 hb hb2 hX
      go_wp2
      go_roundw
      case rel => exact ⟨k + 1, by omega, rfl, F⟩
      case measure => (simp [intOf]; omega)
    · obtain rfl : k = n := by omega
      have yk : decide ((k : Int) < (k : Int)) = false := decide_eq_false (by omega)
      go_wp2
      go_end0
      exact ⟨rfl, HJ⟩
/-- A row of texts at a place. -/
def sd (l : List ByteArray) (k : Nat) : ByteArray := l.getD k ByteArray.empty
theorem sd_get {l : List ByteArray} {k : Nat} (h : k < l.length) : sd l k = l[k] := by
  unfold sd
  rw [List.getD_eq_getElem?_getD, List.getElem?_eq_getElem h]
  rfl
theorem at_str {A : Option Addr} {k0 : Nat} {l : List ByteArray} (h : Kd.C Kd.string w A k0 l) (k : Nat) (hk : k < k0) : ∃ ad, A = some ad ∧ w.cell? (ad.add k) = some (.string (sd l k)) := by
  obtain ⟨ad, c, e, _, hK, hc⟩ := Kd.C_get h ByteArray.empty (k : Int) (by omega) (by omega)
  have hK' : c = [.string (l.getD (k : Int).toNat ByteArray.empty)] := hK
  subst hK'
  have h1 := hc 0 _ rfl
  rw [Int.toNat_natCast] at h1
  refine ⟨ad, e, ?_⟩
  have h2 : k * (Kd.string).sz + 0 = k := Nat.mul_one k
  rw [h2] at h1
  exact h1
/-- The sectors' texts, where the first k are told anew. -/
def cutD (d : Nat → ByteArray) (l : List ByteArray) (k j : Nat) : ByteArray := if j < k then sd l j else d j
theorem cutD_succ (l : List ByteArray) (k : Nat) : updD (cutD d l k) k (sd l k) = cutD d l (k + 1) := by
  funext j
  unfold updD cutD
  by_cases h : j = k
  · subst h
    rw [if_pos rfl, if_pos (by omega)]
  · rw [if_neg h]
    by_cases h1 : j < k
    · rw [if_pos h1, if_pos (by omega)]
    · rw [if_neg h1, if_neg (by omega)]
theorem cutD_zero (l : List ByteArray) : cutD d l 0 = d := by
  funext j
  unfold cutD
  rw [if_neg (by omega)]
set_option maxHeartbeats 4000000 in
theorem cut_len (H : Aside0 (SAt lo up g n cx d m P B cap mb w)) (A : Option Addr) (c : Nat) (l : List ByteArray) (hl : l.length ≠ n) :
    Calls Try.prog 16 #[.pointer (some ⟨P, 0, none⟩), .slice A l.length c] w fun e w' => e = .returned (.int .i64 4) ∧ w' = w := by
  obtain ⟨_, c6⟩ := H.out.cells
  have z : ((l.length : Int) != (n : Int)) = true := by rw [bne_iff_ne]; omega
  go_enter Try.func16, Try.ntmps16
  go_wp2
  go_ret
  exact ⟨rfl, rfl⟩
/-- What becomes of a cut: refused, for a sector may not hold what is told of it; or each holds that, and that alone. -/
inductive CutR (lo up : Nat) (g : G6) (n cx : Nat) (d : Nat → ByteArray) (m : Nat → ByteArray → Bool) (P B cap : Nat) (mb : Nat → Nat) (w : World) (l : List ByteArray) : Int → World → Prop
  | no (i : Nat) (hi : i < n) (h : m i (sd l i) = false) : CutR lo up g n cx d m P B cap mb w l 5 w
  | yes (w' : World) (h : ∀ i, i < n → m i (sd l i) = true) (hA : SAt lo up g n (cx + n) (cutD d l n) (flM (cutD d l n) m n) P B cap mb w') (hC : Ch (Blk lo up) w w') : CutR lo up g n cx d m P B cap mb w l 0 w'
set_option maxHeartbeats 4000000 in
theorem cut_calls (H : Aside0 (SAt lo up g n cx d m P B cap mb w)) (A : Option Addr) (c : Nat) (l : List ByteArray) (hl : l.length = n) (hr : Aside0 (∀ wr, Ch (Blk lo up) w wr → Kd.C Kd.string wr A l.length l)) (hw : Aside0 (∀ s ∈ l, s.size ≤ maxLen)) (hcx : cx + n < 1000000) :
    Calls Try.prog 16 #[.pointer (some ⟨P, 0, none⟩), .slice A l.length c] w fun e w' => ∃ r : Int, e = .returned (.int .i64 r) ∧ CutR lo up g n cx d m P B cap mb w l r w' := by
  subst hl
  obtain ⟨_, c6⟩ := H.out.cells
  have hws : Aside0 (∀ i, i < l.length → (sd l i).size ≤ maxLen) := ⟨fun i hi => by rw [sd_get hi]; exact hw.out _ (List.getElem_mem hi)⟩
  clear hw
  have z : ((l.length : Int) != (l.length : Int)) = false := by rw [bne_eq_false_iff_eq]
  have hlo := Lib.hid (show lo ≤ w.heap.size ∧ l.length ≤ 4096 from ⟨by have := H.out.hw; have := H.out.rP; omega, H.out.hn⟩)
  go_enter Try.func16, Try.ntmps16
  go_wp2
  go_loopw [19] (fun y wr => ∃ (k : Nat), k ≤ l.length ∧ y = .int .i64 (k : Int) ∧ Aside0 (w = wr) ∧ Aside0 (∀ i, i < k → m i (sd l i) = true)) (fun y _ => l.length - (intOf y).toNat)
  case atStart => exact ⟨0, Nat.zero_le _, rfl, ⟨rfl⟩, ⟨fun i hi => absurd hi (Nat.not_lt_zero i)⟩⟩
  case round =>
    obtain ⟨k, hk, rfl, hwr, HJ⟩ := hrel
    obtain ⟨rfl⟩ := hwr
    by_cases hlt : k < l.length
    · have yk : decide ((k : Int) < (l.length : Int)) = true := decide_eq_true (by omega)
      obtain ⟨ad, rfl, d0⟩ := at_str (hr.out _ (Ch.refl _ _)) k hlt
      have q := Lib.hid (may_at H k hlt (sd l k) (hws.out k hlt))
      have hs := Lib.hid (show ∀ i, m i (sd l i) = m i (sd l i) from fun _ => rfl)
      go_wp2_with fail
      refine q.out.mono ?_
      rintro e w1 ⟨rfl, rfl⟩
      cases hm : m k (sd l k) with
      | false =>
        go_wp2
        go_ret
        exact ⟨5, rfl, .no k hlt hm⟩
      | true =>
        go_wp2
        go_roundw
        case rel =>
          refine ⟨k + 1, by omega, rfl, ⟨trivial⟩, ⟨fun i hi => ?_⟩⟩
          by_cases h : i = k
          · rw [h]; exact hm
          · exact HJ.out i (by omega)
        case measure => (simp [intOf]; omega)
    · obtain rfl : k = l.length := by omega
      have yk : decide ((l.length : Int) < (l.length : Int)) = false := decide_eq_false (by omega)
      have hall := HJ
      clear HJ
      go_wp2
      go_loopw [32] (fun y wr => ∃ (k : Nat), k ≤ l.length ∧ y = .int .i64 (k : Int) ∧ Aside0 (SAt lo up g l.length cx (cutD d l k) m P B cap mb wr ∧ Ch (Blk lo up) w wr)) (fun y _ => l.length - (intOf y).toNat)
      case atStart => exact ⟨0, Nat.zero_le _, rfl, ⟨by rw [cutD_zero]; exact H.out, Ch.refl _ _⟩⟩
      case round =>
        obtain ⟨k, hk, rfl, HJ⟩ := hrel
        by_cases hlt : k < l.length
        · have yk : decide ((k : Int) < (l.length : Int)) = true := decide_eq_true (by omega)
          obtain ⟨ad, rfl, d0⟩ := at_str (hr.out _ HJ.out.2) k hlt
          obtain ⟨_, c6⟩ := HJ.out.1.cells
          obtain ⟨_, _, f0⟩ := HJ.out.1.cell hlt
          have hA := HJ.out.1.setD hlt (sd l k)
          rw [cutD_succ] at hA
          have F := Aside0.mk (And.intro hA (HJ.out.2.trans (Ch.set (S := Blk lo up) wr ⟨B, k * 2, none⟩ (.string (sd l k)) HJ.out.1.rB)))
          clear hA HJ H hall
          go_wp2
          go_roundw
          case rel => exact ⟨k + 1, by omega, rfl, F⟩
          case measure => (simp [intOf]; omega)
        · obtain rfl : k = l.length := by omega
          have yk : decide ((l.length : Int) < (l.length : Int)) = false := decide_eq_false (by omega)
          have q := Lib.hid (flush_calls (Aside0.mk HJ.out.1) ⟨fun i hi => by unfold cutD; rw [if_pos hi]; exact hws.out i hi⟩ hcx)
          go_wp2_with fail
          refine q.out.mono ?_
          rintro e w9 ⟨rfl, hA⟩
          go_wp2
          go_ret
          exact ⟨0, rfl, .yes _ hall.out hA.out.1 (HJ.out.2.trans hA.out.2)⟩
end
end Go.Proofs.Ytmpfadiehakcgaa.PQ
