/- The contract of flipped: nine bytes, with one bit turned; its number may be any, counted round. -/
import Derived.Test.YtalnbmpfgmpkbaaDoorRowb
namespace Go.Proofs.YtalnbmpfgmpkbaaDoor.PQ
open Go.RowKit Go.Proofs.YtalnbmpfgmpkbaaDoorW.PrintWords
set_option linter.unusedVariables false
set_option maxHeartbeats 2000000 in
set_option maxRecDepth 100000 in
theorem flipped_core (s : ByteArray) (k a0 : Int) (c i p : Nat) (neg : Bool) (x : Nat) (w : World) (hs : s.size = 9) (hi : i < 9) (hp : p < 8) (v : UInt8)
    (q0 : Int.tmod k 72 = a0) (hneg : Hid ((neg = true ∧ a0 < 0 ∧ a0 + 72 = (c : Int)) ∨ (neg = false ∧ 0 ≤ a0 ∧ a0 = (c : Int)))) (q1 : Int.tdiv (c : Int) 8 = (i : Int)) (q2 : Int.tmod (c : Int) 8 = (p : Int)) 
    (hsx : ∀ h : i < s.data.toList.length, s.data.toList[i].toNat = x) (hv : Hid (bits .xor .u8 (x : Int) (2 ^ p % 256) = (v.toNat : Int))) :
    Calls Tryd.prog 15 #[.string s, .int .i64 k] w fun e w' => e = .returned (.string ⟨(s.data.toList.set i v).toArray⟩) ∧ Below w.heap.size w w' := by
  have hconv := fun (W : World) => run_bytes_of_string (P := Tryd.prog) W 9 38 5 s Tryd.underlying9 Tryd.underlying38 Tryd.underlying5
  have hi' : i < s.data.toList.length := by
    have : s.data.toList.length = s.size := by rw [Array.length_toList]; rfl
    omega
  have hr := fun cap => rowB_made s w 5 cap
  have hz : ((s.size : Nat) : Int) = 9 := by omega
  have r1 : RowB s.data.toList w (World.drew (w.alloc (.cells (bytesRow s (grownCap w 9 0 5)) 5 ((bytesRow s (grownCap w 9 0 5)).size, (bytesRow s (grownCap w 9 0 5)).size + 1)))) := (hr (grownCap w 9 0 5)).drawn ⟨⟨1, rfl⟩⟩
  have k1 := r1.cell i hi'
  rw [hsx hi'] at k1
  have f1 := r1.free i hi'
  have r2 := ((hr (grownCap w 9 0 5)).set i hi' v).drawn (w' := World.drew _) ⟨⟨1, rfl⟩⟩
  have hb := r2.back (grownCap w 9 0 5)
  have hB := r2.below
  rw [List.length_set, Array.length_toList, show s.data.size = 9 from hs] at hb
  have hx : bits .xor .u8 (x : Int) (2 ^ p % 256) = (v.toNat : Int) := hv.out
  clear r1 r2 hr hsx hv
  rcases hneg.out with ⟨rfl, hn, hc⟩ | ⟨rfl, hn, hc⟩
  · have g0 : decide (a0 < 0) = true := decide_eq_true hn
    go_enter Tryd.func15, Tryd.ntmps15
    go_wp2_with fail
    go_ret
    exact ⟨rfl, hB⟩
  · subst hc
    have g0 : decide ((c : Int) < 0) = false := decide_eq_false (by omega)
    go_enter Tryd.func15, Tryd.ntmps15
    go_wp2_with fail
    go_ret
    exact ⟨rfl, hB⟩
theorem shl_pow (x p : Nat) (hx : x < 256) (hp : p < 8) : bits .xor .u8 (x : Int) (2 ^ p % 256) = ((x ^^^ 2 ^ p : Nat) : Int) ∧ x ^^^ 2 ^ p < 256 := by
  have h2 : 2 ^ p ≤ 2 ^ 7 := Nat.pow_le_pow_right (by decide) (by omega)
  have h3 : ((2 : Int) ^ p) = ((2 ^ p : Nat) : Int) := by simp
  rw [h3]
  generalize 2 ^ p = q at h2 ⊢
  have e : ((q : Nat) : Int) % 256 = (q : Int) := by omega
  rw [e]
  exact ⟨u8_xor_nat _ _ (by omega) (by omega), Nat.xor_lt_two_pow (n := 8) hx (by omega)⟩
def decklelaw03_flipped.f (a0 : ByteArray) (a1 : Int) : Option ByteArray := if a0.size = 9 then some (flipB a0 (a1 % 72).toNat) else none
theorem decklelaw03_flipped.calls (a0 : ByteArray) (a1 : Int) (r : ByteArray) (w : World) (h : decklelaw03_flipped.f a0 a1 = some r) :
    Calls Tryd.prog 15 #[.string a0, .int .i64 a1] w fun e w' => e = .returned (.string r) ∧ Below w.heap.size w w' := by
  unfold decklelaw03_flipped.f at h
  split at h
  case isFalse => cases h
  case isTrue hs =>
  obtain rfl := Option.some.inj h
  obtain ⟨c, hc⟩ := Int.eq_ofNat_of_zero_le (a := a1 % 72) (by omega)
  have hc72 : c < 72 := by omega
  rw [hc, Int.toNat_natCast]
  have hi : c / 8 < a0.data.toList.length := by
    have : a0.data.toList.length = a0.size := by rw [Array.length_toList]; rfl
    omega
  obtain ⟨y1, y2⟩ := shl_pow a0.data.toList[c / 8].toNat (c % 8) a0.data.toList[c / 8].toNat_lt (by omega)
  have e : flipB a0 c = ⟨(a0.data.toList.set (c / 8) (UInt8.ofNat (a0.data.toList[c / 8].toNat ^^^ 2 ^ (c % 8)))).toArray⟩ := by
    unfold flipB
    rw [List.getD_eq_getElem?_getD, List.getElem?_eq_getElem hi]; rfl
  rw [e]
  have hm : Int.tmod a1 72 = (if a1 < 0 ∧ ¬ a1 % 72 = 0 then a1 % 72 - 72 else a1 % 72) := by
    by_cases h0 : 0 ≤ a1
    · rw [Int.tmod_eq_emod_of_nonneg h0, if_neg (by omega)]
    · obtain ⟨b, rfl⟩ : ∃ b : Int, a1 = -b := ⟨-a1, by omega⟩
      rw [Int.neg_tmod, Int.tmod_eq_emod_of_nonneg (by omega)]
      split <;> omega
  refine flipped_core a0 a1 _ c (c / 8) (c % 8) (decide (a1 < 0 ∧ ¬ a1 % 72 = 0)) a0.data.toList[c / 8].toNat w hs (by omega) (by omega) _ hm (Lib.hid ?_) (Int.tdiv_eq_ediv_of_nonneg (by omega)) (Int.tmod_eq_emod_of_nonneg (by omega)) (fun _ => rfl) (Lib.hid ?_)
  · by_cases hq : a1 < 0 ∧ ¬ a1 % 72 = 0
    · left; rw [if_pos hq]; exact ⟨decide_eq_true hq, by omega, by omega⟩
    · right; rw [if_neg hq]; exact ⟨decide_eq_false hq, by omega, by omega⟩
  · rw [y1, UInt8.toNat_ofNat', Nat.mod_eq_of_lt y2]
end Go.Proofs.YtalnbmpfgmpkbaaDoor.PQ
