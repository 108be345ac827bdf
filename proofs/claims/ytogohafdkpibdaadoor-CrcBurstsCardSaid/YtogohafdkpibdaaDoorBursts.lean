/- The crc law Bursts: its function answers true; the table lies as laid. -/
import Derived.Test.YtogohafdkpibdaaDoorWalkBursts
import Derived.Test.YtogohafdkpibdaaDoorCommon
import Derived.Test.YtogohafdkpibdaaDoorMathB
namespace Go.Proofs.YtogohafdkpibdaaDoor.Pure
open Go.RowKit Go.Proofs.YtogohafdkpibdaaDoor.PQ Go.Proofs.YtogohafdkpibdaaDoorW.PrintWords Go.Proofs.YtogohafdkpibdaaDoorW.PrintLast Go.Proofs.YtogohafdkpibdaaDoorW.PrintMore
set_option linter.unusedVariables false
set_option linter.unusedSimpArgs false
open CrcMath
theorem wf32 {a : Int} (h : (Lit.int .u32 a).wf = true) : 0 ≤ a ∧ a < 4294967296 := by
  have h' : (decide ((0 : Int) ≤ a) && decide (a ≤ 4294967295)) = true := h
  rw [Bool.and_eq_true, decide_eq_true_eq, decide_eq_true_eq] at h'
  omega
def zrow (l : List Nat) (a u k : Nat) : List UInt8 := (burstN l a u k).map UInt8.ofNat
theorem zrow_nat (l : List Nat) (hl : ∀ b ∈ l, b < 256) (a u k : Nat) : (zrow l a u k).map (·.toNat) = burstN l a u k := by
  unfold zrow
  rw [List.map_map]
  conv => rhs; rw [← List.map_id (burstN l a u k)]
  apply List.map_congr_left
  intro x hx
  have := burstN_lt l hl a u k x hx
  show (UInt8.ofNat x).toNat = x
  rw [UInt8.toNat_ofNat']; omega
theorem zrow_zero (t : ByteArray) (a u : Nat) : zrow (bytesL t) a u 0 = t.data.toList := by
  show (bytesL t).map UInt8.ofNat = _
  unfold bytesL
  rw [List.map_map]
  conv => rhs; rw [← List.map_id t.data.toList]
  apply List.map_congr_left
  intro x _
  show UInt8.ofNat x.toNat = x
  simp
theorem zrow_one (l : List Nat) (hl : ∀ b ∈ l, b < 256) (a u k : Nat) (hb : u / 2 ^ k % 2 = 1) (h : (a + k) / 8 < (zrow l a u k).length) : zrow l a u (k + 1) = (zrow l a u k).set ((a + k) / 8) (UInt8.ofNat ((zrow l a u k)[(a + k) / 8].toNat ^^^ 2 ^ ((a + k) % 8))) := by
  have e : burstN l a u (k + 1) = flipN (burstN l a u k) (a + k) := by
    show (if u / 2 ^ k % 2 = 1 then flipN (burstN l a u k) (a + k) else burstN l a u k) = _
    rw [if_pos hb]
  have h' : (a + k) / 8 < (burstN l a u k).length := by unfold zrow at h; simpa using h
  have hx : (zrow l a u k)[(a + k) / 8].toNat = (burstN l a u k).getD ((a + k) / 8) 0 := by
    rw [List.getD_eq_getElem?_getD, List.getElem?_eq_getElem h', Option.getD_some]
    have := burstN_lt l hl a u k _ (List.getElem_mem h')
    have hg : (zrow l a u k)[(a + k) / 8] = UInt8.ofNat (burstN l a u k)[(a + k) / 8] := List.getElem_map UInt8.ofNat
    rw [hg, UInt8.toNat_ofNat']; omega
  rw [hx]
  unfold zrow
  rw [e]
  unfold flipN
  rw [List.map_set]
set_option maxRecDepth 100000 in
theorem crcBursts_walk (s : ByteArray) (a u : Int) (w : World) {P P2 : Prop} (_ : P) (_ : P2) (w2 : (Lit.int .u32 u).wf = true) (hT : Aside0 (Tabs w)) :
    Calls Tryd.prog 6 #[.string s, .int .i64 a, .int .u32 u] w fun e w' => e = .returned (.bool true) ∧ Below w.heap.size w w' := by
  have c0 : Hid (decklelaw02_works.f = some true) := Lib.hid works_ok
  obtain ⟨hu0, hu1⟩ := wf32 w2
  by_cases hs : 1000 < s.size
  · exact bursts_long s a u w hT hs c0
  by_cases hz : u = 0
  · exact bursts_none s a u w hT (by omega) (by rw [hz]; rfl) c0
  have hz' : (u == 0) = false := by rw [beq_eq_false_iff_ne]; exact hz
  obtain ⟨t, h1, h2, h3⟩ := seal_ok s (by omega)
  by_cases ha : a < 0 ∨ ¬ a < 0 ∧ 8 * (t.size : Int) - 32 < a
  · exact bursts_out s t a u w hT (by omega) (by omega) hz' ha c0 (Lib.hid h1)
  obtain ⟨c, rfl⟩ := Int.eq_ofNat_of_zero_le (a := a) (by omega)
  obtain ⟨v, rfl⟩ := Int.eq_ofNat_of_zero_le hu0
  have hc : c + 32 ≤ 8 * t.size := by omega
  have hl := bytesL_lt t
  have hlen : (burstN (bytesL t) c v 32).length = t.size := by rw [burstN_length, bytesL_length]
  have hb : bytesL ⟨(zrow (bytesL t) c v 32).toArray⟩ = burstN (bytesL t) c v 32 := by
    rw [← zrow_nat (bytesL t) hl c v 32]; unfold bytesL; rfl
  have hw : crc_Whole.f ⟨(zrow (bytesL t) c v 32).toArray⟩ = some false := by
    rw [whole_ok _ (by rw [← bytesL_length, hb, hlen]; omega), hb]
    have e : wholeB (burstN (bytesL t) c v 32) = false := by
      apply Bool.eq_false_iff.2
      intro e
      have h4 := (whole_iff (burstN_lt _ hl c v 32) (by omega)).1 e
      have h5 := more_seal (bytesL_lt s)
      rw [← h2] at h5
      exact burst_more _ hl c v first (by rw [bytesL_length]; exact hc) (by omega) (by omega) (h4.trans h5.symm)
    rw [e]
  exact bursts_core s t c v w hT (by omega) (by omega) hc hz' (by omega) (zrow (bytesL t) c v) (zrow_zero t c v) (fun k => by unfold zrow; rw [List.length_map, burstN_length, bytesL_length])
    (fun k _ hb h => zrow_one _ hl c v k hb h) (fun k hb => by
      show List.map UInt8.ofNat (if v / 2 ^ k % 2 = 1 then flipN (burstN (bytesL t) c v k) (c + k) else burstN (bytesL t) c v k) = _
      rw [if_neg hb]; rfl) c0 (Lib.hid h1) (Lib.hid hw)
end Go.Proofs.YtogohafdkpibdaaDoor.Pure
