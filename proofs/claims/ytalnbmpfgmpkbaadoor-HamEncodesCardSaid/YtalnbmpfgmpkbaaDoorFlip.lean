/- The contract of the document's Flip: one bit of some bytes, turned. -/
import Derived.Test.YtalnbmpfgmpkbaaDoorPQx2
import Derived.Test.YtalnbmpfgmpkbaaDoorRowb
namespace Go.Proofs.YtalnbmpfgmpkbaaDoor.PQ
open Go.RowKit Go.Proofs.YtalnbmpfgmpkbaaDoorW.PrintWords
set_option linter.unusedVariables false
set_option maxHeartbeats 1000000 in
set_option maxRecDepth 100000 in
theorem flip_core (s : ByteArray) (c i p : Nat) (x P b : Int) (w : World) (hi : i < s.size) (hi2 : i ≤ 1152921504606846976) (q1 : Int.tdiv (c : Int) 8 = (i : Int)) (q2 : Int.tmod (c : Int) 8 = (p : Int)) (hx : 0 ≤ x ∧ x < 256) (hP : 1 ≤ P ∧ P ≤ 128) 
    (hsx : ∀ h : i < s.data.toList.length, (s.data.toList[i].toNat : Int) = x)
    (c1 : Hid (deckleref01_Power.f 70 (p : Int) = some P)) (c2 : Hid (deckleref01_Bit.f 70 x (p : Int) = some b)) (v : UInt8) (hv : Hid ((b = 1 ∧ P ≤ x ∧ (v.toNat : Int) = x - P) ∨ (b = 0 ∧ x + P < 256 ∧ (v.toNat : Int) = x + P))) :
    Calls Tryd.prog 23 #[.string s, .int .i64 (c : Int)] w fun e w' => e = .returned (.tuple #[.string ⟨(s.data.toList.set i v).toArray⟩, .int .i64 0]) ∧ Below w.heap.size w w' := by
  have hconv := fun (W : World) => run_bytes_of_string (P := Tryd.prog) W 9 38 5 s Tryd.underlying9 Tryd.underlying38 Tryd.underlying5
  have g0 : decide ((c : Int) < 0) = false := decide_eq_false (by omega)
  have g1 : decide ((s.size : Int) ≤ (i : Int)) = false := decide_eq_false (by omega)
  have g2 : wrap64 (i : Int) = (i : Int) := by unfold wrap64; omega
  have hi' : i < s.data.toList.length := by simpa using hi
  have hr := fun cap => rowB_made s w 5 cap
  go_enter Tryd.func23, Tryd.ntmps23
  go_wp2_with fail
  refine (deckleref01_Power.calls 70 _ _ _ c1.out).mono ?_
  rintro e w1 ⟨rfl, d1⟩
  have r1 := (hr _).drawn ⟨⟨1, rfl⟩⟩ |>.drawn d1
  have k1 := r1.cell i hi'
  rw [hsx hi'] at k1
  clear hr
  go_wp2_with fail
  refine (deckleref01_Bit.calls 70 _ _ _ _ c2.out).mono ?_
  rintro e w2 ⟨rfl, d2⟩
  have r2 := r1.drawn d2
  have k2 := r2.cell i hi'
  have f2 := r2.free i hi'
  rw [hsx hi'] at k2
  have r3 := r2.set i hi' v
  have hb : ∀ cap, (convert 38 9 (.slice (some ⟨w.heap.size, 0, none⟩) s.size cap)).run Tryd.prog (w2.setCell ⟨w.heap.size, i, none⟩ (.int .u8 (v.toNat : Int))) = .ok (.string ⟨(s.data.toList.set i v).toArray⟩) (w2.setCell ⟨w.heap.size, i, none⟩ (.int .u8 (v.toNat : Int))) := fun cap => by
    have := r3.back cap
    rwa [List.length_set, Array.length_toList] at this
  have hB := r3.below
  clear k1 r1 d1 d2 r2 r3 hsx
  rcases hv.out with ⟨rfl, hle, hvv⟩ | ⟨rfl, hle, hvv⟩
  · rw [hvv] at hb hB
    have y0 : (((1 : Int)) == 1) = true := rfl
    go_wp2_with fail
    go_ret2
    exact ⟨rfl, hB⟩
  · rw [hvv] at hb hB
    have y0 : (((0 : Int)) == 1) = false := rfl
    go_wp2_with fail
    go_ret2
    exact ⟨rfl, hB⟩
def deckleref01_Flip.f (a0 : ByteArray) (a1 : Int) : Option (ByteArray × Int) :=
  if a1 < -9223372036854775808 ∨ 9223372036854775807 < a1 then none else if a1 < 0 ∨ (a0.size : Int) ≤ a1 / 8 then some (⟨#[]⟩, 1) else if a0.size ≤ 1000 then some (flipB a0 a1.toNat, 0) else none
theorem powers : ∀ p < 8, deckleref01_Power.f 70 ((p : Nat) : Int) = some ((2 ^ p : Nat) : Int) := by decide +kernel
theorem bits_ : ∀ x < 256, ∀ p < 8, deckleref01_Bit.f 70 ((x : Nat) : Int) ((p : Nat) : Int) = some ((x / 2 ^ p % 2 : Nat) : Int) := by decide +kernel
theorem turned_ : ∀ x < 256, ∀ p < 8, (x / 2 ^ p % 2 = 1 ∧ 2 ^ p ≤ x ∧ x ^^^ 2 ^ p = x - 2 ^ p) ∨ (x / 2 ^ p % 2 = 0 ∧ x + 2 ^ p < 256 ∧ x ^^^ 2 ^ p = x + 2 ^ p) := by decide +kernel
set_option maxHeartbeats 1000000 in
set_option maxRecDepth 100000 in
theorem flip_low (s : ByteArray) (c : Int) (w : World) (h : c < 0) :
    Calls Tryd.prog 23 #[.string s, .int .i64 c] w fun e w' => e = .returned (.tuple #[.string ⟨#[]⟩, .int .i64 1]) ∧ Below w.heap.size w w' := by
  have g0 : decide (c < 0) = true := decide_eq_true h
  go_enter Tryd.func23, Tryd.ntmps23
  go_wp2
  go_ret2
  exact ⟨rfl, Below.refl _ w⟩
set_option maxHeartbeats 1000000 in
set_option maxRecDepth 100000 in
theorem flip_high (s : ByteArray) (c i : Int) (w : World) (h : ¬ c < 0) (q1 : Int.tdiv c 8 = i) (g2 : wrap64 i = i) (hi : (s.size : Int) ≤ i) :
    Calls Tryd.prog 23 #[.string s, .int .i64 c] w fun e w' => e = .returned (.tuple #[.string ⟨#[]⟩, .int .i64 1]) ∧ Below w.heap.size w w' := by
  have g0 : decide (c < 0) = false := decide_eq_false h
  have g1 : decide ((s.size : Int) ≤ i) = true := decide_eq_true hi
  go_enter Tryd.func23, Tryd.ntmps23
  go_wp2
  go_ret2
  exact ⟨rfl, Below.refl _ w⟩
theorem deckleref01_Flip.calls (a0 : ByteArray) (a1 : Int) (r1 : ByteArray) (r2 : Int) (w : World) (h : deckleref01_Flip.f a0 a1 = some (r1, r2)) :
    Calls Tryd.prog 23 #[.string a0, .int .i64 a1] w fun e w' => e = .returned (.tuple #[.string r1, .int .i64 r2]) ∧ Below w.heap.size w w' := by
  unfold deckleref01_Flip.f at h
  split at h
  · cases h
  · rename_i hr
    split at h
    · rename_i hb
      obtain ⟨rfl, rfl⟩ := Prod.mk.inj (Option.some.inj h)
      by_cases h0 : a1 < 0
      · exact flip_low a0 a1 w h0
      · refine flip_high a0 a1 (a1 / 8) w h0 (Int.tdiv_eq_ediv_of_nonneg (by omega)) ?_ (by omega)
        unfold wrap64; omega
    · rename_i hb
      split at h
      · rename_i hs
        obtain ⟨rfl, rfl⟩ := Prod.mk.inj (Option.some.inj h)
        obtain ⟨c, rfl⟩ := Int.eq_ofNat_of_zero_le (a := a1) (by omega)
        have hi : c / 8 < a0.data.toList.length := by
          have : a0.data.toList.length = a0.size := by rw [Array.length_toList]; rfl
          omega
        have hx : a0.data.toList[c / 8].toNat < 256 := a0.data.toList[c / 8].toNat_lt
        have ht := turned_ _ hx (c % 8) (by omega)
        have hP : 2 ^ (c % 8) ≤ 2 ^ 7 := Nat.pow_le_pow_right (by decide) (by omega)
        have hP0 : 0 < 2 ^ (c % 8) := Nat.pow_pos (by decide)
        have hv : (UInt8.ofNat (a0.data.toList[c / 8].toNat ^^^ 2 ^ (c % 8))).toNat = a0.data.toList[c / 8].toNat ^^^ 2 ^ (c % 8) := by
          rw [UInt8.toNat_ofNat']; omega
        have go := flip_core a0 c (c / 8) (c % 8) (a0.data.toList[c / 8].toNat : Int) ((2 ^ (c % 8) : Nat) : Int) ((a0.data.toList[c / 8].toNat / 2 ^ (c % 8) % 2 : Nat) : Int) w (by omega) (by omega) (Int.tdiv_eq_ediv_of_nonneg (by omega)) (Int.tmod_eq_emod_of_nonneg (by omega)) ⟨by omega, by omega⟩ ⟨by omega, by omega⟩ (fun _ => rfl)
          (Lib.hid (powers _ (by omega))) (Lib.hid (bits_ _ hx _ (by omega))) (UInt8.ofNat (a0.data.toList[c / 8].toNat ^^^ 2 ^ (c % 8))) (Lib.hid (by
            rw [hv]
            rcases ht with ⟨t1, t2, t3⟩ | ⟨t1, t2, t3⟩
            · left; rw [t1, t3]; refine ⟨rfl, by omega, by omega⟩
            · right; rw [t1, t3]; refine ⟨rfl, by omega, by omega⟩))
        have e : flipB a0 ((c : Nat) : Int).toNat = ⟨(a0.data.toList.set (c / 8) (UInt8.ofNat (a0.data.toList[c / 8].toNat ^^^ 2 ^ (c % 8)))).toArray⟩ := by
          unfold flipB
          rw [Int.toNat_natCast, List.getD_eq_getElem?_getD, List.getElem?_eq_getElem hi]; rfl
        rw [e]
        exact go
      · cases h
end Go.Proofs.YtalnbmpfgmpkbaaDoor.PQ
