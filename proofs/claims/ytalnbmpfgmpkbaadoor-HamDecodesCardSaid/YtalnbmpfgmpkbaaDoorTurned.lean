/- The contract of ham.turned: eight bytes, with the bit turned that has a place, if one has; where the table lies as laid. -/
import Derived.Test.YtalnbmpfgmpkbaaDoorFlipped
import Derived.Test.YtalnbmpfgmpkbaaDoorLeft
namespace Go.Proofs.YtalnbmpfgmpkbaaDoor.PQ
open Go.RowKit Go.Proofs.YtalnbmpfgmpkbaaDoorW.PrintWords
set_option linter.unusedVariables false
/-- The bytes with the bit turned that has this place, if one has. -/
def turnB (s : ByteArray) (p : Nat) : ByteArray := match (List.range 64).find? (fun k => placeN k == p) with | some k => flipB s k | none => s
theorem find_at (f : Nat → Bool) : ∀ (n k : Nat), k < n → f k = true → (∀ j, j < k → f j = false) → (List.range n).find? f = some k
  | 0, k, h, _, _ => absurd h (by omega)
  | n + 1, k, h, h1, h2 => by
    rw [List.range_succ, List.find?_append]
    by_cases e : k < n
    · rw [find_at f n k e h1 h2]; rfl
    · obtain rfl : k = n := by omega
      rw [List.find?_eq_none.2 (fun x hx => by rw [h2 x (List.mem_range.1 hx)]; simp)]
      simp [h1]
theorem find_none (f : Nat → Bool) (n : Nat) (h2 : ∀ j, j < n → f j = false) : (List.range n).find? f = none :=
  List.find?_eq_none.2 (fun x hx => by rw [h2 x (List.mem_range.1 hx)]; simp)
theorem turnB_at (s : ByteArray) (p k : Nat) (hk : k < 64) (h1 : placeN k = p) (h2 : ∀ j, j < k → placeN j ≠ p) : turnB s p = flipB s k := by
  unfold turnB
  rw [find_at _ 64 k hk (by simpa using h1) (fun j hj => by simpa using h2 j hj)]
theorem turnB_none (s : ByteArray) (p : Nat) (h2 : ∀ j, j < 64 → placeN j ≠ p) : turnB s p = s := by
  unfold turnB
  rw [find_none _ 64 (fun j hj => by simpa using h2 j hj)]
set_option maxHeartbeats 2000000 in
set_option maxRecDepth 100000 in
theorem turned_core (s : ByteArray) (p : Nat) (w : World) (hT : Aside0 (Tabs w)) (hs : s.size = 8) :
    Calls Tryd.prog 21 #[.string s, .int .u8 (p : Int)] w fun e w' => e = .returned (.string (turnB s p)) ∧ Below w.heap.size w w' := by
  go_enter Tryd.func21, Tryd.ntmps21
  go_wp2
  go_loopw [5] (fun i wr => ∃ k : Nat, k ≤ 64 ∧ i = .int .i64 k ∧ Aside0 (∀ j, j < k → placeN j ≠ p) ∧ Drawn0 w wr) (fun i _ => 64 - (intOf i).toNat)
  case atStart => exact ⟨0, Nat.zero_le _, rfl, Aside0.mk (fun j hj => absurd hj (by omega)), Drawn0.refl _⟩
  case round =>
    obtain ⟨k, hk, rfl, hj, hd⟩ := hrel
    by_cases hlt : k < 64
    · have yk : decide ((k : Int) < 64) = true := decide_eq_true (by omega)
      obtain ⟨t1, t2⟩ := place_tab k hlt
      have cJ := (tabs_below hT.out hd.below).cell k hlt
      rw [t1] at cJ
      by_cases he : placeN k = p
      · have ye : (((placeN k : Nat) : Int) == (p : Int)) = true := by rw [beq_iff_eq, he]
        have hi' : k / 8 < s.data.toList.length := by
          have : s.data.toList.length = s.size := by rw [Array.length_toList]; rfl
          omega
        have hfl : flipB s k = ⟨(s.data.toList.set (k / 8) (UInt8.ofNat (s.data.toList[k / 8].toNat ^^^ 2 ^ (k % 8)))).toArray⟩ := by
          unfold flipB
          rw [List.getD_eq_getElem?_getD, List.getElem?_eq_getElem hi']; rfl
        obtain ⟨y1, y2⟩ := shl_pow s.data.toList[k / 8].toNat (k % 8) s.data.toList[k / 8].toNat_lt (by omega)
        have hres := Lib.hid ((turnB_at s p k hlt he hj.out).trans hfl)
        have hv : (UInt8.ofNat (s.data.toList[k / 8].toNat ^^^ 2 ^ (k % 8))).toNat = s.data.toList[k / 8].toNat ^^^ 2 ^ (k % 8) := by rw [UInt8.toNat_ofNat', Nat.mod_eq_of_lt y2]
        rw [← hv] at y1
        revert y1 hres
        generalize UInt8.ofNat (s.data.toList[k / 8].toNat ^^^ 2 ^ (k % 8)) = v
        intro y1 hres
        obtain ⟨x, hx⟩ : ∃ x, x = s.data.toList[k / 8].toNat := ⟨_, rfl⟩
        rw [← hx] at y1
        have hconv := fun (W : World) => run_bytes_of_string (P := Tryd.prog) W 9 38 5 s Tryd.underlying9 Tryd.underlying38 Tryd.underlying5
        have hz : ((s.size : Nat) : Int) = 8 := by omega
        have hr := rowB_made s wr 5 (grownCap wr 8 0 5)
        have r1 := hr.drawn (w' := World.drew _) ⟨⟨1, rfl⟩⟩
        have k1 := r1.cell (k / 8) hi'
        rw [← hx] at k1
        have f1 := r1.free (k / 8) hi'
        have r2 := (hr.set (k / 8) hi' v).drawn (w' := World.drew _) ⟨⟨1, rfl⟩⟩
        have hb := r2.back (grownCap wr 8 0 5)
        have hB := r2.below
        rw [List.length_set, Array.length_toList, show s.data.size = 8 from hs] at hb
        clear hr r1 r2 hx hfl y2 t1 t2 hv
        go_wp2_with fail
        go_ret
        exact ⟨by rw [hres.out]; rfl, hd.below.trans (hB.mono (hd.below).size)⟩
      · have ye : (((placeN k : Nat) : Int) == (p : Int)) = false := by rw [beq_eq_false_iff_ne]; omega
        go_wp2
        go_roundw
        case rel => exact ⟨k + 1, by omega, by go_num, Aside0.mk (fun j hj' => by by_cases e : j = k; (rw [e]; exact he); exact hj.out j (by omega)), hd⟩
        case measure => simp [intOf]; omega
    · have yk : decide ((k : Int) < 64) = false := decide_eq_false (by omega)
      have hres := Lib.hid (turnB_none s p fun j hj' => hj.out j (by omega))
      go_wp2
      go_ret
      exact ⟨by rw [hres.out]; rfl, hd.below⟩
def ham_turned.f (a0 : ByteArray) (a1 : Int) : Option ByteArray := if a0.size = 8 ∧ 0 ≤ a1 then some (turnB a0 a1.toNat) else none
theorem ham_turned.calls (a0 : ByteArray) (a1 : Int) (r : ByteArray) (w : World) (hT : Aside0 (Tabs w)) (h : ham_turned.f a0 a1 = some r) :
    Calls Tryd.prog 21 #[.string a0, .int .u8 a1] w fun e w' => e = .returned (.string r) ∧ Below w.heap.size w w' := by
  unfold ham_turned.f at h
  split at h
  case isFalse => cases h
  case isTrue hs =>
  obtain rfl := Option.some.inj h
  obtain ⟨c, rfl⟩ := Int.eq_ofNat_of_zero_le hs.2
  exact turned_core a0 c w hT hs.1
end Go.Proofs.YtalnbmpfgmpkbaaDoor.PQ
