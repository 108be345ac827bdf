/- The contract of ham.left: of eight bytes, the places of the bits that are 1, put together, and how many these are; where the table lies as laid. -/
import Derived.Test.YtalnbmpfgmpkbaaDoorTabs
import Derived.Test.YtalnbmpfgmpkbaaDoorOnes
import Derived.WalkSpells
import Derived.WalkLawsBesides
import Derived.Laws.BitsAllLaws
import Derived.LoopTactic
import Derived.Lib.Hide
namespace Go.Proofs.YtalnbmpfgmpkbaaDoor.PQ
open Go.RowKit Go.Proofs.YtalnbmpfgmpkbaaDoorW.PrintWords
set_option linter.unusedVariables false
def bytesL (s : ByteArray) : List Nat := s.data.toList.map (·.toNat)
/-- The place of bit number j. -/
def placeN (j : Nat) : Nat := (tabP.getD j 0).toNat
/-- The places of a byte's bits that are 1, put together. -/
def synB (i b : Nat) : Nat := (List.range 8).foldl (fun p k => if b.testBit k then p ^^^ placeN (8 * i + k) else p) 0
def leftP (l : List Nat) : Nat → Nat
  | 0 => 0
  | k + 1 => leftP l k ^^^ synB k (l.getD k 0)
def leftN (l : List Nat) : Nat → Nat
  | 0 => 0
  | k + 1 => leftN l k + onesN (l.getD k 0)
theorem place_tab : ∀ j < 64, tabP.getD j 0 = ((placeN j : Nat) : Int) ∧ placeN j < 128 := by decide +kernel
theorem syn_step : ∀ i < 8, ∀ c < 256, c ≠ 0 → lowN c < 8 ∧ synB i c = placeN (8 * i + lowN c) ^^^ synB i (c &&& (c - 1)) ∧ onesN c = onesN (c &&& (c - 1)) + 1 := by decide +kernel
theorem syn_zero : ∀ i < 8, synB i 0 = 0 := by decide +kernel
theorem ones_le : ∀ c < 256, onesN c ≤ 8 := by decide +kernel
def ham_left.f (a0 : ByteArray) : Option (Int × Int) := if a0.size = 8 then some ((leftP (bytesL a0) 8 : Int), (leftN (bytesL a0) 8 : Int)) else none
theorem leftN_le (l : List Nat) (hl : ∀ x ∈ l, x < 256) : ∀ k, leftN l k ≤ 8 * k
  | 0 => Nat.le_refl _
  | k + 1 => by
    have := leftN_le l hl k
    have := ones_le (l.getD k 0) (by
      rw [List.getD_eq_getElem?_getD]
      cases e : l[k]? with
      | none => simp
      | some b => exact hl b (List.mem_of_getElem? e))
    show leftN l k + onesN (l.getD k 0) ≤ _
    omega
theorem bytesL_lt0 (s : ByteArray) : ∀ b ∈ bytesL s, b < 256 := by
  intro b hb
  unfold bytesL at hb
  obtain ⟨c, _, rfl⟩ := List.mem_map.1 hb
  exact c.toNat_lt
theorem bytesL_at (s : ByteArray) (k : Nat) (h : k < s.size) : (bytesL s).getD k 0 = s[k].toNat := by
  unfold bytesL
  rw [List.getD_eq_getElem?_getD, List.getElem?_map, List.getElem?_eq_getElem (by simpa using h)]
  rfl
theorem syn_lt : ∀ i < 8, ∀ c < 256, synB i c < 128 := by decide +kernel
theorem getD_lt0 (l : List Nat) (hl : ∀ x ∈ l, x < 256) (k : Nat) : l.getD k 0 < 256 := by
  rw [List.getD_eq_getElem?_getD]
  cases e : l[k]? with
  | none => simp
  | some b => exact hl b (List.mem_of_getElem? e)
theorem leftP_lt (l : List Nat) (hl : ∀ x ∈ l, x < 256) : ∀ k, k ≤ 8 → leftP l k < 128
  | 0, _ => by show 0 < 128; omega
  | k + 1, h => Nat.xor_lt_two_pow (n := 7) (leftP_lt l hl k (by omega)) (syn_lt k (by omega) _ (getD_lt0 l hl k))
theorem and_pred_lt (c : Nat) (h : c ≠ 0) : c &&& (c - 1) < c := by
  have := @Nat.and_le_right c (c - 1)
  omega
set_option maxHeartbeats 2000000 in
set_option maxRecDepth 100000 in
theorem left_core (a0 : ByteArray) (w : World) (hT : Aside0 (Tabs w)) (h8 : a0.size = 8) :
    Calls Tryd.prog 16 #[.string a0] w fun e w' => e = .returned (.tuple #[.int .u8 (leftP (bytesL a0) 8 : Int), .int .i64 (leftN (bytesL a0) 8 : Int)]) ∧ Drawn0 w w' := by
  have hN := Lib.hid (leftN_le (bytesL a0) (bytesL_lt0 a0))
  have hP := Lib.hid (leftP_lt (bytesL a0) (bytesL_lt0 a0))
  go_enter Tryd.func16, Tryd.ntmps16
  go_wp2
  go_loopw [4, 5, 8] (fun p n i wr => ∃ k : Nat, k ≤ 8 ∧ i = .int .i64 k ∧ p = .int .u8 (leftP (bytesL a0) k : Int) ∧ n = .int .i64 (leftN (bytesL a0) k : Int) ∧ Drawn0 w wr) (fun _ _ i _ => 8 - (intOf i).toNat)
  case atStart => exact ⟨0, Nat.zero_le _, rfl, rfl, rfl, Drawn0.refl _⟩
  case round =>
    obtain ⟨k, hk, rfl, rfl, rfl, hd⟩ := hrel
    by_cases hlt : k < 8
    · have hlt0 : k < a0.size := by omega
      have hb := bytesL_at a0 k hlt0
      have hB : a0[k].toNat < 256 := a0[k].toNat_lt
      have eP : leftP (bytesL a0) (k + 1) = leftP (bytesL a0) k ^^^ synB k (a0[k].toNat) := by rw [← hb]; rfl
      have eN : leftN (bytesL a0) (k + 1) = leftN (bytesL a0) k + onesN (a0[k].toNat) := by rw [← hb]; rfl
      have bN := hN.out (k + 1)
      replace eP := Lib.hid eP
      replace eN := Lib.hid eN
      clear hb
      have yk : decide ((k : Int) < 8) = true := decide_eq_true (by omega)
      go_wp2
      try rw [yk]
      go_loopw [4, 5, 7] (fun p n c wr => ∃ x m q : Nat, x < 256 ∧ c = .int .u8 x ∧ p = .int .u8 q ∧ n = .int .i64 m ∧ q ^^^ synB k x = leftP (bytesL a0) (k + 1) ∧ m + onesN x = leftN (bytesL a0) (k + 1) ∧ q < 128 ∧ Drawn0 w wr) (fun _ _ c _ => (intOf c).toNat)
      case atStart => exact ⟨a0[k].toNat, leftN (bytesL a0) k, leftP (bytesL a0) k, hB, rfl, rfl, rfl, eP.out.symm, eN.out.symm, hP.out k (by omega), hd⟩
      case round =>
        obtain ⟨x, m, q, hx, rfl, rfl, rfl, e1, e2, hq, hd⟩ := hrel
        by_cases h0 : x = 0
        · subst h0
          rw [syn_zero k hlt, Nat.xor_zero] at e1
          have z : onesN 0 = 0 := by decide
          rw [z, Nat.add_zero] at e2
          subst e1 e2
          clear hq eP eN
          go_wp2
          refine ⟨⟨k + 1, by omega, by go_num, rfl, rfl, hd⟩, by simp [intOf]; omega⟩
        · obtain ⟨s1, s2, s3⟩ := syn_step k hlt x hx h0
          have y0 : ((x : Int) == 0) = false := by rw [beq_eq_false_iff_ne]; omega
          obtain ⟨t1, t2⟩ := place_tab (8 * k + lowN x) (by omega)
          have cJ := (tabs_below hT.out hd.below).cell (8 * k + lowN x) (by omega)
          rw [t1] at cJ
          have hlow : x &&& (x - 1) < x := and_pred_lt x h0
          have g1 : bits .xor .u8 (q : Int) (placeN (8 * k + lowN x) : Int) = ((q ^^^ placeN (8 * k + lowN x) : Nat) : Int) := u8_xor_nat _ _ (by omega) (by omega)
          have g2 : bits .and .u8 (x : Int) ((x : Int) - 1) = ((x &&& (x - 1) : Nat) : Int) := by
            rw [show (x : Int) - 1 = ((x - 1 : Nat) : Int) from by omega]; exact u8_and_nat _ _ (by omega) (by omega)
          have e1' : (q ^^^ placeN (8 * k + lowN x)) ^^^ synB k (x &&& (x - 1)) = leftP (bytesL a0) (k + 1) := by rw [Nat.xor_assoc, ← s2]; exact e1
          have e2' : (m + 1) + onesN (x &&& (x - 1)) = leftN (bytesL a0) (k + 1) := by omega
          have hq' : (q ^^^ placeN (8 * k + lowN x)) < 128 := Nat.xor_lt_two_pow (n := 7) hq t2
          replace e1' := Lib.hid e1'
          replace e2' := Lib.hid e2'
          clear t1 s2 s3 e1 eP eN t2
          go_wp2_with (go_at_call 24; refine (low_core x _ hx).mono ?_; rintro e w2 ⟨rfl, ⟨nd, rfl⟩⟩)
          go_roundw
          case rel => exact ⟨x &&& (x - 1), m + 1, q ^^^ placeN (8 * k + lowN x), by omega, rfl, by go_num, by go_num, e1'.out, e2'.out, hq', hd.step _⟩
          case measure => simp [intOf]; omega
    · obtain rfl : k = 8 := by omega
      go_wp2
      go_ret2
      exact ⟨rfl, hd⟩
theorem ham_left.calls (a0 : ByteArray) (r1 r2 : Int) (w : World) (hT : Aside0 (Tabs w)) (h : ham_left.f a0 = some (r1, r2)) :
    Calls Tryd.prog 16 #[.string a0] w fun e w' => e = .returned (.tuple #[.int .u8 r1, .int .i64 r2]) ∧ Drawn0 w w' := by
  unfold ham_left.f at h
  split at h
  · rename_i h8
    obtain ⟨rfl, rfl⟩ := Prod.mk.inj (Option.some.inj h)
    exact left_core a0 w hT h8
  · cases h
end Go.Proofs.YtalnbmpfgmpkbaaDoor.PQ
